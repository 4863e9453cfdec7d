/-
  Packed:1 texts.
-/
import Derived.Test.YtpdjjjdkhedibaaGreatDoorY1
import Derived.Test.YtpdjjjdkhedibaaGreatDoorY12
import Derived.Test.YtpdjjjdkhedibaaGreatDoorY15
import Derived.Test.YtpdjjjdkhedibaaGreatDoorY14
set_option linter.unusedVariables false
set_option linter.unusedSimpArgs false
set_option maxHeartbeats 16000000
set_option maxRecDepth 100000
open Go Go.Proofs.YtpdjjjdkhedibaaGreatDoor
open Go.RowKit.Below renaming refl->yD
open Go renaming cell_of_row->yi,heap_alloc_new->yv
open List renaming foldl_cons->yy,foldl_nil->yw,range->yC
open List.range renaming loop->yz
namespace Go.Proofs.YtpdjjjdkhedibaaGreatDoor
open Go.Proofs.Tryz
open Go.RowKit
theorem fnTouchOne.walkR(v:Value)(bs:List Int)(w:World)(h:Ft w v bs):
 Calls prog 5 #[v] w λe w'=>e=.returned (.bool true)/\Below w.heap.size w w':=by
 obtain⟨ao,c,hv,hc,cY,hA⟩:=h.open;subst hv;unfold maxLen at cY
 by_cases hl:1048576<bs.length
 .have t0:(1048576:Int)<bs.length:=by omega
  go_in;go_wp2_with fail;go_ret;exact⟨rfl,yD _ _⟩
 have t0:¬(1048576:Int)<bs.length:=by omega
 go_in;go_wp2_with fail;refine(GZ _ bs _ h).mono ?_;rintro e w1 ⟨m1,i1,e1,c1,s1,l1,q1,P,n,rfl,R1,hs,b1⟩;clear hA h;obtain⟨⟨⟨bn,a5,bb,rfl⟩,⟨a3,a0,a1,rfl⟩,⟨bq,a7,bf,rfl⟩,⟨br,a8,bi,rfl⟩⟩,⟨bm,a4,a9,rfl⟩,⟨bp,a6,be,rfl⟩,⟨b0,cf,bt,rfl⟩⟩:=R1.shp;unfold AO;have N1:=yv w1 (.cells #[.slice bn a5 bb,.slice a3 a0 a1,.slice bq a7 bf,.slice br a8 bi,.slice bm a4 a9,.slice bp a6 be,.slice b0 cf bt,.int .i64 P.zR,.int .i64 P.zU] 32);have bA:=AE w1 (.cells #[.slice bn a5 bb,.slice a3 a0 a1,.slice bq a7 bf,.slice br a8 bi,.slice bm a4 a9,.slice bp a6 be,.slice b0 cf bt,.int .i64 P.zR,.int .i64 P.zU] 32);have R2:=R1.below bA;obtain⟨T,hT⟩:∃T,T=Gj P n:=⟨_,rfl⟩
 have CI:=WU _ _ _ _ _ _ _ P n _ R2 hs;rw[<-hT] at CI;unfold aE at CI;have HT:=AA hT;clear hT;have b9:=b1.trans (bA.mono b1.size);unfold AO at CI;obtain⟨x0,x1,x2,x3,x4,x5,x6,x7,x8⟩:=AD N1;go_wp2_with fail;generalize w1.alloc _=W1 at*;generalize w1.heap.size=gp at*;refine CI.mono ?_;rintro e w2 ⟨m2,i2,e2,c2,s2,l2,q2,rfl,RI,b2⟩;clear CI bA b1 R1;have RS:=R2.below b2;obtain⟨⟨⟨cN,ch,cv,rfl⟩,⟨cR,cl,cz,rfl⟩,⟨cT,cn,cF,rfl⟩,⟨cV,cp,cH,rfl⟩⟩,⟨cJ,cc,cr,rfl⟩,⟨cP,cj,cx,rfl⟩,⟨cL,ce,ct,rfl⟩⟩:=RI.shp;have N2:=yv w2 (.cells #[.slice cN ch cv,.slice cR cl cz,.slice cT cn cF,.slice cV cp cH,.slice cJ cc cr,.slice cP cj cx,.slice cL ce ct,.int .i64 T.1.zR,.int .i64 T.1.zU] 32);have bB:=AE w2 (.cells #[.slice cN ch cv,.slice cR cl cz,.slice cT cn cF,.slice cV cp cH,.slice cJ cc cr,.slice cP cj cx,.slice cL ce ct,.int .i64 T.1.zR,.int .i64 T.1.zU] 32);have bl:=b2.trans (bB.mono b2.size);have M1:=AC N1 bl;have CS:=WV _ _ _ _ _ _ _ P n _ (RS.below bB) hs;unfold aE AO at CS;rw[<-HT.out] at CS;have cW:=RI.below bB;clear x0 x1 x2 x3 x4 x5 x6 x7 x8;obtain⟨x0,x1,x2,x3,x4,x5,x6,x7,x8⟩:=AD M1;go_wp2_with fail;generalize w2.alloc _=W2 at*;generalize w2.heap.size=gq at*;refine CS.mono ?_;rintro e w3 ⟨m3,i3,e3,c3,s3,l3,q3,rfl,RW,b3⟩;clear CS bB b2 RS RI;obtain⟨⟨⟨cM,cg,cu,rfl⟩,⟨cQ,ck,cy,rfl⟩,⟨cS,cm,cC,rfl⟩,⟨cU,co,cG,rfl⟩⟩,⟨cI,cb,cq,rfl⟩,⟨cO,ci,cw,rfl⟩,⟨cK,cd,cs,rfl⟩⟩:=RW.shp;have N3:=yv w3 (.cells #[.slice cM cg cu,.slice cQ ck cy,.slice cS cm cC,.slice cU co cG,.slice cI cb cq,.slice cO ci cw,.slice cK cd cs,.int .i64 T.1.zR,.int .i64 T.1.zU] 32);have bC:=AE w3 (.cells #[.slice cM cg cu,.slice cQ ck cy,.slice cS cm cC,.slice cU co cG,.slice cI cb cq,.slice cO ci cw,.slice cK cd cs,.int .i64 T.1.zR,.int .i64 T.1.zU] 32);have a2:=b3.trans (bC.mono b3.size);have M2:=AC N2 a2;have M3:=AC M1 a2;have R3:=cW.below a2;have R4:=RW.below bC;have b8:=b9.trans ((bl.trans (a2.mono bl.size)).mono b9.size);have SM:=FB _ _ _ _ _ _ _ _ _ _ _ _ _ _ T.1 _ R3 R4;unfold AO at SM;have cX:=(R2.below bl).below a2;clear x0 x1 x2 x3 x4 x5 x6 x7 x8 N1 M1 N2 bl a2 bC b3 b9 R2 cW RW;obtain⟨x0,x1,x2,x3,x4,x5,x6,x7,x8⟩:=AD M2;obtain⟨y0,y1,y2,y3,y4,y5,y6,y7,y8⟩:=AD N3;go_wp2_with fail;generalize w3.alloc _=W3 at*;generalize w3.heap.size=gw at*;refine SM.mono ?_;rintro e w4 ⟨rfl,b4⟩;have bN:=b8.trans (b4.mono b8.size);have R5:=R3.below b4;have R6:=R4.below b4;have N5:=AC M2 b4;have N6:=AC N3 b4;have R7:=cX.below b4;have N7:=AC M3 b4;clear cX M3;clear SM x0 x1 x2 x3 x4 x5 x6 x7 x8 y0 y1 y2 y3 y4 y5 y6 y7 y8 M2 N3 R3 R4 b8 b4;cases ht:T.2
 .have SM:=FB _ _ _ _ _ _ _ _ _ _ _ _ _ _ T.1 _ R5 R6
  unfold AO at SM;obtain⟨x0,x1,x2,x3,x4,x5,x6,x7,x8⟩:=AD N5;obtain⟨y0,y1,y2,y3,y4,y5,y6,y7,y8⟩:=AD N6;go_wp2_with fail;refine SM.mono ?_;rintro e w5 ⟨rfl,b5⟩;go_wp2_with fail;go_ret;exact⟨rfl,bN.trans (b5.mono bN.size)⟩
 .obtain⟨hP,h0,c7,bY⟩:=QU (P:=P) (n:=n) (by rw[<-HT.out,<-ht])
  obtain⟨a,rfl⟩:=Int.eq_ofNat_of_zero_le h0;rw[Int.toNat_natCast,<-HT.out] at bY;have TO:=LZ hP (n:=a) (by omega) (by rw[<-bY,ht]);rw[<-bY] at TO;obtain⟨m,hm,ax⟩:=TO.one;obtain⟨_,_,e1,_,_,HX⟩:=BD.open DT (by decide) R7.2.2.2;obtain⟨_,_,e2,_,_,HY⟩:=BD.open DT (by decide) R5.2.2.2;have bu:=hP.zO;have b6:=TO.ok.zO;have CF:=AA (λW (hW:Below w4.heap.size w4 W)=>Mm (.slice bn a5 bb) (.slice a3 a0 a1) (.slice bq a7 bf) (.slice br a8 bi) (.slice bm a4 a9) (.slice bp a6 be) _ P W (BD.below R7.2.2.2 hW) (by rw[bu];decide));have CI:=AA (λW (hW:Below w4.heap.size w4 W)=>LG _ P.zV.zZ W (BD.below R7.1.2.1 hW) (At hP.k).2.1);rw[bu] at e1;rw[b6] at e2;cases e1;cases e2;unfold AO at CF;have HX:=AA (λk (hk:k<16)=>HX.zq (k:=k) (by rw[bu];exact hk));have HY:=AA (λk (hk:k<16)=>HY.zq (k:=k) (by rw[b6];exact hk));have Hm:=AA hm;have Hs:=AA ax;clear hP TO bu b6 bY h0 ht HT R5 R6 R7 N6 hs hm ax;have ca:=AA N7;have c5:=AA N5;have H4:=AA bN;obtain⟨x0,x1,x2,x3,x4,x5,x6,x7,x8⟩:=AD N7;obtain⟨y0,y1,y2,y3,y4,y5,y6,y7,y8⟩:=AD N5;go_wp2_with fail;clear x0 x1 x2 x3 x4 x5 x6 x7 x8 y0 y1 y2 y3 y4 y5 y6 y7 y8 N7 N5 bN;go_loopw [9,10] (λc i wr=>∃k:Nat,k<=16/\i=.int .i64 k/\c=.int .i64 ((if m≠a/\m<k then 1 else 0:Nat):Int)/\Below w4.heap.size w4 wr) (λ_ i _=>16 - (intOf i).toNat)
  case atStart=>exact⟨0,Nat.zero_le _,rfl,by rw[if_neg (by omega)];rfl,yD _ _⟩
  case round=>
   obtain⟨k,hk,rfl,rfl,hb⟩:=hrel
   by_cases ay:k<16
   .obtain⟨bx,ox,e1,b7,D0,D1,D2⟩:=HX.out k ay
    cases e1;obtain⟨bz,oz,e2,bK,E0,E1,E2⟩:=HY.out k ay;cases e2;have c6:(k:Int)<16:=by omega
    have d0:=(hb.cell (p:=⟨bx,ox+k*3,none⟩) b7).trans D0;have d1:=(hb.cell (p:=⟨bx,ox+k*3+1,none⟩) b7).trans D1;have d2:=(hb.cell (p:=⟨bx,ox+k*3+2,none⟩) b7).trans D2;generalize hpx:AB P.zY k=px at d0 d1 d2;generalize hpy:AB T.1.zY k=py at E0 E1 E2;have az:=Nat.lt_of_lt_of_le bK hb.size;have bA:=AE wr (.cells #[.int .i64 px.w,.int .i64 px.a,.bool px.u] 43);have NA:=yv wr (.cells #[.int .i64 px.w,.int .i64 px.a,.bool px.u] 43);have bB:=AE (wr.alloc (.cells #[.int .i64 px.w,.int .i64 px.a,.bool px.u] 43)) (.cells #[.int .i64 py.w,.int .i64 py.a,.bool py.u] 43);have NB:=yv (wr.alloc (.cells #[.int .i64 px.w,.int .i64 px.a,.bool px.u] 43)) (.cells #[.int .i64 py.w,.int .i64 py.a,.bool py.u] 43);rw[show(wr.alloc (.cells #[.int .i64 px.w,.int .i64 px.a,.bool px.u] 43)).heap.size=wr.heap.size+1 by simp] at NB;have f0:=(bA.cell (p:=⟨bz,oz+k*3,none⟩) az).trans ((hb.cell (p:=⟨bz,oz+k*3,none⟩) bK).trans E0);have f1:=(bA.cell (p:=⟨bz,oz+k*3+1,none⟩) az).trans ((hb.cell (p:=⟨bz,oz+k*3+1,none⟩) bK).trans E1);have f2:=(bA.cell (p:=⟨bz,oz+k*3+2,none⟩) az).trans ((hb.cell (p:=⟨bz,oz+k*3+2,none⟩) bK).trans E2);have q0:=yi _ _ 0 _ _ _ (AC NA bB);have q1:=yi _ _ 1 _ _ _ (AC NA bB);have r0:=yi _ _ 0 _ _ _ NB;have r1:=yi _ _ 1 _ _ _ NB;obtain⟨x0,x1,x2,x3,x4,x5,x6,x7,x8⟩:=AD (AC ca.out hb);obtain⟨y0,y1,y2,y3,y4,y5,y6,y7,y8⟩:=AD (AC (AC c5.out hb) bA);have HB:=AA (hb.trans ((bA.trans (bB.mono bA.size)).mono hb.size));have HA:=AA (Hs.out k ay);have HM:=AA (show m=k->m≠a->(AB P.zY k).w=1/\(AB T.1.zY k).w=2 from λh1 h2=>by
     rcases Hm.out with h3|⟨h3,h4,_⟩
     .exact absurd h3 h2
     .rw[h1] at h3 h4;exact⟨h3,h4⟩)
    rw[hpx,hpy] at HA HM;clear D0 D1 D2 E0 E1 E2 hb bA bB NA NB hpx hpy
    by_cases bk:k=a
    .have S:=AA (show(if m≠a/\m<k+1 then 1 else 0:Nat)=if m≠a/\m<k then 1 else 0 by by_cases h:m≠a/\m<k;(· rw[if_pos h,if_pos (by omega)]);(· rw[if_neg h,if_neg (by omega)]))
     have tk:((k:Int) !=(a:Int))=false:=by simp[bk]
     generalize(if m≠a/\m<k then 1 else 0:Nat)=c at*;clear bk;go_wp2_with fail;go_roundw
     case rel=>exact⟨k+1,by omega,by go_num,by rw[S.out],HB.out⟩
     case measure=>simp[intOf];omega
    .have tk:((k:Int) !=(a:Int))=true:=by simp;omega
     by_cases bw:m=k
     .obtain⟨h1,h2⟩:=HM.out bw (by omega)
      have S:=AA (show(if m≠a/\m<k+1 then 1 else 0:Nat)=1 by rw[if_pos (by omega)]);rw[if_neg (by omega)];have t1:(px.w !=py.w)=true:=by simp[h1,h2]
      have t2:(px.w !=1)=false:=by simp[h1]
      have t3:(py.w !=2)=false:=by simp[h2]
      clear bk bw h1 h2;go_wp2_with fail;go_roundw
      case rel=>exact⟨k+1,by omega,by go_num,by rw[S.out];rfl,HB.out⟩
      case measure=>simp[intOf];omega
     .obtain⟨h1,h2⟩:=HA.out bk (λe=>bw e.symm)
      have S:=AA (show(if m≠a/\m<k+1 then 1 else 0:Nat)=if m≠a/\m<k then 1 else 0 by by_cases h:m≠a/\m<k;(· rw[if_pos h,if_pos (by omega)]);(· rw[if_neg h,if_neg (by omega)]));generalize(if m≠a/\m<k then 1 else 0:Nat)=c at*;have t1:(px.w !=py.w)=false:=by simp[h1]
      have t2:(px.a !=py.a)=false:=by simp[h2]
      clear bk bw h1 h2;go_wp2_with fail;go_roundw
      case rel=>exact⟨k+1,by omega,by go_num,by rw[S.out],HB.out⟩
      case measure=>simp[intOf];omega
   .obtain rfl:k=16:=by omega
    have ab:=Nat.lt_of_lt_of_le (AW ca.out) hb.size;obtain⟨z0,z1,z2,z3,z4,z5,z6,z7,z8⟩:=AD (AC ca.out hb);have HZ:=AA (H4.out.trans (hb.mono H4.out.size));have CF:=AA (λW (hW:Below wr.heap.size wr W)=>CF.out W (hb.trans (hW.mono hb.size)));have CI:=AA (λW (hW:Below wr.heap.size wr W)=>CI.out W (hb.trans (hW.mono hb.size)));clear hb;have c0:=AA (λh:Am P.zV.zZ<0=>MO.1 h)
    by_cases hc:m≠a/\m<16
    .rw[if_pos hc]
     have h9:=Hm.out.resolve_left hc.1;clear hc
     by_cases he:(Ac P.zY 1:Int)=P.zU
     .have E9:=AA (show((Ac P.zY 1:Int)==P.zU)=true by simp[he])
      clear he h9;go_wp2_with fail;refine AY 20 115 [.i 1,.b true,.b true,.i 1,.b false,.b false,.a #[.slice bn a5 bb,.slice a3 a0 a1,.slice bq a7 bf,.slice br a8 bi,.slice bm a4 a9,.slice bp a6 be,.slice b0 16 bt,.int .i64 P.zR,.int .i64 P.zU],.i ((Ac P.zY 1:Int)),.p gp 8,.i P.zU,.b true,.b true,.b true,.u,.u,.u,.u,.u,.b true,.b true] (λ_ _ _=>True) ?_ ?_
      .intro i hi o ho a wx Hb Hd hG K HK
       have av:=bc hG ab z0;have au:=bc hG ab z1;have ar:=bc hG ab z2;have aq:=bc hG ab z3;have am:=bc hG ab z4;have al:=bc hG ab z5;have ai:=bc hG ab z6;have ae:=bc hG ab z7;have ad:=bc hG ab z8
       match i,hi with
       |0,_|2,_|3,_|5,_|8,_|11,_|12,_|18,_|19,_=>exact sP ho HK Hb Hd
       |6,_=>exact sL ho HK Hb Hd (hl:=Qz ‹_› ‹_› ‹_› ‹_› ‹_› ‹_› ‹_› ‹_› ‹_›)
       |7,_=>exact sD ho HK Hb Hd (CF.out _ hG)
       |9,_=>exact sL ho HK Hb Hd (hl:=Fp ‹_›)
       |13,_|14,_|15,_|16,_|17,_=>exact sB ho HK Hd
       |1,_=>clear av au ar aq am al ai ae ad;obtain rfl:=yF ho;have d0:(a.tmps[95]?.getD undef)=.int .i64 1:=BM Hd 0;clear Hd Hb;refine yE ?_;go_simp;exact HK.out _ _ rfl (yD _ _)
       |4,_=>clear av au ar aq am al ai ae ad;obtain rfl:=yF ho;have d3:(a.tmps[98]?.getD undef)=.int .i64 1:=BM Hd 3;have d2:(a.tmps[97]?.getD undef)=.bool true:=BM Hd 2;clear Hd Hb;refine AV.yes rfl rfl d2 ?_;go_simp;exact HK.out _ _ rfl (yD _ _)
       |10,_=>clear av au ar aq am al ai ae ad;obtain rfl:=yF ho;have d7:(a.tmps[102]?.getD undef)=.int .i64 ((Ac P.zY 1:Int)):=BM Hd 7;have d9:(a.tmps[104]?.getD undef)=.int .i64 P.zU:=BM Hd 9;have d5:(a.tmps[100]?.getD undef)=.bool false:=BM Hd 5;clear Hd Hb;have te:((Ac P.zY 1:Int)==P.zU)=true:=E9.out;refine AV.yes rfl rfl d5 ?_;go_simp;exact HK.out _ _ rfl (yD _ _)
       |_+20,hq=>omega
      .intro vs wx hR hG
       have ac:(vs 19)=.bool true:=BW hR 19;clear hR;simp only[Aj,Ae,yC,yz,yy,yw,ac];simp;clear ac;go_wp2_with fail;go_ret;exact⟨rfl,HZ.out.trans (hG.mono HZ.out.size)⟩
     .have E9:=AA (show((Ac P.zY 1:Int)==P.zU)=false by simp[he])
      have F9:=AA (c0.out (h9.2.2.resolve_right he));clear he h9;go_wp2_with fail;refine AY 20 115 [.i 1,.b true,.b true,.i 1,.b false,.b false,.a #[.slice bn a5 bb,.slice a3 a0 a1,.slice bq a7 bf,.slice br a8 bi,.slice bm a4 a9,.slice bp a6 be,.slice b0 16 bt,.int .i64 P.zR,.int .i64 P.zU],.i ((Ac P.zY 1:Int)),.p gp 8,.i P.zU,.b false,.b false,.b false,.p gp 0,.p gp 1,.v (.slice a3 a0 a1),.i 0,.b true,.b true,.b true] (λ_ _ _=>True) ?_ ?_
      .intro i hi o ho a wx Hb Hd hG K HK
       have av:=bc hG ab z0;have au:=bc hG ab z1;have ar:=bc hG ab z2;have aq:=bc hG ab z3;have am:=bc hG ab z4;have al:=bc hG ab z5;have ai:=bc hG ab z6;have ae:=bc hG ab z7;have ad:=bc hG ab z8
       match i,hi with
       |0,_|2,_|3,_|5,_|8,_|11,_|12,_|13,_|14,_|18,_|19,_=>exact sP ho HK Hb Hd
       |6,_=>exact sL ho HK Hb Hd (hl:=Qz ‹_› ‹_› ‹_› ‹_› ‹_› ‹_› ‹_› ‹_› ‹_›)
       |7,_=>exact sD ho HK Hb Hd (CF.out _ hG)
       |9,_=>exact sL ho HK Hb Hd (hl:=Fp ‹_›)
       |15,_=>exact sL ho HK Hb Hd (hl:=F8 ‹_›)
       |16,_=>exact sC ho HK Hb Hd (CI.out _ hG) (by rintro e w_ ⟨rfl,cZ⟩;exact⟨_,rfl,(by rw[F9.out];rfl),cZ⟩)
       |1,_=>clear av au ar aq am al ai ae ad;obtain rfl:=yF ho;have d0:(a.tmps[95]?.getD undef)=.int .i64 1:=BM Hd 0;clear Hd Hb;refine yE ?_;go_simp;exact HK.out _ _ rfl (yD _ _)
       |4,_=>clear av au ar aq am al ai ae ad;obtain rfl:=yF ho;have d3:(a.tmps[98]?.getD undef)=.int .i64 1:=BM Hd 3;have d2:(a.tmps[97]?.getD undef)=.bool true:=BM Hd 2;clear Hd Hb;refine AV.yes rfl rfl d2 ?_;go_simp;exact HK.out _ _ rfl (yD _ _)
       |10,_=>clear av au ar aq am al ai ae ad;obtain rfl:=yF ho;have d7:(a.tmps[102]?.getD undef)=.int .i64 ((Ac P.zY 1:Int)):=BM Hd 7;have d9:(a.tmps[104]?.getD undef)=.int .i64 P.zU:=BM Hd 9;have d5:(a.tmps[100]?.getD undef)=.bool false:=BM Hd 5;clear Hd Hb;have te:((Ac P.zY 1:Int)==P.zU)=false:=E9.out;refine AV.yes rfl rfl d5 ?_;go_simp;exact HK.out _ _ rfl (yD _ _)
       |17,_=>clear av au ar aq am al ai ae ad;obtain rfl:=yF ho;have c8:(a.tmps[111]?.getD undef)=.int .i64 0:=BM Hd 16;have c4:(a.tmps[107]?.getD undef)=.bool false:=BM Hd 12;clear Hd Hb;refine AV.yes rfl rfl c4 ?_;go_simp;exact HK.out _ _ rfl (yD _ _)
       |_+20,hq=>omega
      .intro vs wx hR hG
       have ac:(vs 19)=.bool true:=BW hR 19;clear hR;simp only[Aj,Ae,yC,yz,yy,yw,ac];simp;clear ac;go_wp2_with fail;go_ret;exact⟨rfl,HZ.out.trans (hG.mono HZ.out.size)⟩
    .rw[if_neg hc]
     clear hc;go_wp2_with fail;refine AY 20 115 [.i 0,.b true,.b true,.i 0,.b true,.b true,.u,.u,.u,.u,.u,.b true,.b true,.u,.u,.u,.u,.u,.b true,.b true] (λ_ _ _=>True) ?_ ?_
     .intro i hi o ho a wx Hb Hd hG K HK
      match i,hi with
      |0,_|2,_|3,_|5,_|11,_|12,_|18,_|19,_=>exact sP ho HK Hb Hd
      |6,_|7,_|8,_|9,_|10,_|13,_|14,_|15,_|16,_|17,_=>exact sB ho HK Hd
      |1,_=>obtain rfl:=yF ho;have d0:(a.tmps[95]?.getD undef)=.int .i64 0:=BM Hd 0;clear Hd Hb;refine yE ?_;go_simp;exact HK.out _ _ rfl (yD _ _)
      |4,_=>obtain rfl:=yF ho;have d3:(a.tmps[98]?.getD undef)=.int .i64 0:=BM Hd 3;have d2:(a.tmps[97]?.getD undef)=.bool true:=BM Hd 2;clear Hd Hb;refine AV.yes rfl rfl d2 ?_;go_simp;exact HK.out _ _ rfl (yD _ _)
      |_+20,hq=>omega
     .intro vs wx hR hG
      have ac:(vs 19)=.bool true:=BW hR 19;clear hR;simp only[Aj,Ae,yC,yz,yy,yw,ac];simp;clear ac;go_wp2_with fail;go_ret;exact⟨rfl,HZ.out.trans (hG.mono HZ.out.size)⟩
end Go.Proofs.YtpdjjjdkhedibaaGreatDoor
