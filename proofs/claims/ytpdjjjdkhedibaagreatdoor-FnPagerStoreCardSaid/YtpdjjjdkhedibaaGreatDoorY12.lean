/-
  Packed:1 texts.
-/
import Derived.Test.YtpdjjjdkhedibaaGreatDoorY1
import Derived.Test.YtpdjjjdkhedibaaGreatDoorY11
import Derived.Test.YtpdjjjdkhedibaaGreatDoorY9
set_option linter.unusedVariables false
set_option linter.unusedSimpArgs false
set_option maxHeartbeats 16000000
set_option maxRecDepth 100000
open Go Go.Proofs.YtpdjjjdkhedibaaGreatDoor
namespace Go.Proofs.YtpdjjjdkhedibaaGreatDoor
open Go.Proofs.Tryz
open Go.RowKit
theorem UW{P:AR}{n x:Int}(h:(Gv P n x).2=true):∃a:Nat,n=a/\a<64/\Du P/\Du (Gv P n x).1/\D8 (Gv P n x).1 64=(D8 P 64).set a x:=by
 obtain⟨h1,h2,h3,h4,h5⟩:=Qq h;obtain⟨a,rfl⟩:=Int.eq_ofNat_of_zero_le h2;rw[h5] at h ⊢;rw[Int.toNat_natCast] at h ⊢;have ha:a<64:=by omega
 cases hy:(BN P (a/4)).2
 .rw[Lu h1 ha hy] at h;cases h
 .have s:=Nh h1 ha h4 hy
  refine⟨a,rfl,ha,h1,s.2.1,List.ext_getElem (by simp[D8]) λi h6 h7=>?_⟩;have hi:i<64:=by simpa[D8] using h6
  simp only[D8,List.getElem_set,List.getElem_map,List.getElem_range];rw[s.2.2.1 i hi]
  by_cases e:i=a
  .subst e;simp
  .rw[if_neg e,if_neg (λh=>e h.symm)]
theorem fnPagerStore.walkR(v:Value)(bs:List Int)(w:World)(h:EP w v bs):
 Calls prog 9 #[v] w λe w'=>e=.returned (.bool true)/\Below w.heap.size w w':=by
 obtain⟨ao,c,hv,hc,cl,hA⟩:=h.open;subst hv;unfold maxLen at cl
 by_cases hl:1048576<bs.length
 .have t0:(1048576:Int)<bs.length:=by omega
  go_in;go_wp2_with fail;go_ret;exact⟨rfl,Below.refl _ _⟩
 have t0:¬(1048576:Int)<bs.length:=by omega
 go_in;go_wp2_with fail;refine(Jf _ bs _ h).mono ?_;rintro e w1 ⟨m1,i1,e1,c1,s1,l1,q1,P,n,V,rfl,R1,hs,b1⟩;clear hA h;obtain⟨⟨⟨cw,a3,bx,rfl⟩,⟨cN,a9,ca,rfl⟩,⟨c0,bf,cd,rfl⟩,⟨c6,bl,ci,rfl⟩⟩,⟨cp,ax,bp,rfl⟩,⟨cz,a6,bN,rfl⟩,⟨cs,a0,bt,rfl⟩⟩:=R1.shp;unfold AN;obtain⟨N1,bA⟩:=Dd w1 (.cells #[.slice cw a3 bx,.slice cN a9 ca,.slice c0 bf cd,.slice c6 bl ci,.slice cp ax bp,.slice cz a6 bN,.slice cs a0 bt,.int .i64 P.zR,.int .i64 P.zU] 32);have R2:=R1.below bA;obtain⟨T,hT⟩:∃T,T=Gv P n V:=⟨_,rfl⟩
 have CI:=Zr _ _ _ _ _ _ _ P n V _ R2 hs;rw[<-hT] at CI;unfold ap at CI;have HT:=AA hT;clear hT;have al:=b1.trans (bA.mono b1.size);unfold AN at CI;obtain⟨z,A,E,H,J,K,L,N,O⟩:=AD N1;go_wp2_with fail;generalize w1.alloc _=W1 at*;generalize w1.heap.size=gp at*;refine CI.mono ?_;rintro e w2 ⟨m2,i2,e2,c2,s2,l2,q2,rfl,RI,b2⟩;clear CI bA b1 R1;have RS:=R2.below b2;obtain⟨⟨⟨cv,a2,bw,rfl⟩,⟨cF,a8,b0,rfl⟩,⟨cT,be,cc,rfl⟩,⟨c5,bk,cg,rfl⟩⟩,⟨cn,av,bn,rfl⟩,⟨cy,a5,bK,rfl⟩,⟨cr,az,br,rfl⟩⟩:=RI.shp;obtain⟨N2,bB⟩:=Dd w2 (.cells #[.slice cv a2 bw,.slice cF a8 b0,.slice cT be cc,.slice c5 bk cg,.slice cn av bn,.slice cy a5 bK,.slice cr az br,.int .i64 T.1.zR,.int .i64 T.1.zU] 32);have ae:=b2.trans (bB.mono b2.size);have M1:=AB N1 ae;have CS:=Zs _ _ _ _ _ _ _ P n V _ (RS.below bB) hs;unfold ap AN at CS;rw[<-HT.out] at CS;have aq:=RI.below bB;clear z A E H J K L N O;obtain⟨z,A,E,H,J,K,L,N,O⟩:=AD M1;go_wp2_with fail;generalize w2.alloc _=W2 at*;generalize w2.heap.size=gq at*;refine CS.mono ?_;rintro e w3 ⟨m3,i3,e3,c3,s3,l3,q3,rfl,RW,b3⟩;clear CS bB b2 RS RI;obtain⟨⟨⟨cu,a1,bu,rfl⟩,⟨cC,a7,bY,rfl⟩,⟨cP,bb,cb,rfl⟩,⟨c4,bi,ce,rfl⟩⟩,⟨cm,au,bm,rfl⟩,⟨cx,a4,bD,rfl⟩,⟨cq,ay,bq,rfl⟩⟩:=RW.shp;obtain⟨N3,bC⟩:=Dd w3 (.cells #[.slice cu a1 bu,.slice cC a7 bY,.slice cP bb cb,.slice c4 bi ce,.slice cm au bm,.slice cx a4 bD,.slice cq ay bq,.int .i64 T.1.zR,.int .i64 T.1.zU] 32);have D:=b3.trans (bC.mono b3.size);have M2:=AB N2 D;have M3:=AB M1 D;have R3:=aq.below D;have R4:=RW.below bC;have ai:=al.trans ((ae.trans (D.mono ae.size)).mono al.size);have Z:=EG _ _ _ _ _ _ _ _ _ _ _ _ _ _ T.1 _ R3 R4;unfold AN at Z;have ar:=(R2.below ae).below D;clear z A E H J K L N O N1 M1 N2 ae D bC b3 al R2 aq RW;obtain⟨z,A,E,H,J,K,L,N,O⟩:=AD M2;obtain⟨y0,y1,y2,y3,y4,y5,y6,y7,y8⟩:=AD N3;go_wp2_with fail;generalize w3.alloc _=W3 at*;generalize w3.heap.size=gw at*;refine Z.mono ?_;rintro e w4 ⟨rfl,b4⟩;have ad:=ai.trans (b4.mono ai.size);have R5:=R3.below b4;have Y:=R4.below b4;have N5:=AB M2 b4;have X:=AB N3 b4;have R7:=ar.below b4;have N7:=AB M3 b4;clear ar M3;clear Z z A E H J K L N O y0 y1 y2 y3 y4 y5 y6 y7 y8 M2 N3 R3 R4 ai b4;cases ht:T.2
 .have Z:=EG _ _ _ _ _ _ _ _ _ _ _ _ _ _ T.1 _ R5 Y
  unfold AN at Z;obtain⟨z,A,E,H,J,K,L,N,O⟩:=AD N5;obtain⟨y0,y1,y2,y3,y4,y5,y6,y7,y8⟩:=AD X;go_wp2_with (refine Z.mono ?_;rintro e w5 ⟨rfl,b5⟩);go_ret;exact⟨rfl,ad.trans (b5.mono ad.size)⟩
 .obtain⟨a,rfl,ha,hP,hQ,hW⟩:=UW (P:=P) (n:=n) (x:=V) (by rw[<-HT.out,<-ht])
  rw[<-HT.out] at hQ hW;have R:=MN _ _ _ _ _ _ _ P w4 R7 hP;unfold AN at R;obtain⟨z,A,E,H,J,K,L,N,O⟩:=AD N7;go_wp2_with fail;refine R.mono ?_;rintro e w5 ⟨v5,rfl,O5,b5⟩;clear z A E H J K L N O R R7 N7 Y X HT ht hP hs;obtain⟨lb,lc,rfl,c7,ab⟩:=Iu O5 (j:=a) (by rw[JC];exact ha);have ck:=(World.ownsRow.lt O5 lb rfl).1;obtain⟨c9,ac⟩:=A6 O5 lb rfl;have fz:=AK ac;clear ac;have O6:=(World.ownsRow.stored O5 a (.int .i64 V)).1;have b6:Below w4.heap.size w4 (w5.setCell ⟨lb,a,none⟩ (.int .i64 V)):=b5.setCell ck _;have Y:=R5.below b6;have X:=AB N5 b6;have am:=ad.trans (b6.mono ad.size);have O7:Ax (w5.setCell ⟨lb,a,none⟩ (.int .i64 V)) (.slice (some ⟨lb,0,none⟩) (D8 P 64).length lc) (D8 T.1 64):=by rw[hW];refine AF.rd (lo:=w4.heap.size) ?_;unfold AF;rw[List.length_set,List.map_set];exact O6
  rw[JC] at O7 ⊢;have c8:(a:Int)<64:=by omega
  clear R5 N5 b5 b6 O5 O6 ad hW;have HO:=AA O7;have HR:=AA Y;have HN:=AA X;have Hb:=AA am;have R:=MN _ _ _ _ _ _ _ T.1 _ Y hQ;unfold AN at R;obtain⟨z,A,E,H,J,K,L,N,O⟩:=AD X;clear O7 Y X am;go_wp2_with fail;generalize w5.setCell _ _=w6 at*;refine R.mono ?_;rintro e w7 ⟨v7,rfl,O7,b7⟩;clear z A E H J K L N O R;have SI:=LA _ _ _ _ w7 O7.rd (HO.out.below b7);go_wp2_with fail;refine SI.mono ?_;rintro e w8 ⟨rfl,n8,rfl⟩;have b8:=b7.trans ((Av (Below.refl _ _) n8).mono b7.size);have CV:=GF _ _ _ _ _ _ _ T.1 _ (HR.out.below b8) (CQ hQ.k);rw[Ca.2 hQ] at CV;unfold AN at CV;obtain⟨z,A,E,H,J,K,L,N,O⟩:=AD (AB HN.out b8);simp only[decide_true];go_wp2_with (refine CV.mono ?_;rintro e w9 ⟨rfl,b9⟩);go_ret;exact⟨rfl,Hb.out.trans ((b8.trans (b9.mono b8.size)).mono Hb.out.size)⟩
end Go.Proofs.YtpdjjjdkhedibaaGreatDoor
