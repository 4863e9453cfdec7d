/-
  Packed:1 texts.
-/
import Derived.Test.YtlcnbkkcplllhaaGreatDoorY1
import Derived.Test.YtlcnbkkcplllhaaGreatDoorY6
import Derived.Test.YtlcnbkkcplllhaaGreatDoorY4
set_option linter.unusedVariables false
set_option linter.unusedSimpArgs false
set_option maxHeartbeats 16000000
set_option maxRecDepth 100000
open Go Go.Proofs.YtlcnbkkcplllhaaGreatDoor
open Go.RowKit.Below renaming refl->O
open List renaming foldl_cons->yJ,foldl_nil->yH,range->yL,take_of_length_le->xz
open List.range renaming loop->yI
open Nat renaming le_refl->yF,le_trans->yM
open Go renaming undef->Θ
open Go.RowKit renaming Below->Γ
namespace Go.Proofs.YtlcnbkkcplllhaaGreatDoor
open Go.Proofs.Tryz
open Go.RowKit
structure ap(lo g:Nat)(o:Value)(st:AR×List Int)(w wr:World)(m i e c s l q:Value):Prop where
 yU:wr.heap[g]?=some (.cells #[m,i,e,c,s,l,q,st.1.FV,st.1.U4] 32 (0,0))
 yT:lo<=g
 rd:Kr wr m i e c s l q st.1
 wds:AE lo wr o st.2
 bel:Γ lo w wr
 lo:lo<=wr.heap.size
section
variable {lo g:Nat} {o m i e c s l q m' i' e' c' s' l' q':Value} {st:AR×List Int} {w wr w1:World} {Q:AR}
theorem ap.below(h:ap lo g o st w wr m i e c s l q)(hb:Γ wr wr w1):ap lo g o st w w1 m i e c s l q:=
 ⟨AB h.yU hb,h.yT,h.rd.below hb,h.wds.below hb,h.bel.trans (hb.mono h.lo),yM h.lo hb.size⟩
theorem ap.put(h:ap lo g o st w wr m i e c s l q)(hb:Γ wr wr w1)(yN:EI wr w1 m' i' e' c' s' l' q' Q):
 ap lo g o (Q,st.2) w (((De w1 g m' i' e' c' s' l' q').setCell (g,7) (.int .i64 Q.FV)).setCell (g,8) (.int .i64 Q.U4)) m' i' e' c' s' l' q':=by
 have h':=h.below hb;have S:=Bg h'.yU yN;exact⟨S.1,h.yT,S.2.1.rd,DY h'.wds S.2.2 h'.yU,AM h'.bel S.2.2 h.yT h'.lo,yM h'.lo S.2.2.size⟩
theorem ap.putPush(h:ap lo g o st w wr m i e c s l q)(hb:Γ wr wr w1)(yN:EI wr w1 m' i' e' c' s' l' q' Q){w2:World}{o':Value}{x:Int}
 (hg:World.grownBy (((De w1 g m' i' e' c' s' l' q').setCell (g,7) (.int .i64 Q.FV)).setCell (g,8) (.int .i64 Q.U4)) w2 o.ownBlock)(J:AE lo w2 o' (st.2++[x])):
 ap lo g o' (Q,st.2++[x]) w w2 m' i' e' c' s' l' q':=by
 have S:=Bg (h.below hb).yU yN;have hP:=h.put hb yN;have f5:=DH hP.wds hP.yU ψ;exact⟨(hg.block g (AY hP.yU) (λe=>f5 e.symm)).trans hP.yU,h.yT,(S.2.1.past hg (λb hb=>(World.ownsRow.lt h.wds b hb).2)).rd,J,hP.bel.grown hg hP.lo (λk hk=>(World.ownsRow.lt hP.wds k hk).1),yM hP.lo hg.size⟩
end
theorem fnPlay.walkR(v:Value)(bs:List Int)(w:World)(h:GM w v bs):
 Calls prog 4 #[v] w λe w'=>e=.returned (.bool true)/\Γ w w w':=by
 obtain⟨ao,c,hv,hc,f8,hA⟩:=h.open;subst hv;unfold maxLen at f8
 by_cases hl:1048576<bs.length
 .have t0:(1048576:Int)<bs.length:=ω
  go_in;go_wp2;go_ret;exact⟨rfl,O _ _⟩
 have t0:¬(1048576:Int)<bs.length:=ω;go_in;go_wp2_with fail;refine(Ka _ bs _ h).mono ?_;rintro e w1 ⟨m1,i1,e1,c1,s1,l1,q1,P,v,ss,rfl,R1,⟨H,_⟩,V1,f4,cz,b1⟩;clear hA h;obtain⟨⟨⟨ci,bk,bt,rfl⟩,⟨cm,bm,bw,rfl⟩,⟨cn,bn,bx,rfl⟩,⟨cp,bp,bK,rfl⟩⟩,⟨cd,bf,bq,rfl⟩,⟨cl,bl,bu,rfl⟩,⟨cg,bi,br,rfl⟩⟩:=R1.shp;obtain⟨va,vc,rfl,gL,gK,_⟩:=V1.open;unfold AN;obtain⟨N1,bA⟩:=Ec w1 (.cells #[.slice ci bk bt,.slice cm bm bw,.slice cn bn bx,.slice cp bp bK,.slice cd bf bq,.slice cl bl bu,.slice cg bi br,P.FV,P.U4] 32);have df:=b1.trans (bA.mono b1.size);have cT:=bA.trans (O w1 _);obtain⟨T,hT⟩:∃T,T=QS P ss:=⟨_,rfl⟩
 have CI:=eP _ _ _ _ _ _ _ _ P ss _ (R1.below bA) H (Rd.below V1 bA) cz;have d9:=AA (λW (hW:Γ w1 w1 W)=>by have:=eQ _ _ _ _ _ _ _ _ P ss W (R1.below hW) H (Rd.below V1 hW) cz;rw[<-hT] at this;exact this);rw[<-hT] at CI;unfold eX AN at CI;unfold fV AN at d9;have HT:=AA hT;have gu:=AA cz;have Hs:=AA H;obtain⟨x0,x1,x2,x3,x4,x5,x6,x7,x8⟩:=AC N1;clear hT cz H;go_wp2_with fail;have ei:(w1.alloc (.cells #[.slice ci bk bt,.slice cm bm bw,.slice cn bn bx,.slice cp bp bK,.slice cd bf bq,.slice cl bl bu,.slice cg bi br,P.FV,P.U4] 32)).heap.size=w1.heap.size+1:=χ;generalize w1.alloc _=W1 at*;refine CI.mono ?_;rintro e w2 ⟨m2,i2,e2,c2,s2,l2,q2,o2,rfl,RI,OI,b2⟩;clear CI x0 x1 x2 x3 x4 x5 x6 x7 x8;rw[ei] at OI;obtain⟨⟨⟨gi,e6,fr,rfl⟩,⟨gm,fb,fy,rfl⟩,⟨gr,fd,f1,rfl⟩,⟨gt,fk,f3,rfl⟩⟩,⟨gd,eD,fm,rfl⟩,⟨gk,e8,ft,rfl⟩,⟨gg,e0,fo,rfl⟩⟩:=RI.shp;obtain⟨oa,oc,rfl,_⟩:=(AE.rd OI).open;obtain⟨N2,bB⟩:=Ec w2 (.cells #[.slice gi e6 fr,.slice gm fb fy,.slice gr fd f1,.slice gt fk f3,.slice gd eD fm,.slice gk e8 ft,.slice gg e0 fo,T.1.FV,T.1.U4] 32);have cF:=b2.trans (bB.mono b2.size);have cC:=cT.trans (cF.mono cT.size);have Q2:eW _ _ T.1:=⟨_,_,_,_,_,_,_,N2,RI.below bB⟩;have M1:=AB N1 cF;have CS:=d9 _ cC;obtain⟨x0,x1,x2,x3,x4,x5,x6,x7,x8⟩:=AC M1;have O2:=AE.below OI bB;have a8:=df.trans (cF.mono df.size);have gz:=b1.size;clear N1 N2 bB b2 cF RI OI d9 bA df cT b1;go_wp2_with fail;generalize w2.alloc _=W2 at*;generalize w2.heap.size=gq at*;refine CS.mono ?_;rintro e w3 ⟨m3,i3,e3,c3,s3,l3,q3,o3,rfl,RW,OW,b3⟩;clear CS x0 x1 x2 x3 x4 x5 x6 x7 x8;obtain⟨⟨⟨gh,e4,fp,rfl⟩,⟨gl,fa,fv,rfl⟩,⟨gp,fc,f0,rfl⟩,⟨gs,fg,f2,rfl⟩⟩,⟨gb,ez,fl,rfl⟩,⟨gj,e7,fs,rfl⟩,⟨ge,eL,fn,rfl⟩⟩:=RW.shp;obtain⟨ya,yc,rfl,_⟩:=OW.open;obtain⟨N3,bC⟩:=Ec w3 (.cells #[.slice gh e4 fp,.slice gl fa fv,.slice gp fc f0,.slice gs fg f2,.slice gb ez fl,.slice gj e7 fs,.slice ge eL fn,T.1.FV,T.1.U4] 32);have bb:=b3.trans (bC.mono b3.size);have S:Lw w w1 gq w3 _ T _ _ _:=⟨AB M1 bb,Q2.below bb,⟨_,_,_,_,_,_,_,N3,RW.below bC⟩,O2.below bb,OW.below bC,a8.trans (bb.mono a8.size),cC.trans (bb.mono cC.size)⟩;clear M1 Q2 O2 OW RW N3 bC bb b3 a8 cC ei;go_wp2_with fail;generalize w3.alloc _=W3 at*;generalize w3.heap.size=gw at*;refine(Ey _ _ _ _ _ (AE.rd S.o) S.o').mono ?_;rintro e u1 ⟨rfl,n1,rfl⟩;rw[(χ:decide (T.2=T.2)=true)];replace S:=S.below (Ai (O _ _) n1);generalize World.drewN _ n1=u1 at*;obtain⟨p0,p1,p2,p3,p4,p5,p6,B2,R2⟩:=S.q;obtain⟨q0,q1,q2,q3,q4,q5,q6,B3,R3⟩:=S.r;have SM:=FE _ _ _ _ _ _ _ _ _ _ _ _ _ _ T.1 _ R2 R3;unfold AN at SM;obtain⟨x0,x1,x2,x3,x4,x5,x6,x7,x8⟩:=AC B2;obtain⟨y0,y1,y2,y3,y4,y5,y6,y7,y8⟩:=AC B3;clear B2 B3 R2 R3;go_wp2_with fail;refine SM.mono ?_;rintro e u2 ⟨rfl,b5⟩;replace S:=S.below b5;clear SM x0 x1 x2 x3 x4 x5 x6 x7 x8 y0 y1 y2 y3 y4 y5 y6 y7 y8 b5;have CV:=Eo _ _ _ _ _ _ _ P _ (R1.below S.k) Hs.u;unfold AN at CV;obtain⟨x0,x1,x2,x3,x4,x5,x6,x7,x8⟩:=AC S.p;go_wp2_with fail;refine CV.mono ?_;rintro e u3 ⟨rfl,b6⟩;replace S:=S.below b6;clear CV x0 x1 x2 x3 x4 x5 x6 x7 x8 b6;cases hp:By P
 .clear hp
  go_wp2_with fail;refine(Ey _ _ _ _ _ (AE.rd S.o) S.o').mono ?_;rintro e u1 ⟨rfl,n1,rfl⟩;rw[(χ:decide (T.2=T.2)=true)];replace S:=S.below (Ai (O _ _) n1);generalize World.drewN _ n1=u1 at*;obtain⟨p0,p1,p2,p3,p4,p5,p6,B2,R2⟩:=S.q;obtain⟨q0,q1,q2,q3,q4,q5,q6,B3,R3⟩:=S.r;have SM:=FE _ _ _ _ _ _ _ _ _ _ _ _ _ _ T.1 _ R2 R3;unfold AN at SM;obtain⟨x0,x1,x2,x3,x4,x5,x6,x7,x8⟩:=AC B2;obtain⟨y0,y1,y2,y3,y4,y5,y6,y7,y8⟩:=AC B3;clear B2 B3 R2 R3;go_wp2_with (refine SM.mono ?_;rintro e u2 ⟨rfl,b5⟩;replace S:=S.below b5;clear SM x0 x1 x2 x3 x4 x5 x6 x7 x8 y0 y1 y2 y3 y4 y5 y6 y7 y8 b5);go_ret;exact⟨rfl,S.b⟩
 have Hp:=AA hp;clear hp;go_wp2_with fail;refine(IB _ ss _ (Rd.below V1 S.k)).mono ?_;rintro e u4 ⟨rfl,b7⟩;replace S:=S.below b7;clear b7;cases J:DB ss
 .clear J
  go_wp2_with fail;refine(Ey _ _ _ _ _ (AE.rd S.o) S.o').mono ?_;rintro e u1 ⟨rfl,n1,rfl⟩;rw[(χ:decide (T.2=T.2)=true)];replace S:=S.below (Ai (O _ _) n1);generalize World.drewN _ n1=u1 at*;obtain⟨p0,p1,p2,p3,p4,p5,p6,B2,R2⟩:=S.q;obtain⟨q0,q1,q2,q3,q4,q5,q6,B3,R3⟩:=S.r;have SM:=FE _ _ _ _ _ _ _ _ _ _ _ _ _ _ T.1 _ R2 R3;unfold AN at SM;obtain⟨x0,x1,x2,x3,x4,x5,x6,x7,x8⟩:=AC B2;obtain⟨y0,y1,y2,y3,y4,y5,y6,y7,y8⟩:=AC B3;clear B2 B3 R2 R3;go_wp2_with (refine SM.mono ?_;rintro e u2 ⟨rfl,b5⟩;replace S:=S.below b5;clear SM x0 x1 x2 x3 x4 x5 x6 x7 x8 y0 y1 y2 y3 y4 y5 y6 y7 y8 b5);go_ret;exact⟨rfl,S.b⟩
 have Ho:=AA J;clear J;have hP:=EB.1 Hp.u;have em:T=DK P ss:=by rw[HT.u,Uf Hp Ho.u]
 obtain⟨x0,x1,x2,x3,x4,x5,x6,x7,x8⟩:=AC S.p;obtain⟨NX,bX⟩:=Ec u4 (.cells #[.slice ci bk bt,.slice cm bm bw,.slice cn bn bx,.slice cp bp bK,.slice cd bf bq,.slice cl bl bu,.slice cg bi br,P.FV,P.U4] 32);have o0:=CU (u4.alloc (.cells #[.slice ci bk bt,.slice cm bm bw,.slice cn bn bx,.slice cp bp bK,.slice cd bf bq,.slice cl bl bu,.slice cg bi br,P.FV,P.U4] 32)) 3 1;have bE:=AG (u4.alloc (.cells #[.slice ci bk bt,.slice cm bm bw,.slice cn bn bx,.slice cp bp bK,.slice cd bf bq,.slice cl bl bu,.slice cg bi br,P.FV,P.U4] 32)) (.cells #[] 3);have RX:=R1.below (S.k.trans ((bX.trans (bE.mono bX.size)).mono S.k.size));have St:ap u4 u4.heap.size (.slice (some ⟨u4.heap.size+1,0,none⟩) 0 0) (P,[]) u4 _ _ _ _ _ _ _ _:=⟨AB NX bE,yF _,RX,BS (by simpa using o0) bX.size,bX.trans (bE.mono bX.size),yM bX.size bE.size⟩;have HP:=AA hP;have cq:=AA (λk=>Qt hP (λs H=>by obtain⟨j,hj⟩:=List.getElem?_of_mem (List.mem_of_mem_take H);exact Gv Ho hj) []:∀k,Dz (DK P (ss.take k)).1);have HA:=AA (show Mj w1 va ss from by obtain⟨_,_,e,_,_,h⟩:=V1.open;cases e;exact h);have ev:=AA em;have gM:=f4;clear o0 bX bE NX RX hP em;go_wp2_with fail;generalize(u4.alloc _).alloc _=W5 at*;generalize(Value.slice (some ⟨u4.heap.size+1,0,none⟩) 0 0)=oz at*;have Hu:=AA (yF u4.heap.size);generalize hgx:u4.heap.size=gx at St ⊢;clear x0 x1 x2 x3 x4 x5 x6 x7 x8;have a0:=AA St;clear St;go_loopw [10,11] (λo ix wr=>∃k:Nat,k<=ss.length/\ix=.int .i64 k/\∃ov,ov=o/\∃m i e c s l q,ap gx gx ov (DK P (ss.take k)) u4 wr m i e c s l q) (λ_ ix _=>ss.length - (intOf ix).toNat)
 exact⟨0,Nat.zero_le _,rfl,_,rfl,_,_,_,_,_,_,_,a0.u⟩
 clear a0;obtain⟨k,hk,rfl,ov,rfl,m5,i5,e5,c5,s5,l5,q5,St⟩:=hrel
 by_cases f7:k<ss.length
 .obtain⟨x,hx⟩:∃x,ss[k]?=some x:=⟨_,List.getElem?_eq_getElem f7⟩
  obtain⟨b,ax,rfl,D0,D1,D2,D3,D4,D5,D6,D7,D8⟩:=HA.nine (S.k.trans ((show Γ u4 u4 wr from hgx▸St.bel).mono S.k.size)) hx;have f6:(k:Int)<(ss.length:Int):=ω;have Nx:=AA (Pr (p:=P) hx);have Sm:=(gu x (List.mem_of_getElem? hx)).le;have a1:=Gv Ho hx;have a9:Dz (DK P (ss.take k)).1:=cq k;have a6:(DK P (ss.take k)).2.length<=82:=by have:=MV (ss.take k) P [];unfold DK;simp only[List.length_nil,List.length_take] at this;omega
  generalize DK P (ss.take k)=st at St Nx a9 a6;clear hx;obtain⟨Pk,so⟩:=st;obtain⟨xk,xa,xx,ck,ce,ca,cb,cc,nm⟩:=x;dsimp only at D0 D1 D2 D3 D4 D5 D6 D7 D8 Sm a9 a6;obtain⟨z0,z1,z2,z3,z4,z5,z6,z7,z8⟩:=AC St.yU;have X:=AY St.yU;have a7:=World.block_lt_of_cell? wr _ D0;have es:=AA a6;have d5:=AA a9;have a0:=AA St;clear St a9 a6
  by_cases h1:xk=1
  .subst h1
   obtain⟨b0,bY⟩:=Qr a1 rfl;obtain⟨an,rfl⟩:∃an:Nat,xa=(an:Int):=⟨xa.toNat,by simp only at b0;omega⟩
   have hS:=My (st:=(Pk,so)) (s:=⟨1,(an:Int),xx,ck,ce,ca,cb,cc,nm⟩) rfl;have K:=λW (hW:Γ wr wr W)=>NM _ _ _ _ _ _ _ Pk W (a0.rd.below hW) d5 (show an<64 by simp only at bY;omega)
   unfold LQ at K;simp only[AN] at K;dsimp only[Int.toNat_natCast] at hS;generalize IW Pk an=res at hS K;obtain⟨Q,vr,ok⟩:=res;have cs:=AA (Nx.trans hS);replace K:=AA K;clear hS Nx a1 b0 bY Sm;go_upto_region 15 with fail;refine Cv 15 143 (λix=>ix==12) [.a #[m5,i5,e5,c5,s5,l5,q5,.int .i64 Pk.FV,.int .i64 Pk.U4],.v (.slice (some ⟨b,ax,none⟩) ss.length vc),.i ((k:Int)),.p b (ax+k*9),.p b (ax+k*9+1),.i ((an:Int)),.z,.z,.z,.i vr,.b ok,.z,.z,.i vr,.b ok] (λV ix vv ww=>match ix with
    |6|7=>RU wr Q (λa=> .tuple #[a,vr,ok]) vv ww
    |8=>RG wr Q vv ww
    |11=>RA wr Q (V 12) vv ww
    |_=>True) (λV ww=>Γ wr wr ww) ?_ ?_ ?_ ?_ ?_ ?_
   .exact Ai (O _ _) 1
   .intro j hj V i vv wz be hi E b4 er ay hz
    match j,hj with
    |6,_|7,_=>exact RU.below hz ay
    |8,_=>exact RG.below hz ay
    |11,_=>exact RA.step hz ay (by rintro rfl;cases E)
    |0,_|1,_|2,_|3,_|4,_|5,_|9,_|10,_|12,_|13,_|14,_=>exact hz
    |_+15,hq=>omega
   .intro V i wz be hi E b4 ay hg
    exact hg.trans (ay.mono hg.size)
   .intro i hi E o J a Y N V D A z CL L
    have av:=bc z X z0;have au:=bc z X z1;have ar:=bc z X z2;have aq:=bc z X z3;have am:=bc z X z4;have al:=bc z X z5;have ai:=bc z X z6;have ae:=bc z X z7;have ad:=bc z X z8;have a4:=bc z a7 D1
    match i,hi,E with
    |0,_,_=>exact Kf J L N D A (hl:=Pj ‹_› ‹_› ‹_› ‹_› ‹_› ‹_› ‹_› ‹_› ‹_›)
    |1,_,_|2,_,_|4,_,_|13,_,_|14,_,_=>exact Tj J L N D A
    |5,_,_=>exact Kf J L N D A (hl:=F7 ‹_›)
    |6,_,_=>exact ey J L N D A (K _ z) (by rintro e w_ ⟨m',i',e',c',s',l',q',rfl,Z,a8⟩;exact⟨_,rfl,⟨_,_,_,_,_,_,_,rfl,Z.lower z.size⟩,a8⟩)
    |12,_,H=>cases H
    |3,_,_=>clear av au ar aq am al ai ae ad a4;obtain rfl:=yP J;have d1:(a.tmps[84]?.getD Θ)=.slice (some ⟨b,ax,none⟩) ss.length vc:=Cr D A 1;have d2:(a.tmps[85]?.getD Θ)=.int .i64 k:=Cr D A 2;have cP:=A6 A 12;clear D N;refine yO ?_;go_simp;exact L _ _ rfl (O _ _)
    |7,_,_=>clear av au ar aq am al ai ae ad a4;obtain rfl:=yP J;have d6:RU wr Q (λa=> .tuple #[a,vr,ok]) (a.tmps[89]?.getD Θ) Y:=Cr D A 6;have cP:=A6 A 12;clear D N;refine yO ?_;go_simp;exact L _ _ d6 (O _ _)
    |8,_,_=>clear av au ar aq am al ai ae ad a4;obtain rfl:=yP J;have d7:RU wr Q (λa=> .tuple #[a,vr,ok]) (a.tmps[82]?.getD Θ) Y:=Cr D A 7;obtain⟨m',i',e',c',s',l',q',d7,Z⟩:=d7;have cP:=A6 A 12;clear D N;refine yO ?_;go_simp;exact L _ _ ⟨_,_,_,_,_,_,_,rfl,Z⟩ (O _ _)
    |9,_,_|10,_,_=>clear av au ar aq am al ai ae ad a4;obtain rfl:=yP J;have d7:RU wr Q (λa=> .tuple #[a,vr,ok]) (a.tmps[82]?.getD Θ) Y:=Cr D A 7;obtain⟨m',i',e',c',s',l',q',d7,Z⟩:=d7;clear D N;refine yO ?_;go_simp;exact L _ _ rfl (O _ _)
    |11,_,_=>clear av au ar aq am al ai ae ad a4;obtain rfl:=yP J;have cP:=A6 A 12;clear D N;refine yO ?_;go_simp;exact L _ _ ⟨_,rfl,z.size,λ_=>heap_alloc_new _ _,λh=>absurd h (by rw[E9 ψ,A6 A 12];decide)⟩ (AG _ _)
    |_+15,hq,_=>omega
   .intro i hi E o J a Y N V D A z CL L
    match i,hi,E with
    |0,_,H|1,_,H|2,_,H|3,_,H|4,_,H|5,_,H|6,_,H|7,_,H|8,_,H|9,_,H|10,_,H|11,_,H|13,_,H|14,_,H=>cases H
    |12,_,_=>
     obtain rfl:=yP J;have b9:RA wr Q (V 12) (a.tmps[12]?.getD Θ) Y:=Cr D A 11;obtain⟨ga,b9,a5,R,a2⟩:=b9;have d8:RG wr Q (a.tmps[90]?.getD Θ) Y:=Cr D A 8;obtain⟨m',i',e',c',s',l',q',d8,Z⟩:=d8;clear D N;unfold AN at d8;obtain⟨⟨⟨ma,mn,mc,rfl⟩,⟨ia,iN,ic,rfl⟩,⟨ea,en,ec,rfl⟩,⟨qa,qn,qc,rfl⟩⟩,⟨sa,sn,sc,rfl⟩,⟨la,ln,lc,rfl⟩,⟨pa,pn,pc,rfl⟩⟩:=Z.Dq;replace R:=R A.1;obtain⟨z0,z1,z2,z3,z4,z5,z6,z7,z8⟩:=AC R;have fq:=AK R;have PS:=AA (Bg R Z);have Hz:=AA R;clear R a2;refine yO ?_;go_simp;exact L Θ _ trivial (AM z PS.2.2 a5 z.size) (λj ek bP ej hu=>match j,bP with
      |0,_|1,_|2,_|3,_|4,_|5,_|9,_|10,_|12,_|13,_|14,_=>hu
      |6,_|7,_=>RU.yV (f:=λa=> .tuple #[a,vr,ok]) hu PS.2.2 Hz.u
      |8,_=>RG.yV hu PS.2.2 Hz.u
      |11,_=>⟨ga,b9,a5,λh=>absurd h (by rw[Fh];decide),λ_=>⟨_,_,_,_,_,_,_,PS.1,PS.2.1⟩⟩
      |_+15,hq=>absurd hq ω)
    |_+15,hq,_=>omega
   intro vs Y V az hR z
   have cx:RA wr Q (V 12) (vs 11) Y:=Be hR 11;obtain⟨ga,cx,a5,R,a2⟩:=cx;have ee:(vs 13)=.int .i64 vr:=Be hR 13;have ed:(vs 14)=.bool ok:=Be hR 14;clear hR;simp only[DD,Bj,yL,yI,yJ,yH,ee,ed];simp;generalize vs 11=z11 at cx ⊢;clear ee ed;obtain⟨m9,i9,e9,c9,s9,l9,q9,N9,O9⟩:=a2 (az 12 ψ);subst cx;obtain⟨⟨⟨ma,mn,mc,rfl⟩,⟨ia,iN,ic,rfl⟩,⟨ea,en,ec,rfl⟩,⟨qa,qn,qc,rfl⟩⟩,⟨sa,sn,sc,rfl⟩,⟨la,ln,lc,rfl⟩,⟨pa,pn,pc,rfl⟩⟩:=O9.Dq;have gy:=AA N9;have ex:=AA O9;have cN:=AA z;clear N9 O9 z az R a2 K;go_upto_if 94 with fail;go_cut [13] (λsw W=>sw=.int .i64 (QL (Q,vr,ok))/\W=Y)
   case first=>
    cases ok
    .go_wp2_with fail
     go_meet;exact⟨rfl,rfl⟩
    go_wp2_with fail
    go_meet;exact⟨rfl,rfl⟩
   case rest=>
    obtain⟨rfl,rfl⟩:=hcut;have PU:=a0.put cN ex.u;obtain⟨k0,k1,k2,k3,k4,k5,k6,k7,k8⟩:=AC gy.u;obtain⟨c0,c1,c2,c3,c4,c5,c6,c7,c8⟩:=AC (a0.below cN.u).yU;have fz:=AK (a0.below cN.u).yU;have HG:=AA (λw2 o' x hg J=>a0.putPush cN ex (w2:=w2) (o':=o') (x:=x) hg J);have gv:=AA (show DK P (ss.take (k+1))=(Q,so++[QL (Q,vr,ok)]) from cs.u);simp only[De] at PU HG;generalize QL (Q,vr,ok)=wd at*;go_wp2_with (at_builtin;go_must (refine Bm (lo:=gx) (n:=so.length) (xs:=so.map (Value.int .i64)) (m:=1) (news:=[.int .i64 wd]) rfl rfl 3 (.int .i64 0) 1 8 underlying29 Tryz.zS rfl ψ rfl (PU.below (AG _ _)).wds rfl (Rd.zM _ #[_] _ 1 1 _ χ rfl ζ) (by simp[Value.oneCell']) (by have:=es.u;unfold maxLen;omega) (by have:=es.u;omega) (PU.below (AG _ _)).lo ?_;intro o' w9 n1 n2 n3 n4));go_roundw;exact⟨k+1,ω,ξ,_,rfl,_,_,_,_,_,_,_,by rw[gv.u];exact HG _ _ _ (AO (AX (AG _ _) _) n2) (by unfold AE;rw[List.length_append,List.map_append];exact n1)⟩;simp[intOf];omega
  have t1:(xk==1)=false:=by simp[h1]
  by_cases h2:xk=2
  .subst h2
   obtain⟨b0,bY⟩:=Oi a1 rfl;have ef:=Qs a1 rfl;obtain⟨an,rfl⟩:∃an:Nat,xa=(an:Int):=⟨xa.toNat,by simp only at b0;omega⟩
   have hS:=Mz (st:=(Pk,so)) (s:=⟨2,(an:Int),xx,ck,ce,ca,cb,cc,nm⟩) rfl;have K:=λW (hW:Γ wr wr W)=>MA _ _ _ _ _ _ _ Pk W (a0.rd.below hW) d5 (show an<64 by simp only at bY;omega) (x:=xx) ef
   unfold FJ at K;simp only[AN] at K;dsimp only[Int.toNat_natCast] at hS;generalize Gg Pk an xx=res at hS K;obtain⟨Q,ok⟩:=res;have cs:=AA (show DK P (ss.take (k+1))=(Q,so) from Nx.trans hS);replace K:=AA K;clear hS Nx a1 b0 bY Sm ef h1;go_upto_region 21 with fail;refine Cv 18 143 (λix=>ix==16) [.a #[m5,i5,e5,c5,s5,l5,q5,.int .i64 Pk.FV,.int .i64 Pk.U4],.v (.slice (some ⟨b,ax,none⟩) ss.length vc),.i ((k:Int)),.p b (ax+k*9),.p b (ax+k*9+1),.i ((an:Int)),.v (.slice (some ⟨b,ax,none⟩) ss.length vc),.i ((k:Int)),.p b (ax+k*9),.p b (ax+k*9+2),.i xx,.z,.z,.z,.b ok,.z,.z,.b ok] (λV ix vv ww=>match ix with
    |11|12=>RU wr Q (λa=> .tuple #[a,ok]) vv ww
    |13=>RG wr Q vv ww
    |15=>RA wr Q (V 16) vv ww
    |_=>True) (λV ww=>Γ wr wr ww) ?_ ?_ ?_ ?_ ?_ ?_
   .exact Ai (O _ _) 1
   .intro j hj V i vv wz be hi E b4 er ay hz
    match j,hj with
    |11,_|12,_=>exact RU.below hz ay
    |13,_=>exact RG.below hz ay
    |15,_=>exact RA.step hz ay (by rintro rfl;cases E)
    |0,_|1,_|2,_|3,_|4,_|5,_|6,_|7,_|8,_|9,_|10,_|14,_|16,_|17,_=>exact hz
    |_+18,hq=>omega
   .intro V i wz be hi E b4 ay hg
    exact hg.trans (ay.mono hg.size)
   .intro i hi E o J a Y N V D A z CL L
    have av:=bc z X z0;have au:=bc z X z1;have ar:=bc z X z2;have aq:=bc z X z3;have am:=bc z X z4;have al:=bc z X z5;have ai:=bc z X z6;have ae:=bc z X z7;have ad:=bc z X z8;have a4:=bc z a7 D1;have a3:=bc z a7 D2
    match i,hi,E with
    |0,_,_=>exact Kf J L N D A (hl:=Pj ‹_› ‹_› ‹_› ‹_› ‹_› ‹_› ‹_› ‹_› ‹_›)
    |1,_,_|2,_,_|4,_,_|6,_,_|7,_,_|9,_,_|17,_,_=>exact Tj J L N D A
    |5,_,_|10,_,_=>exact Kf J L N D A (hl:=F7 ‹_›)
    |11,_,_=>exact ey J L N D A (K _ z) (by rintro e w_ ⟨m',i',e',c',s',l',q',rfl,Z,a8⟩;exact⟨_,rfl,⟨_,_,_,_,_,_,_,rfl,Z.lower z.size⟩,a8⟩)
    |16,_,H=>cases H
    |3,_,_=>clear av au ar aq am al ai ae ad a4 a3;obtain rfl:=yP J;have d1:(a.tmps[104]?.getD Θ)=.slice (some ⟨b,ax,none⟩) ss.length vc:=Cr D A 1;have d2:(a.tmps[105]?.getD Θ)=.int .i64 k:=Cr D A 2;have cu:=A6 A 16;clear D N;refine yO ?_;go_simp;exact L _ _ rfl (O _ _)
    |8,_,_=>clear av au ar aq am al ai ae ad a4 a3;obtain rfl:=yP J;have d6:(a.tmps[109]?.getD Θ)=.slice (some ⟨b,ax,none⟩) ss.length vc:=Cr D A 6;have d7:(a.tmps[110]?.getD Θ)=.int .i64 k:=Cr D A 7;have cu:=A6 A 16;clear D N;refine yO ?_;go_simp;exact L _ _ rfl (O _ _)
    |12,_,_=>clear av au ar aq am al ai ae ad a4 a3;obtain rfl:=yP J;have b9:RU wr Q (λa=> .tuple #[a,ok]) (a.tmps[114]?.getD Θ) Y:=Cr D A 11;have cu:=A6 A 16;clear D N;refine yO ?_;go_simp;exact L _ _ b9 (O _ _)
    |13,_,_=>clear av au ar aq am al ai ae ad a4 a3;obtain rfl:=yP J;have b8:RU wr Q (λa=> .tuple #[a,ok]) (a.tmps[102]?.getD Θ) Y:=Cr D A 12;obtain⟨m',i',e',c',s',l',q',b8,Z⟩:=b8;have cu:=A6 A 16;clear D N;refine yO ?_;go_simp;exact L _ _ ⟨_,_,_,_,_,_,_,rfl,Z⟩ (O _ _)
    |14,_,_=>clear av au ar aq am al ai ae ad a4 a3;obtain rfl:=yP J;have b8:RU wr Q (λa=> .tuple #[a,ok]) (a.tmps[102]?.getD Θ) Y:=Cr D A 12;obtain⟨m',i',e',c',s',l',q',b8,Z⟩:=b8;clear D N;refine yO ?_;go_simp;exact L _ _ rfl (O _ _)
    |15,_,_=>clear av au ar aq am al ai ae ad a4 a3;obtain rfl:=yP J;have cu:=A6 A 16;clear D N;refine yO ?_;go_simp;exact L _ _ ⟨_,rfl,z.size,λ_=>heap_alloc_new _ _,λh=>absurd h (by rw[E9 ψ,A6 A 16];decide)⟩ (AG _ _)
    |_+18,hq,_=>omega
   .intro i hi E o J a Y N V D A z CL L
    match i,hi,E with
    |0,_,H|1,_,H|2,_,H|3,_,H|4,_,H|5,_,H|6,_,H|7,_,H|8,_,H|9,_,H|10,_,H|11,_,H|12,_,H|13,_,H|14,_,H|15,_,H|17,_,H=>cases H
    |16,_,_=>
     obtain rfl:=yP J;have dr:RA wr Q (V 16) (a.tmps[15]?.getD Θ) Y:=Cr D A 15;obtain⟨ga,dr,a5,R,a2⟩:=dr;have d0:RG wr Q (a.tmps[115]?.getD Θ) Y:=Cr D A 13;obtain⟨m',i',e',c',s',l',q',d0,Z⟩:=d0;clear D N;unfold AN at d0;obtain⟨⟨⟨ma,mn,mc,rfl⟩,⟨ia,iN,ic,rfl⟩,⟨ea,en,ec,rfl⟩,⟨qa,qn,qc,rfl⟩⟩,⟨sa,sn,sc,rfl⟩,⟨la,ln,lc,rfl⟩,⟨pa,pn,pc,rfl⟩⟩:=Z.Dq;replace R:=R A.1;obtain⟨z0,z1,z2,z3,z4,z5,z6,z7,z8⟩:=AC R;have fq:=AK R;have PS:=AA (Bg R Z);have Hz:=AA R;clear R a2;refine yO ?_;go_simp;exact L Θ _ trivial (AM z PS.2.2 a5 z.size) (λj ek bP ej hu=>match j,bP with
      |0,_|1,_|2,_|3,_|4,_|5,_|6,_|7,_|8,_|9,_|10,_|14,_|16,_|17,_=>hu
      |11,_|12,_=>RU.yV (f:=λa=> .tuple #[a,ok]) hu PS.2.2 Hz.u
      |13,_=>RG.yV hu PS.2.2 Hz.u
      |15,_=>⟨ga,dr,a5,λh=>absurd h (by rw[Fh];decide),λ_=>⟨_,_,_,_,_,_,_,PS.1,PS.2.1⟩⟩
      |_+18,hq=>absurd hq ω)
    |_+18,hq,_=>omega
   intro vs Y V az hR z
   have cw:RA wr Q (V 16) (vs 15) Y:=Be hR 15;obtain⟨ga,cw,a5,R,a2⟩:=cw;clear hR;simp only[DD,Bj,yL,yI,yJ,yH];simp;generalize vs 15=z15 at cw ⊢;obtain⟨m9,i9,e9,c9,s9,l9,q9,N9,O9⟩:=a2 (az 16 ψ);subst cw;obtain⟨⟨⟨ma,mn,mc,rfl⟩,⟨ia,iN,ic,rfl⟩,⟨ea,en,ec,rfl⟩,⟨qa,qn,qc,rfl⟩⟩,⟨sa,sn,sc,rfl⟩,⟨la,ln,lc,rfl⟩,⟨pa,pn,pc,rfl⟩⟩:=O9.Dq;have PU:=a0.put z O9;obtain⟨k0,k1,k2,k3,k4,k5,k6,k7,k8⟩:=AC N9;obtain⟨c0,c1,c2,c3,c4,c5,c6,c7,c8⟩:=AC (a0.below z).yU;have fz:=AK (a0.below z).yU;have cr:=AA PU;clear PU O9 N9 z az R a2;simp only[De] at cr;go_wp2;go_roundw;exact⟨k+1,ω,ξ,_,rfl,_,_,_,_,_,_,_,by rw[cs.u];exact cr.u⟩;simp[intOf];omega
  have t2:(xk==2)=false:=by simp[h2]
  obtain⟨h3,el⟩:=Sa a1 h1 h2;have hS:=M5 (st:=(Pk,so)) (s:=⟨xk,xa,xx,ck,ce,ca,cb,cc,nm⟩) h1 h2;have K:=λW (hW:Γ wr wr W)=>L9 _ _ _ _ _ _ _ Pk ⟨ck,ce,ca,cb,cc,nm⟩ W (a0.rd.below hW) d5 (by rcases el with e|e<;>(simp only[Ax.kall] at e;simp only;omega)) Sm.1 Sm.2
  unfold JS at K;simp only[AN] at K;dsimp only[Ax.kall] at hS;generalize Io Pk ⟨ck,ce,ca,cb,cc,nm⟩=res at hS K;obtain⟨Q,code⟩:=res;have cs:=AA (show DK P (ss.take (k+1))=(Q,so) from Nx.trans hS);replace K:=AA K;simp only at h3;subst h3;clear hS Nx a1 Sm h1 h2 el;go_upto_region 24 with fail;refine Cv 13 143 (λix=>ix==11) [.a #[m5,i5,e5,c5,s5,l5,q5,.int .i64 Pk.FV,.int .i64 Pk.U4],.v (.slice (some ⟨b,ax,none⟩) ss.length vc),.i ((k:Int)),.p b (ax+k*9),.p b (ax+k*9+3),.a #[.int .i64 ck,.int .i64 ce,.int .i64 ca,.int .i64 cb,.int .i64 cc,.string nm],.z,.z,.z,.i code,.z,.z,.i code] (λV ix vv ww=>match ix with
   |6|7=>RU wr Q (λa=> .tuple #[a,code]) vv ww
   |8=>RG wr Q vv ww
   |10=>RA wr Q (V 11) vv ww
   |_=>True) (λV ww=>Γ wr wr ww) ?_ ?_ ?_ ?_ ?_ ?_
  .exact Ai (O _ _) 1
  .intro j hj V i vv wz be hi E b4 er ay hz
   match j,hj with
   |6,_|7,_=>exact RU.below hz ay
   |8,_=>exact RG.below hz ay
   |10,_=>exact RA.step hz ay (by rintro rfl;cases E)
   |0,_|1,_|2,_|3,_|4,_|5,_|9,_|11,_|12,_=>exact hz
  .intro V i wz be hi E b4 ay hg
   exact hg.trans (ay.mono hg.size)
  .intro i hi E o J a Y N V D A z CL L
   have av:=bc z X z0;have au:=bc z X z1;have ar:=bc z X z2;have aq:=bc z X z3;have am:=bc z X z4;have al:=bc z X z5;have ai:=bc z X z6;have ae:=bc z X z7;have ad:=bc z X z8
   match i,hi,E with
   |0,_,_=>exact Kf J L N D A (hl:=Pj ‹_› ‹_› ‹_› ‹_› ‹_› ‹_› ‹_› ‹_› ‹_›)
   |1,_,_|2,_,_|4,_,_|12,_,_=>exact Tj J L N D A
   |6,_,_=>exact ey J L N D A (K _ z) (by rintro e w_ ⟨m',i',e',c',s',l',q',rfl,Z,a8⟩;exact⟨_,rfl,⟨_,_,_,_,_,_,_,rfl,Z.lower z.size⟩,a8⟩)
   |11,_,H=>cases H
   |3,_,_=>clear av au ar aq am al ai ae ad;obtain rfl:=yP J;have d1:(a.tmps[122]?.getD Θ)=.slice (some ⟨b,ax,none⟩) ss.length vc:=Cr D A 1;have d2:(a.tmps[123]?.getD Θ)=.int .i64 k:=Cr D A 2;have cv:=A6 A 11;clear D N;refine yO ?_;go_simp;exact L _ _ rfl (O _ _)
   |5,_,_=>clear av au ar aq am al ai ae ad;obtain rfl:=yP J;have d4:(a.tmps[125]?.getD Θ)=.pointer (some ⟨b,ax+k*9+3,none⟩):=Cr D A 4;have cv:=A6 A 11;clear D N;have y3:=bc z a7 D3;have y4:=bc z a7 D4;have y5:=bc z a7 D5;have y6:=bc z a7 D6;have y7:=bc z a7 D7;have y8:=bc z a7 D8;refine yO ?_;go_simp;exact L _ _ rfl (O _ _)
   |7,_,_=>clear av au ar aq am al ai ae ad;obtain rfl:=yP J;have d6:RU wr Q (λa=> .tuple #[a,code]) (a.tmps[127]?.getD Θ) Y:=Cr D A 6;have cv:=A6 A 11;clear D N;refine yO ?_;go_simp;exact L _ _ d6 (O _ _)
   |8,_,_=>clear av au ar aq am al ai ae ad;obtain rfl:=yP J;have d7:RU wr Q (λa=> .tuple #[a,code]) (a.tmps[120]?.getD Θ) Y:=Cr D A 7;obtain⟨m',i',e',c',s',l',q',d7,Z⟩:=d7;have cv:=A6 A 11;clear D N;refine yO ?_;go_simp;exact L _ _ ⟨_,_,_,_,_,_,_,rfl,Z⟩ (O _ _)
   |9,_,_=>clear av au ar aq am al ai ae ad;obtain rfl:=yP J;have d7:RU wr Q (λa=> .tuple #[a,code]) (a.tmps[120]?.getD Θ) Y:=Cr D A 7;obtain⟨m',i',e',c',s',l',q',d7,Z⟩:=d7;clear D N;refine yO ?_;go_simp;exact L _ _ rfl (O _ _)
   |10,_,_=>clear av au ar aq am al ai ae ad;obtain rfl:=yP J;have cv:=A6 A 11;clear D N;refine yO ?_;go_simp;exact L _ _ ⟨_,rfl,z.size,λ_=>heap_alloc_new _ _,λh=>absurd h (by rw[E9 ψ,A6 A 11];decide)⟩ (AG _ _)
  .intro i hi E o J a Y N V D A z CL L
   match i,hi,E with
   |0,_,H|1,_,H|2,_,H|3,_,H|4,_,H|5,_,H|6,_,H|7,_,H|8,_,H|9,_,H|10,_,H|12,_,H=>cases H
   |11,_,_=>
    obtain rfl:=yP J;have d3:RA wr Q (V 11) (a.tmps[17]?.getD Θ) Y:=Cr D A 10;obtain⟨ga,d3,a5,R,a2⟩:=d3;have d8:RG wr Q (a.tmps[128]?.getD Θ) Y:=Cr D A 8;obtain⟨m',i',e',c',s',l',q',d8,Z⟩:=d8;clear D N;unfold AN at d8;obtain⟨⟨⟨ma,mn,mc,rfl⟩,⟨ia,iN,ic,rfl⟩,⟨ea,en,ec,rfl⟩,⟨qa,qn,qc,rfl⟩⟩,⟨sa,sn,sc,rfl⟩,⟨la,ln,lc,rfl⟩,⟨pa,pn,pc,rfl⟩⟩:=Z.Dq;replace R:=R A.1;obtain⟨z0,z1,z2,z3,z4,z5,z6,z7,z8⟩:=AC R;have fq:=AK R;have PS:=AA (Bg R Z);have Hz:=AA R;clear R a2;refine yO ?_;go_simp;exact L Θ _ trivial (AM z PS.2.2 a5 z.size) (λj ek bP ej hu=>match j,bP with
     |0,_|1,_|2,_|3,_|4,_|5,_|9,_|11,_|12,_=>hu
     |6,_|7,_=>RU.yV (f:=λa=> .tuple #[a,code]) hu PS.2.2 Hz.u
     |8,_=>RG.yV hu PS.2.2 Hz.u
     |10,_=>⟨ga,d3,a5,λh=>absurd h (by rw[Fh];decide),λ_=>⟨_,_,_,_,_,_,_,PS.1,PS.2.1⟩⟩)
  intro vs Y V az hR z
  have cy:RA wr Q (V 11) (vs 10) Y:=Be hR 10;obtain⟨ga,cy,a5,R,a2⟩:=cy;clear hR;simp only[DD,Bj,yL,yI,yJ,yH];simp;generalize vs 10=z10 at cy ⊢;obtain⟨m9,i9,e9,c9,s9,l9,q9,N9,O9⟩:=a2 (az 11 ψ);subst cy;obtain⟨⟨⟨ma,mn,mc,rfl⟩,⟨ia,iN,ic,rfl⟩,⟨ea,en,ec,rfl⟩,⟨qa,qn,qc,rfl⟩⟩,⟨sa,sn,sc,rfl⟩,⟨la,ln,lc,rfl⟩,⟨pa,pn,pc,rfl⟩⟩:=O9.Dq;have PU:=a0.put z O9;obtain⟨k0,k1,k2,k3,k4,k5,k6,k7,k8⟩:=AC N9;obtain⟨c0,c1,c2,c3,c4,c5,c6,c7,c8⟩:=AC (a0.below z).yU;have fz:=AK (a0.below z).yU;have cr:=AA PU;clear PU O9 N9 z az R a2;simp only[De] at cr;go_wp2;go_roundw;exact⟨k+1,ω,ξ,_,rfl,_,_,_,_,_,_,_,by rw[cs.u];exact cr.u⟩;simp[intOf];omega
 obtain rfl:k=ss.length:=ω;rw[xz (yF _),<-ev.u] at St;replace S:=S.below (show Γ u4 u4 wr from hgx▸St.bel);obtain⟨p0,p1,p2,p3,p4,p5,p6,B2,R2⟩:=S.q;have SM:=AA (FE _ _ _ _ _ _ _ _ _ _ _ _ _ _ T.1 _ St.rd R2);have HW:=AA St.wds;have dg:Dz T.1:=by rw[ev.u];have:=cq ss.length;rwa [xz (yF _)] at this
 unfold AN at SM;obtain⟨x0,x1,x2,x3,x4,x5,x6,x7,x8⟩:=AC St.yU;obtain⟨y0,y1,y2,y3,y4,y5,y6,y7,y8⟩:=AC B2;obtain⟨za,zc,rfl,_⟩:=(AE.rd St.wds).open;clear St;go_wp2_with fail;refine SM.mono ?_;rintro e v1 ⟨rfl,b1⟩;replace S:=S.below b1;have SI:=Ey _ _ _ _ _ (AE.rd (HW.below b1)) (AE.rd S.o);rw[(χ:decide (T.2=T.2)=true)] at SI;replace B2:=AB B2 b1;replace R2:=R2.below b1;clear SM HW b1 x0 x1 x2 x3 x4 x5 x6 x7 x8 y0 y1 y2 y3 y4 y5 y6 y7 y8;go_wp2_with fail;refine SI.mono ?_;rintro e v2 ⟨rfl,n2,rfl⟩;have b2:=Ai (O v1 v1) n2;replace S:=S.below b2;have CV:=Gk _ _ _ _ _ _ _ T.1 _ (R2.below b2) (Cm dg.k);rw[EB.2 dg] at CV;unfold AN at CV;obtain⟨y0,y1,y2,y3,y4,y5,y6,y7,y8⟩:=AC (AB B2 b2);clear B2 R2 b2 SI dg;go_wp2_with (refine CV.mono ?_;rintro e v3 ⟨rfl,b3⟩);go_ret;exact⟨rfl,(S.below b3).b⟩
end Go.Proofs.YtlcnbkkcplllhaaGreatDoor
