/-
  Packed:1 texts.
-/
import Derived.Test.YtlcnbkkcplllhaaGreatDoorY1
import Derived.Test.YtlcnbkkcplllhaaGreatDoorY6
import Derived.Test.YtlcnbkkcplllhaaGreatDoorY4
set_option linter.unusedVariables false
set_option linter.unusedSimpArgs false
set_option maxHeartbeats 16000000
set_option maxRecDepth 100000
open Go Go.Proofs.YtlcnbkkcplllhaaGreatDoor
open Go.RowKit.Below renaming refl->K
open List renaming foldl_cons->yJ,foldl_nil->yH,length_drop->xC,length_nil->xi,length_take->yr,mem_of_mem_drop->vx,mem_of_mem_take->vm
open Go renaming Value->Φ,undef->Θ
namespace Go.Proofs.YtlcnbkkcplllhaaGreatDoor
open Go.Proofs.Tryz
open Go.RowKit
variable{ss:List Ax}
theorem Uq{tt:List Ax}(h:DB ss=true)(z:∀s∈tt,s∈ss)(hl:tt.length<=ss.length):DB tt=true:=by
 simp only[DB,Bool.and_eq_true,decide_eq_true_eq,List.all_eq_true] at h ⊢;exact⟨ω,λs hx=>h.2 s (z s hx)⟩
def RT(lo:Nat)(Q:AR)(f:Φ->Φ->Φ)(I:Φ->World->Prop)(v:Φ)(w:World):Prop:=∃m i e c s l q o,v=f (AN m i e c s l q Q.FV Q.U4) o/\EI lo w m i e c s l q Q/\I o w
variable{w:World}
theorem RT.map{lo:Nat}{Q:AR}{f:Φ->Φ->Φ}{I:Φ->World->Prop}{v:Φ}{w':World}(h:RT lo Q f I v w)(h1:∀m i e c s l q,EI lo w m i e c s l q Q->EI lo w' m i e c s l q Q)(h2:∀o,I o w->I o w'):RT lo Q f I v w':=by obtain⟨m,i,e,c,s,l,q,o,a,b,c⟩:=h;exact⟨_,_,_,_,_,_,_,_,a,h1 _ _ _ _ _ _ _ b,h2 _ c⟩
theorem ZY{α:Type}{cs:α->List Φ}{sz:Nat}(z:∀x,(cs x).length=sz)(xs:List α)(n:Nat):Cb cs (xs.drop n)=(Cb cs xs).drop (n*sz):=by
 induction n generalizing xs with
 |zero=>simp
 |succ n ih=>
  cases xs with
  |nil=>simp[Cb]
  |cons x xs=>rw[List.drop_succ_cons,ih,show Cb cs (x::xs)=cs x++Cb cs xs by simp[Cb],Nat.add_mul,Nat.one_mul,List.drop_append];rw[show(cs x).drop (n*sz+sz)=[] from List.drop_eq_nil_of_le (by rw[z];omega),z,Nat.add_sub_cancel,List.nil_append]
variable{c k n:Nat}
variable{a:Option Addr}
theorem DA.take (h:DA w (.slice a n c) ss)(hk:k<=ss.length):DA w (.slice a k c) (ss.take k):=by
 obtain⟨a',c',e,h1,h2,h3,h4,h5⟩:=h;simp only[Value.slice.injEq] at e;obtain⟨rfl,rfl,rfl⟩:=e;have hl:(ss.take k).length=k:=by rw[yr];omega
 unfold DA;rw[hl];have e1:EF (ss.take k)=(EF ss).take (k*9):=Pc (cs:=Vw) (sz:=9) (λ_=>rfl) ss k;refine⟨_,_,rfl,ω,h2,by rw[e1,yr,h3];omega,h4,λh0=>?_⟩;obtain⟨b,b9,rfl,hc⟩:=h5 ω;refine⟨b,b9,rfl,λj hj=>?_⟩;rw[hc j ω,e1,List.getElem?_take,if_pos hj]
theorem DA.drop (h:DA w (.slice a n c) ss)(hk:k<=ss.length):DA w (.slice (if c=k then a else a.map (λx=>x.add (k*9))) (n - k) (c - k)) (ss.drop k):=by
 obtain⟨a',c',e,h1,h2,h3,h4,h5⟩:=h;simp only[Value.slice.injEq] at e;obtain⟨rfl,rfl,rfl⟩:=e;have hl:(ss.drop k).length=ss.length - k:=by rw[xC]
 unfold DA;rw[hl];have e1:EF (ss.drop k)=(EF ss).drop (k*9):=ZY (cs:=Vw) (sz:=9) (λ_=>rfl) ss k;refine⟨_,_,rfl,ω,ω,by rw[e1,xC,h3,Nat.sub_mul],?_,λh0=>?_⟩
 .split
  .intro e;have:=h4 e;omega
  intro e;simp at e;have:=h4 e;omega
 obtain⟨b,b9,rfl,hc⟩:=h5 ω;rw[if_neg ω];refine⟨b,b9+k*9,by simp[Addr.add],λj hj=>?_⟩;rw[Nat.add_assoc,hc (k*9+j) (by rw[Nat.sub_mul] at hj;omega),e1,List.getElem?_drop]
theorem fnPlaySplit.walkR (v:Φ)(bs:List Int)(v':Φ)(a4:List Int)(w:World)(h:GM w v bs)(h':GM w v' a4):
 Calls prog 6 #[v,v'] w λe w'=>e=.returned (.bool true)/\Below w w w':=by
 obtain⟨ao,c,hv,hc,e4,hA⟩:=h.open;subst hv;unfold maxLen at e4;obtain⟨f8,c',eD,f6,cc,e6⟩:=h'.open;subst eD;unfold maxLen at cc
 by_cases hl:1048576<bs.length
 .have t0:(1048576:Int)<bs.length:=ω
  go_in;go_wp2;go_ret;exact⟨rfl,K _ _⟩
 have t0:¬(1048576:Int)<bs.length:=ω;by_cases f5:1048576<a4.length
 .have cr:(1048576:Int)<a4.length:=ω
  go_in;go_wp2;go_ret;exact⟨rfl,K _ _⟩
 have cr:¬(1048576:Int)<a4.length:=ω;clear e6 h';go_in;go_wp2_with fail;refine(Ka _ bs _ h).mono ?_;rintro e w1 ⟨m1,i1,e1,c1,s1,l1,q1,P,v,ss,rfl,R1,⟨z,_⟩,V1,f4,br,b1⟩;clear hA h;obtain⟨⟨⟨bK,a8,bl,rfl⟩,⟨bX,bb,bn,rfl⟩,⟨bY,be,bp,rfl⟩,⟨b0,bf,bq,rfl⟩⟩,⟨bw,a6,bi,rfl⟩,⟨bP,a9,bm,rfl⟩,⟨bx,a7,bk,rfl⟩⟩:=R1.shp;obtain⟨va,vc,rfl,f3,f2,_⟩:=V1.open;unfold AN;obtain⟨N1,bA⟩:=Ec w1 (.cells #[.slice bK a8 bl,.slice bX bb bn,.slice bY be bp,.slice b0 bf bq,.slice bw a6 bi,.slice bP a9 bm,.slice bx a7 bk,P.FV,P.U4] 32);have cd:=b1.trans (bA.mono b1.size);have ca:=bA.trans (K w1 _);obtain⟨T,hT⟩:∃T,T=QS P ss:=⟨_,rfl⟩
 have CI:=eP _ _ _ _ _ _ _ _ P ss _ (R1.below bA) z (Rd.below V1 bA) br;have ci:=AA (λW (hW:Below w1 w1 W)=>by have:=eQ _ _ _ _ _ _ _ _ P ss W (R1.below hW) z (Rd.below V1 hW) br;rw[<-hT] at this;exact this);rw[<-hT] at CI;unfold eX AN at CI;unfold fV AN at ci;have HT:=AA hT;have cp:=AA br;have Hs:=AA z;obtain⟨x0,x1,x2,x3,x4,x5,x6,x7,x8⟩:=AC N1;clear hT br z;go_wp2_with fail;have cl:(w1.alloc (.cells #[.slice bK a8 bl,.slice bX bb bn,.slice bY be bp,.slice b0 bf bq,.slice bw a6 bi,.slice bP a9 bm,.slice bx a7 bk,P.FV,P.U4] 32)).heap.size=w1.heap.size+1:=χ;generalize w1.alloc _=W1 at*;refine CI.mono ?_;rintro e w2 ⟨m2,i2,e2,c2,s2,l2,q2,o2,rfl,RI,OI,b2⟩;clear CI x0 x1 x2 x3 x4 x5 x6 x7 x8;rw[cl] at OI;obtain⟨⟨⟨fg,cz,ej,rfl⟩,⟨fn,cP,er,rfl⟩,⟨fp,df,ev,rfl⟩,⟨fs,dr,ez,rfl⟩⟩,⟨fa,cv,ed,rfl⟩,⟨fl,cF,el,rfl⟩,⟨fc,cx,ef,rfl⟩⟩:=RI.shp;obtain⟨oa,oc,rfl,_⟩:=(AE.rd OI).open;obtain⟨N2,bB⟩:=Ec w2 (.cells #[.slice fg cz ej,.slice fn cP er,.slice fp df ev,.slice fs dr ez,.slice fa cv ed,.slice fl cF el,.slice fc cx ef,T.1.FV,T.1.U4] 32);have bu:=b2.trans (bB.mono b2.size);have bt:=ca.trans (bu.mono ca.size);have Q2:eW _ _ T.1:=⟨_,_,_,_,_,_,_,N2,RI.below bB⟩;have M1:=AB N1 bu;have CS:=ci _ bt;obtain⟨x0,x1,x2,x3,x4,x5,x6,x7,x8⟩:=AC M1;have O2:=AE.below OI bB;have a3:=cd.trans (bu.mono cd.size);have f1:=b1.size;clear N1 N2 bB b2 bu RI OI ci bA cd ca b1;go_wp2_with fail;generalize w2.alloc _=W2 at*;generalize w2.heap.size=gq at*;refine CS.mono ?_;rintro e w3 ⟨m3,i3,e3,c3,s3,l3,q3,o3,rfl,RW,OW,b3⟩;clear CS x0 x1 x2 x3 x4 x5 x6 x7 x8;obtain⟨⟨⟨fd,cy,ei,rfl⟩,⟨fm,cN,em,rfl⟩,⟨fo,cT,es,rfl⟩,⟨fr,dg,ex,rfl⟩⟩,⟨e7,cu,d9,rfl⟩,⟨fk,cC,ek,rfl⟩,⟨fb,cw,ee,rfl⟩⟩:=RW.shp;obtain⟨ya,yc,rfl,_⟩:=OW.open;obtain⟨N3,bC⟩:=Ec w3 (.cells #[.slice fd cy ei,.slice fm cN em,.slice fo cT es,.slice fr dg ex,.slice e7 cu d9,.slice fk cC ek,.slice fb cw ee,T.1.FV,T.1.U4] 32);have a5:=b3.trans (bC.mono b3.size);have S:Lw w w1 gq w3 _ T _ _ _:=⟨AB M1 a5,Q2.below a5,⟨_,_,_,_,_,_,_,N3,RW.below bC⟩,O2.below a5,OW.below bC,a3.trans (a5.mono a3.size),bt.trans (a5.mono bt.size)⟩;clear M1 Q2 O2 OW RW N3 bC a5 b3 a3 bt cl;go_wp2_with fail;generalize w3.alloc _=W3 at*;generalize w3.heap.size=gw at*;refine(Ey _ _ _ _ _ (AE.rd S.o) S.o').mono ?_;rintro e u1 ⟨rfl,n1,rfl⟩;rw[(χ:decide (T.2=T.2)=true)];replace S:=S.below (Ai (K _ _) n1);generalize World.drewN _ n1=u1 at*;obtain⟨p0,p1,p2,p3,p4,p5,p6,B2,R2⟩:=S.q;obtain⟨q0,q1,q2,q3,q4,q5,q6,B3,R3⟩:=S.r;have SM:=FE _ _ _ _ _ _ _ _ _ _ _ _ _ _ T.1 _ R2 R3;unfold AN at SM;obtain⟨x0,x1,x2,x3,x4,x5,x6,x7,x8⟩:=AC B2;obtain⟨y0,y1,y2,y3,y4,y5,y6,y7,y8⟩:=AC B3;clear B2 B3 R2 R3;go_wp2_with fail;refine SM.mono ?_;rintro e u2 ⟨rfl,b5⟩;replace S:=S.below b5;clear SM x0 x1 x2 x3 x4 x5 x6 x7 x8 y0 y1 y2 y3 y4 y5 y6 y7 y8 b5;have CV:=Eo _ _ _ _ _ _ _ P _ (R1.below S.k) Hs.u;unfold AN at CV;obtain⟨x0,x1,x2,x3,x4,x5,x6,x7,x8⟩:=AC S.p;go_wp2_with fail;refine CV.mono ?_;rintro e u3 ⟨rfl,b6⟩;replace S:=S.below b6;clear CV x0 x1 x2 x3 x4 x5 x6 x7 x8 b6;cases hp:By P
 .clear hp
  go_wp2_with fail;refine(Ey _ _ _ _ _ (AE.rd S.o) S.o').mono ?_;rintro e u1 ⟨rfl,n1,rfl⟩;rw[(χ:decide (T.2=T.2)=true)];replace S:=S.below (Ai (K _ _) n1);generalize World.drewN _ n1=u1 at*;obtain⟨p0,p1,p2,p3,p4,p5,p6,B2,R2⟩:=S.q;obtain⟨q0,q1,q2,q3,q4,q5,q6,B3,R3⟩:=S.r;have SM:=FE _ _ _ _ _ _ _ _ _ _ _ _ _ _ T.1 _ R2 R3;unfold AN at SM;obtain⟨x0,x1,x2,x3,x4,x5,x6,x7,x8⟩:=AC B2;obtain⟨y0,y1,y2,y3,y4,y5,y6,y7,y8⟩:=AC B3;clear B2 B3 R2 R3;go_wp2_with (refine SM.mono ?_;rintro e u2 ⟨rfl,b5⟩;replace S:=S.below b5;clear SM x0 x1 x2 x3 x4 x5 x6 x7 x8 y0 y1 y2 y3 y4 y5 y6 y7 y8 b5);go_ret;exact⟨rfl,S.b⟩
 have Hp:=AA hp;clear hp;go_wp2_with fail;refine(IB _ ss _ (Rd.below V1 S.k)).mono ?_;rintro e u4 ⟨rfl,b7⟩;replace S:=S.below b7;clear b7;cases H:DB ss
 .clear H
  go_wp2_with fail;refine(Ey _ _ _ _ _ (AE.rd S.o) S.o').mono ?_;rintro e u1 ⟨rfl,n1,rfl⟩;rw[(χ:decide (T.2=T.2)=true)];replace S:=S.below (Ai (K _ _) n1);generalize World.drewN _ n1=u1 at*;obtain⟨p0,p1,p2,p3,p4,p5,p6,B2,R2⟩:=S.q;obtain⟨q0,q1,q2,q3,q4,q5,q6,B3,R3⟩:=S.r;have SM:=FE _ _ _ _ _ _ _ _ _ _ _ _ _ _ T.1 _ R2 R3;unfold AN at SM;obtain⟨x0,x1,x2,x3,x4,x5,x6,x7,x8⟩:=AC B2;obtain⟨y0,y1,y2,y3,y4,y5,y6,y7,y8⟩:=AC B3;clear B2 B3 R2 R3;go_wp2_with (refine SM.mono ?_;rintro e u2 ⟨rfl,b5⟩;replace S:=S.below b5;clear SM x0 x1 x2 x3 x4 x5 x6 x7 x8 y0 y1 y2 y3 y4 y5 y6 y7 y8 b5);go_ret;exact⟨rfl,S.b⟩
 have Ho:=AA H;clear H;obtain⟨k,hk⟩:∃k,k=a4.length%(ss.length+1):=⟨_,rfl⟩
 have cm:k<=ss.length:=by rw[hk];have:=Nat.mod_lt a4.length (ω:0<ss.length+1);omega
 have q1:(a4.length:Int)%((ss.length:Int)+1)=(k:Int):=by rw[hk];simp
 have q2:(ss.length:Int)+1≠0:=ω;go_upto_region 9 with fail;rw[q1];clear hk q1 q2;have hP:=EB.1 Hp.u;obtain⟨X,hX⟩:∃X,X=DK P (ss.take k):=⟨_,rfl⟩
 have b8:DB (ss.take k)=true:=Uq Ho (λs z=>vm z) (by rw[yr];omega);have CP:=AA (λv W (hv:DA u4 v (ss.take k)) (hW:Below u4 u4 W)=>Kq _ _ _ _ _ _ _ v P (ss.take k) W (R1.below (S.k.trans (hW.mono S.k.size))) hP (Rd.below hv hW) b8 (λs z _=>(cp s (vm z)).le));rw[<-hX] at CP;unfold KG AN at CP;have HX:=AA hX;obtain⟨c0,c1,c2,c3,c4,c5,c6,c7,c8⟩:=AC S.p;have a0:=AY S.p;clear hX;refine Cv 11 103 (λix=>ix==9) [.a #[.slice bK a8 bl,.slice bX bb bn,.slice bY be bp,.slice b0 bf bq,.slice bw a6 bi,.slice bP a9 bm,.slice bx a7 bk,.int .i64 P.FV,.int .i64 P.U4],.v (.slice va ss.length vc),.i ((k:Int)),.z,.z,.z,.z,.z,.z,.z,.z] (λO ix vv ww=>match ix with
  |3=>DA u4 vv (ss.take k)
  |4|5=>RT u4 X.1 (λa o=> .tuple #[a,o]) (λo w=>AE u4 w o X.2) vv ww
  |6=>RG u4 X.1 vv ww
  |7|10=>AE u4 ww vv X.2
  |8=>RA u4 X.1 (O 9) vv ww
  |_=>True) (λO ww=>Below u4 u4 ww) ?_ ?_ ?_ ?_ ?_ ?_
 .exact Ai (K _ _) 1
 .intro j hj O i vv wz b4 hi hS ce e5 av Z
  match j,hj with
  |3,_=>exact Z
  |4,_|5,_=>exact RT.map Z (λ_ _ _ _ _ _ _ h=>h.below av) (λ_ Z=>AE.below Z av)
  |6,_=>exact RG.below Z av
  |7,_|10,_=>exact AE.below Z av
  |8,_=>exact RA.step Z av (by rintro rfl;cases hS)
  |0,_|1,_|2,_|9,_=>exact Z
 .intro O i wz b4 hi hS ce av hg
  exact hg.trans (av.mono hg.size)
 .intro i hi hS o H a J N O D A E yN L
  have au:=bc E a0 c0;have ar:=bc E a0 c1;have aq:=bc E a0 c2;have am:=bc E a0 c3;have al:=bc E a0 c4;have ai:=bc E a0 c5;have ae:=bc E a0 c6;have ad:=bc E a0 c7;have ac:=bc E a0 c8
  match i,hi,hS with
  |0,_,_=>exact Kf H L N D A (hl:=Pj ‹_› ‹_› ‹_› ‹_› ‹_› ‹_› ‹_› ‹_› ‹_›)
  |1,_,_|2,_,_=>exact Tj H L N D A
  |9,_,z=>cases z
  |3,_,_=>clear au ar aq am al ai ae ad ac;obtain rfl:=yP H;have d1:(a.tmps[77]?.getD Θ)=.slice va ss.length vc:=Cr D A 1;have d2:(a.tmps[78]?.getD Θ)=.int .i64 k:=Cr D A 2;have u9:=A6 A 9;clear D N;refine yO ?_;go_simp;rw[if_pos (ω:k<=vc)];go_simp;exact L _ _ (DA.take (Rd.below V1 S.k) cm) (K _ _)
  |4,_,_=>clear au ar aq am al ai ae ad ac;obtain rfl:=yP H;have d0:(a.tmps[76]?.getD Θ)=.agg #[.slice bK a8 bl,.slice bX bb bn,.slice bY be bp,.slice b0 bf bq,.slice bw a6 bi,.slice bP a9 bm,.slice bx a7 bk,P.FV,P.U4]:=Cr D A 0;have d3:DA u4 (a.tmps[79]?.getD Θ) (ss.take k):=Cr D A 3;have u9:=A6 A 9;clear D N;refine yO ?_;go_simp;refine(CP _ _ d3 E).mono ?_;rintro e w_ ⟨m',i',e',c',s',l',q',o',rfl,O1,O2,a3⟩;exact L _ _ ⟨_,_,_,_,_,_,_,_,rfl,O1.lower E.size,BS O2 E.size⟩ a3
  |5,_,_=>clear au ar aq am al ai ae ad ac;obtain rfl:=yP H;have d4:RT u4 X.1 (λa o=> .tuple #[a,o]) (λo w=>AE u4 w o X.2) (a.tmps[80]?.getD Θ) J:=Cr D A 4;have u9:=A6 A 9;clear D N;refine yO ?_;go_simp;exact L _ _ d4 (K _ _)
  |6,_,_=>clear au ar aq am al ai ae ad ac;obtain rfl:=yP H;have d5:RT u4 X.1 (λa o=> .tuple #[a,o]) (λo w=>AE u4 w o X.2) (a.tmps[75]?.getD Θ) J:=Cr D A 5;obtain⟨m',i',e',c',s',l',q',o',d5,O1,O2⟩:=d5;have u9:=A6 A 9;clear D N;refine yO ?_;go_simp;exact L _ _ ⟨_,_,_,_,_,_,_,rfl,O1⟩ (K _ _)
  |7,_,_=>clear au ar aq am al ai ae ad ac;obtain rfl:=yP H;have d5:RT u4 X.1 (λa o=> .tuple #[a,o]) (λo w=>AE u4 w o X.2) (a.tmps[75]?.getD Θ) J:=Cr D A 5;obtain⟨m',i',e',c',s',l',q',o',d5,O1,O2⟩:=d5;clear D N;refine yO ?_;go_simp;exact L _ _ O2 (K _ _)
  |8,_,_=>clear au ar aq am al ai ae ad ac;obtain rfl:=yP H;have u9:=A6 A 9;clear D N;refine yO ?_;go_simp;exact L _ _ ⟨_,rfl,E.size,λ_=>heap_alloc_new _ _,λh=>absurd h (by rw[E9 ψ,A6 A 9];decide)⟩ (AG _ _)
  |10,_,_=>clear au ar aq am al ai ae ad ac;obtain rfl:=yP H;have d7:AE u4 J (a.tmps[82]?.getD Θ) X.2:=Cr D A 7;have u9:O 9=true:=A.2.1 9 φ;clear D N;refine yO ?_;go_simp;exact L _ _ d7 (K _ _)
 .intro i hi hS o H a J N O D A E yN L
  match i,hi,hS with
  |0,_,z|1,_,z|2,_,z|3,_,z|4,_,z|5,_,z|6,_,z|7,_,z|8,_,z|10,_,z=>cases z
  |9,_,_=>
   obtain rfl:=yP H;have d8:RA u4 X.1 (O 9) (a.tmps[12]?.getD Θ) J:=Cr D A 8;obtain⟨ga,d8,a2,R,ay⟩:=d8;have d6:RG u4 X.1 (a.tmps[81]?.getD Θ) J:=Cr D A 6;obtain⟨m',i',e',c',s',l',q',d6,O1⟩:=d6;clear D N;unfold AN at d6;obtain⟨⟨⟨ma,mn,mc,rfl⟩,⟨ia,iN,ic,rfl⟩,⟨ea,en,ec,rfl⟩,⟨qa,qn,qc,rfl⟩⟩,⟨sa,sn,sc,rfl⟩,⟨la,ln,lc,rfl⟩,⟨pa,pn,pc,rfl⟩⟩:=O1.Dq;replace R:=R A.1;obtain⟨z0,z1,z2,z3,z4,z5,z6,z7,z8⟩:=AC R;have fq:=AK R;have V:=AA (Bg R O1);have Hz:=AA R;clear R ay;refine yO ?_;go_simp;exact L Θ _ trivial (AM E V.2.2 a2 E.size) (λj e0 cb eL hu=>match j,cb with
    |0,_|1,_|2,_|3,_|9,_=>hu
    |4,_|5,_=>RT.map (show RT u4 X.1 (λa o=> .tuple #[a,o]) (λo w=>AE u4 w o X.2) _ _ from hu) (MT V.2.2 Hz.u) (λ_ hu=>DY hu V.2.2 Hz)
    |6,_=>RG.map hu (MT V.2.2 Hz.u)
    |7,_=>DY hu V.2.2 Hz
    |8,_=>⟨ga,d8,a2,λh=>absurd h (by rw[Fh];decide),λ_=>⟨_,_,_,_,_,_,_,V.1,V.2.1⟩⟩
    |10,_=>DY hu V.2.2 Hz)
 intro vs J O ax hR E
 have q8:RA u4 X.1 (O 9) (vs 8) J:=Be hR 8;obtain⟨ga,q8,a2,R,ay⟩:=q8;have a1:AE u4 J (vs 10) X.2:=Be hR 10;clear hR;simp only[DD,Bj,List.range,List.range.loop,yJ,yH];simp;generalize vs 8=z8 at q8 ⊢;generalize vs 10=z10 at a1 ⊢;obtain⟨m9,i9,e9,c9,s9,l9,q9,N9,O9⟩:=ay (ax 9 ψ);subst q8;obtain⟨xa,xc,rfl,_⟩:=(AE.rd a1).open;replace S:=S.below E;obtain⟨Y,hY⟩:∃Y,Y=DK X.1 (ss.drop k):=⟨_,rfl⟩
 have cn:Dz X.1:=by rw[HX.u];exact Qt hP (λs z=>by obtain⟨j,hj⟩:=List.getElem?_of_mem z;exact Gv b8 hj) []
 have ck:DB (ss.drop k)=true:=Uq Ho (λs z=>vx z) (by rw[xC];omega);have CQ:=AA (λv W (hv:DA J v (ss.drop k)) (hW:Below J J W)=>Kq _ _ _ _ _ _ _ v X.1 (ss.drop k) W (O9.rd.below hW) cn (Rd.below hv hW) ck (λs z _=>(cp s (vx z)).le));rw[<-hY] at CQ;unfold KG AN at CQ;have cq:=AA (show T=(Y.1,X.2++Y.2) by rw[HT.u,Uf Hp Ho.u,hY,HX.u,<-YQ,List.take_append_drop]);have f0:X.2.length<=82:=by have:=MV (ss.take k) P [];rw[<-show X=(ss.take k).foldl CZ (P,[]) from HX.u] at this;simp only[xi,yr] at this;omega
 have fz:Y.2.length<=82:=by have:=MV (ss.drop k) X.1 [];rw[<-show Y=(ss.drop k).foldl CZ (X.1,[]) from hY] at this;simp only[xi,xC] at this;omega
 have OA:=a1;generalize J=w9 at*;clear a1 hY c0 c1 c2 c3 c4 c5 c6 c7 c8 CP ax E R ay a0 b8 ck cn hP R1;obtain⟨c0,c1,c2,c3,c4,c5,c6,c7,c8⟩:=AC N9;have az:=AY N9;go_upto_region 10 with fail;refine Cv 11 103 (λix=>ix==9) [.a #[m9,i9,e9,c9,s9,l9,q9,.int .i64 X.1.FV,.int .i64 X.1.U4],.v (.slice va ss.length vc),.i ((k:Int)),.z,.z,.z,.z,.z,.z,.z,.z] (λO ix vv ww=>match ix with
  |3=>DA w9 vv (ss.drop k)
  |4|5=>RT w9 Y.1 (λa o=> .tuple #[a,o]) (λo w=>AE w9 w o Y.2) vv ww
  |6=>RG w9 Y.1 vv ww
  |7|10=>AE w9 ww vv Y.2
  |8=>RA w9 Y.1 (O 9) vv ww
  |_=>True) (λO ww=>Below w9 w9 ww) ?_ ?_ ?_ ?_ ?_ ?_
 .exact Ai (K _ _) 1
 .intro j hj O i vv wz b4 hi hS ce e5 av Z
  match j,hj with
  |3,_=>exact Z
  |4,_|5,_=>exact RT.map Z (λ_ _ _ _ _ _ _ h=>h.below av) (λ_ Z=>AE.below Z av)
  |6,_=>exact RG.below Z av
  |7,_|10,_=>exact AE.below Z av
  |8,_=>exact RA.step Z av (by rintro rfl;cases hS)
  |0,_|1,_|2,_|9,_=>exact Z
 .intro O i wz b4 hi hS ce av hg
  exact hg.trans (av.mono hg.size)
 .intro i hi hS o H a J N O D A E yN L
  have au:=bc E az c0;have ar:=bc E az c1;have aq:=bc E az c2;have am:=bc E az c3;have al:=bc E az c4;have ai:=bc E az c5;have ae:=bc E az c6;have ad:=bc E az c7;have ac:=bc E az c8
  match i,hi,hS with
  |0,_,_=>exact Kf H L N D A (hl:=Pj ‹_› ‹_› ‹_› ‹_› ‹_› ‹_› ‹_› ‹_› ‹_›)
  |1,_,_|2,_,_=>exact Tj H L N D A
  |9,_,z=>cases z
  |3,_,_=>clear au ar aq am al ai ae ad ac;obtain rfl:=yP H;have d1:(a.tmps[85]?.getD Θ)=.slice va ss.length vc:=Cr D A 1;have d2:(a.tmps[86]?.getD Θ)=.int .i64 k:=Cr D A 2;have u9:=A6 A 9;clear D N;refine yO ?_;go_simp;exact L _ _ (DA.drop (Rd.below V1 S.k) cm) (K _ _)
  |4,_,_=>clear au ar aq am al ai ae ad ac;obtain rfl:=yP H;have d0:(a.tmps[84]?.getD Θ)=.agg #[m9,i9,e9,c9,s9,l9,q9,X.1.FV,X.1.U4]:=Cr D A 0;have d3:DA w9 (a.tmps[87]?.getD Θ) (ss.drop k):=Cr D A 3;have u9:=A6 A 9;clear D N;refine yO ?_;go_simp;refine(CQ _ _ d3 E).mono ?_;rintro e w_ ⟨m',i',e',c',s',l',q',o',rfl,O1,O2,a3⟩;exact L _ _ ⟨_,_,_,_,_,_,_,_,rfl,O1.lower E.size,BS O2 E.size⟩ a3
  |5,_,_=>clear au ar aq am al ai ae ad ac;obtain rfl:=yP H;have d4:RT w9 Y.1 (λa o=> .tuple #[a,o]) (λo w=>AE w9 w o Y.2) (a.tmps[88]?.getD Θ) J:=Cr D A 4;have u9:=A6 A 9;clear D N;refine yO ?_;go_simp;exact L _ _ d4 (K _ _)
  |6,_,_=>clear au ar aq am al ai ae ad ac;obtain rfl:=yP H;have d5:RT w9 Y.1 (λa o=> .tuple #[a,o]) (λo w=>AE w9 w o Y.2) (a.tmps[83]?.getD Θ) J:=Cr D A 5;obtain⟨m',i',e',c',s',l',q',o',d5,O1,O2⟩:=d5;have u9:=A6 A 9;clear D N;refine yO ?_;go_simp;exact L _ _ ⟨_,_,_,_,_,_,_,rfl,O1⟩ (K _ _)
  |7,_,_=>clear au ar aq am al ai ae ad ac;obtain rfl:=yP H;have d5:RT w9 Y.1 (λa o=> .tuple #[a,o]) (λo w=>AE w9 w o Y.2) (a.tmps[83]?.getD Θ) J:=Cr D A 5;obtain⟨m',i',e',c',s',l',q',o',d5,O1,O2⟩:=d5;clear D N;refine yO ?_;go_simp;exact L _ _ O2 (K _ _)
  |8,_,_=>clear au ar aq am al ai ae ad ac;obtain rfl:=yP H;have u9:=A6 A 9;clear D N;refine yO ?_;go_simp;exact L _ _ ⟨_,rfl,E.size,λ_=>heap_alloc_new _ _,λh=>absurd h (by rw[E9 ψ,A6 A 9];decide)⟩ (AG _ _)
  |10,_,_=>clear au ar aq am al ai ae ad ac;obtain rfl:=yP H;have d7:AE w9 J (a.tmps[90]?.getD Θ) Y.2:=Cr D A 7;have u9:O 9=true:=A.2.1 9 φ;clear D N;refine yO ?_;go_simp;exact L _ _ d7 (K _ _)
 .intro i hi hS o H a J N O D A E yN L
  match i,hi,hS with
  |0,_,z|1,_,z|2,_,z|3,_,z|4,_,z|5,_,z|6,_,z|7,_,z|8,_,z|10,_,z=>cases z
  |9,_,_=>
   obtain rfl:=yP H;have d8:RA w9 Y.1 (O 9) (a.tmps[14]?.getD Θ) J:=Cr D A 8;obtain⟨ga,d8,a2,R,ay⟩:=d8;have d6:RG w9 Y.1 (a.tmps[89]?.getD Θ) J:=Cr D A 6;obtain⟨m',i',e',c',s',l',q',d6,O1⟩:=d6;clear D N;unfold AN at d6;obtain⟨⟨⟨ma,mn,mc,rfl⟩,⟨ia,iN,ic,rfl⟩,⟨ea,en,ec,rfl⟩,⟨qa,qn,qc,rfl⟩⟩,⟨sa,sn,sc,rfl⟩,⟨la,ln,lc,rfl⟩,⟨pa,pn,pc,rfl⟩⟩:=O1.Dq;replace R:=R A.1;obtain⟨z0,z1,z2,z3,z4,z5,z6,z7,z8⟩:=AC R;have fq:=AK R;have V:=AA (Bg R O1);have Hz:=AA R;clear R ay;refine yO ?_;go_simp;exact L Θ _ trivial (AM E V.2.2 a2 E.size) (λj e0 cb eL hu=>match j,cb with
    |0,_|1,_|2,_|3,_|9,_=>hu
    |4,_|5,_=>RT.map (show RT w9 Y.1 (λa o=> .tuple #[a,o]) (λo w=>AE w9 w o Y.2) _ _ from hu) (MT V.2.2 Hz.u) (λ_ hu=>DY hu V.2.2 Hz)
    |6,_=>RG.map hu (MT V.2.2 Hz.u)
    |7,_=>DY hu V.2.2 Hz
    |8,_=>⟨ga,d8,a2,λh=>absurd h (by rw[Fh];decide),λ_=>⟨_,_,_,_,_,_,_,V.1,V.2.1⟩⟩
    |10,_=>DY hu V.2.2 Hz)
 intro vs J O ax hR E
 have q8:RA w9 Y.1 (O 9) (vs 8) J:=Be hR 8;obtain⟨ga,q8,a2,R,ay⟩:=q8;have a1:AE w9 J (vs 10) Y.2:=Be hR 10;clear hR;simp only[DD,Bj,List.range,List.range.loop,yJ,yH];simp;generalize vs 8=z8 at q8 ⊢;generalize vs 10=z10 at a1 ⊢;obtain⟨m8,i8,e8,f7,s8,l8,fy,N8,O8⟩:=ay (ax 9 ψ);subst q8;obtain⟨fv,ft,rfl,_⟩:=(AE.rd a1).open;replace S:=S.below E;have OA:=OA.below E;have e1:=cq.u;clear cq ax E R ay CQ c0 c1 c2 c3 c4 c5 c6 c7 c8;obtain⟨p0,p1,p2,p3,p4,p5,p6,B2,R2⟩:=S.q;rw[show T.1=Y.1 by rw[e1]] at B2 R2;have cg:=AA (FE _ _ _ _ _ _ _ _ _ _ _ _ _ _ Y.1 _ O8.rd R2);unfold AN at cg;have HE:=AA (show X.2++Y.2=T.2 by rw[e1]);obtain⟨x0,x1,x2,x3,x4,x5,x6,x7,x8⟩:=AC N8;obtain⟨y0,y1,y2,y3,y4,y5,y6,y7,y8⟩:=AC B2;clear e1 B2 R2 O8 N8 N9 O9 az;go_wp2_with fail;refine cg.mono ?_;rintro e v1 ⟨rfl,b1⟩;replace S:=S.below b1;have A1:=AE.rd (OA.below b1);have A2:=AE.rd (a1.below b1);clear cg b1 x0 x1 x2 x3 x4 x5 x6 x7 x8 y0 y1 y2 y3 y4 y5 y6 y7 y8 OA a1;have bE:=AG v1 (.cells #[] 3);have o0:=CU v1 3 1;replace A1:=A1.below bE;have ay:(v1.alloc (.cells #[] 3)).heap.size=v1.heap.size+1:=χ;obtain⟨o5,v5,R5,j1,j2,j4⟩:=Ib (t:=29) 29 3 (.int .i64 0) 1 8 underlying29 Tryz.zS rfl ψ o0 A1 (by simp[Value.oneCell']) μ ω ω;obtain⟨o6,v6,R6,k1,k2,k4⟩:=Ib (t:=29) 29 3 (.int .i64 0) 1 8 underlying29 Tryz.zS rfl ψ j1 (A2.below (bE.trans j4)) (by simp[Value.oneCell']) μ ω (Nat.le_trans ω j2.size);replace R5:=AA R5;replace R6:=AA R6;go_wp2_with (at_builtin;go_must (go_guarded;first|(refine Bv rfl rfl rfl R5.u ?_)|(refine Bv rfl rfl rfl R6.u ?_)));have b6:=bE.trans (j4.trans k4);have S6:=S.below b6;have SI:=Ey _ _ (X.2++Y.2) _ _ (by have:=AE.rd (lo:=v1.heap.size) (xs:=X.2++Y.2) (show World.ownsRow _ _ _ _ _ _ _ from by rw[List.length_append,List.map_append];simpa using k1);exact this) (AE.rd S6.o);refine SI.mono ?_;rintro e v7 ⟨rfl,n7,rfl⟩;rw[show decide (X.2++Y.2=T.2)=true by rw[HE.u];simp];go_wp2;go_ret;exact⟨rfl,Ai S6.b _⟩
end Go.Proofs.YtlcnbkkcplllhaaGreatDoor
