/-
  Packed:13 texts.
-/
import Derived.Test.YtlcnbkkcplllhaaGreatDoorY1
import Derived.Test.YtlcnbkkcplllhaaGreatDoorY6
import Derived.Test.YtlcnbkkcplllhaaGreatDoorY3
import Derived.Test.YtlcnbkkcplllhaaGreatDoorY5
import Derived.Test.YtlcnbkkcplllhaaGreatDoorY2
set_option linter.unusedVariables false
set_option linter.unusedSimpArgs false
set_option maxHeartbeats 16000000
set_option maxRecDepth 100000
open Go Go.Proofs.YtlcnbkkcplllhaaGreatDoor
open Bool renaming and_eq_true->yD,and_eq_true_iff->wu
open Go.RowKit.Below renaming refl->yN
open Go.Value renaming int->yl,oneCell'->xR
open Go.World.ownsRow renaming lt->yC
open Go renaming bodyPost_ret->yB,heap_alloc_new->yx
open Int renaming eq_ofNat_of_zero_le->yd,toNat_natCast->yq
open List renaming all_eq_false->xj,all_eq_true->yr,flatMap_cons->sp,foldl_cons->yJ,foldl_nil->yH,getD_eq_getElem?_getD->yg,getElem?_eq_getElem->yG,getElem?_eq_some_iff->yA,getElem?_of_mem->xN,length_append->yz,length_nil->xi,length_take->ym,mem_cons_of_mem->vV,mem_cons_self->wF,mem_of_getElem?->yv,mem_of_mem_take->uq,range->yL,take_of_length_le->xm
open List.range renaming loop->yI
open Nat renaming le_refl->yF,le_trans->yM,lt_of_lt_of_le->yu,not_lt_zero->xV,zero_le->yt
open Go renaming World->Ω,Value->Φ,Calls->Ξ
open Go.RowKit renaming Below->Γ
variable {k:Nat} {v:Φ} {p:AP}
namespace Go.Proofs.YtlcnbkkcplllhaaGreatDoor
open Go.Proofs.Tryz
open Go.RowKit
variable{x:Int}
variable{a ea g lo n:Nat}
theorem Rh (O R Z Y A z K:Φ)(P:AP)(w:Ω)(h:JA w O R Z Y A z K P)(hP:Dd P)(ha:a<64)(hx:Dx x=true):
 Ξ prog 18 #[AN O R Z Y A z K P.FU P.VO,.int .i64 a,.int .i64 x] w (Fo w (Gf P a x)):=by
 unfold AN Fo;obtain⟨B0,B1,av,bq⟩:=FR w (.cells #[O,R,Z,Y,A,z,K,P.FU,P.VO] 32) (.cells #[ι,ι,ι,ι,ι,ι,ι,θ,θ] 32);have h0:=h.below av;obtain⟨j,hj⟩:∃j,j=a/4:=⟨_,rfl⟩
 have q1:(a:Int)/4=(j:Int):=ω;have hA:Bj (a:Int) 0 63=true:=Aa.2 ω;have fa:=LJ (p:=P) (n:=a/4) hP ω;have e9:=λ(h:(Bm P (a/4)).2=false)=>Gg hP ω h
 have hK:=NI hP ha hx;have fb:=PM (w:=x) hP ha;have bB:=λQ=>U9 (p:=P) (a:=a) (x:=x) (Q:=Q)
 have CT:=λW (hW:Γ ((w.alloc (.cells #[O,R,Z,Y,A,z,K,P.FU,P.VO] 32)).alloc (.cells #[ι,ι,ι,ι,ι,ι,ι,θ,θ] 32)).heap.size ((w.alloc (.cells #[O,R,Z,Y,A,z,K,P.FU,P.VO] 32)).alloc (.cells #[ι,ι,ι,ι,ι,ι,ι,θ,θ] 32)) W)=>MG O R Z Y A z K P W (h0.below hW) hP (n:=a/4) ω
 rw[<-hj] at fa fb bB CT e9;generalize Bm P j=t at fa fb bB CT e9;obtain⟨Q,bb⟩:=t;dsimp only at fa fb bB CT e9;go_in;go_wp2_with fail;generalize(w.alloc _).alloc _=W0 at*;have fp:=AA (CT W0 (yN _ _));have ie:=AA fa;have f3:=AA fb;have f0:=AA e9;have id:=AA hK;have ed:=AA bB;unfold Fo at fp;simp only[AN] at fp;have aq:=AA av;have b9:=AA B1;have df:=AA bq;have HP:=AA hP;obtain⟨x0,x1,x2,x3,x4,x5,x6,x7,x8⟩:=AC B0;have hX:Bj x 0 9999=true:=hx;clear h h0 av B0 B1 hP fa fb bB e9 hK CT hj bq;refine(EY _ _).mono ?_;rintro r w1 ⟨rfl,rfl⟩;rw[hA];go_wp2_with fail;refine(Gy _ _).mono ?_;rintro r w2 ⟨rfl,rfl⟩;rw[hX];go_wp2_with fail;refine fp.mono ?_;rintro r w1 ⟨m1,i1,e1,c1,s1,l1,iT,rfl,O1,b1⟩;obtain⟨⟨⟨ma,mn,mc,rfl⟩,⟨ia,iN,ic,rfl⟩,⟨N,en,E,rfl⟩,⟨qa,qn,qc,rfl⟩⟩,⟨sa,sn,sc,rfl⟩,⟨la,ln,lc,rfl⟩,⟨pa,pn,pc,rfl⟩⟩:=O1.Dq;have I2:=ID.start O1 b1.size;have b2:=b1.trans ((AJ w1 (.cells #[.slice ma mn mc,.slice ia iN ic,.slice N en E,.slice qa qn qc,.slice sa sn sc,.slice la ln lc,.slice pa pn pc,Q.FU,Q.VO] 32)).mono b1.size);have ig:=AA I2;have ay:=AA b2;have B1:=AB b9 b2;have f4:=AA (aq.trans (b2.mono aq.size));clear O1 b1 x0 x1 x2 x3 x4 x5 x6 x7 x8 fp I2 b2;cases bb
 .have e:=f3 rfl
  have H:=f0 rfl;have He:=AA e;clear e f3 ed f0;subst H;have O5:=ig.own;have b5:=(λW:Ω=>yN W W) (w1.alloc (.cells #[.slice ma mn mc,.slice ia iN ic,.slice N en E,.slice qa qn qc,.slice sa sn sc,.slice la ln lc,.slice pa pn pc,Q.FU,Q.VO] 32));have N5:=AB B1 b5;have S5:=Bu N5 O5;obtain⟨a0,a1,a2,a3,a4,a5,a6,a7,a8⟩:=AC N5;have f5:=AI N5;have ee:=AA S5;have cp:=AA b5;have fc:=AA (AU B1);clear O5 S5 N5 b5 B1;go_wp2_with fail;clear a0 a1 a2 a3 a4 a5 a6 a7 a8 f5;obtain⟨N6,O6,ci⟩:=ee.u;have B6:=AM (f4.trans (cp.mono (by have:=f4.size;have:=fc.u;omega))) ci ω (by have:=f4.size;have:=cp.size;omega);have O7:=O6.lower (lo':=w.heap.size) (by have:=df.u;omega);unfold DO at N6 O7 B6;exact yB (v:=.tuple #[.agg #[.slice ma mn mc,.slice ia iN ic,.slice N en E,.slice qa qn qc,.slice sa sn sc,.slice la ln lc,.slice pa pn pc,Q.FU,Q.VO],υ]) (by simp[results,Tryz.results18,go_sem,AC N6]) rfl (by rw[He.u];exact⟨_,_,_,_,_,_,_,rfl,O7,B6⟩)
 have e:=ed Q rfl
 have C3:=KG ig ay.size ie.k ⟨11,0,(a:Int),x,0,⟨#[]⟩⟩ (ψ:(0:Int)<=0) (ψ:(0:Int)<3) (yt _) (ψ:(0:Int)<=9223372036854775807);unfold Zi at C3;rw[MN (t:=gA) ⟨ψ,ψ,ψ⟩,show(⟨11,0,(a:Int),x,0,gA⟩:AT)=Ah 11 (a:Int) x 0 from rfl] at C3;have iW:=AA (GG (kind:=11) (a:=(a:Int)) (b:=x) (c:=0) ie.k);have ek:=id.u;rw[e] at ek;have He:=AA e;have iR:=AA ek;have ii:=AA C3;clear C3 e ed f3 id ek f0;generalize Ad Q.V0 (Ah 11 (a:Int) x 0)=res at*;go_wp2_with fail;generalize w1.heap.size=g2 at*;generalize w1.alloc _=W2 at*;refine ii.mono ?_;rintro r w3 ⟨rfl,⟨m3,i3,e3,c3,I3,_⟩,hE,iz⟩;have hL:=AA (ay.trans hE);obtain⟨x0,x1,x2,x3,x4,x5,x6,x7,x8⟩:=AC I3.yU;have ek:Dd {Q with V0:=res.1}:=iR.u;have C5:=AA (Ji _ _ _ _ _ _ _ {Q with V0:=res.1} w3 I3.own.rd ek);have B3:=AB b9 hL.u;have cu:=AA (aq.trans (hL.mono aq.size));clear hE iz ii I3 B1 ek;go_wp2_with fail;refine C5.mono ?_;rintro r w5 ⟨m5,i5,e5,c5,s5,l5,q5,rfl,O5,b5⟩;unfold AN;clear x0 x1 x2 x3 x4 x5 x6 x7 x8 C5;obtain⟨⟨⟨ma,mn,mc,rfl⟩,⟨ia,iN,ic,rfl⟩,⟨N,en,E,rfl⟩,⟨qa,qn,qc,rfl⟩⟩,⟨sa,sn,sc,rfl⟩,⟨la,ln,lc,rfl⟩,⟨pa,pn,pc,rfl⟩⟩:=O5.Dq;have N5:=AB B3 b5;have S5:=Bu N5 O5;obtain⟨a0,a1,a2,a3,a4,a5,a6,a7,a8⟩:=AC N5;have f5:=AI N5;have ee:=AA S5;have cp:=AA b5;have fc:=AA (AU B3);clear O5 S5 N5 b5 B3;go_wp2_with fail;clear a0 a1 a2 a3 a4 a5 a6 a7 a8 f5;obtain⟨N6,O6,ci⟩:=ee.u;have B6:=AM (cu.trans (cp.mono (by have:=cu.size;have:=fc.u;omega))) ci ω (by have:=cu.size;have:=cp.size;omega);have O7:=O6.lower (lo':=w.heap.size) (by have:=cu.size;omega);unfold DO at N6 O7 B6;exact yB (v:=.tuple #[.agg #[.slice ma mn mc,.slice ia iN ic,.slice N en E,.slice qa qn qc,.slice sa sn sc,.slice la ln lc,.slice pa pn pc,Q.FU,Q.VO],τ]) (by simp[results,Tryz.results18,go_sem,AC N6]) rfl (by rw[He.u];exact⟨_,_,_,_,_,_,_,rfl,O7,B6⟩)
def FD(ss:List Ax):List Φ:=ss.flatMap λs=>s.cells.toList
variable{s:Ax}
variable{ss:List Ax}
theorem WK (h:ss[k]?=some s){j:Nat}(hj:j<9):(FD ss)[k*9+j]?=s.cells[j]? :=by
 induction ss generalizing k with
 |nil=>simp at h
 |cons s' ss ih=>
  have hl:s'.cells.toList.length=9:=rfl;cases k with
  |zero=>simp only[List.getElem?_cons_zero,Option.some.injEq] at h;subst h;rw[FD,sp,List.getElem?_append_left ω];simp
  |succ k=>
   rw[List.getElem?_cons_succ] at h;have:=ih h;rw[FD,sp,List.getElem?_append_right ω,hl,<-this]
   congr 1
   omega
def GE(w:Ω)(v:Φ)(ss:List Ax):Prop:=Rd w v 9 ss.length (FD ss)
def Mq(w:Ω)(a:Option Addr)(ss:List Ax):Prop:=
 ∀k s,ss[k]?=some s->∃b am,a=some ⟨b,am,none⟩/\∀j,j<9->w.cell? ⟨b,am+k*9+j,none⟩=s.cells[j]?
variable{W W' w w' w0 w1:Ω}
theorem GE.open (h:GE w v ss):
 ∃a cT,v=.slice a ss.length cT/\ss.length<=cT/\cT<=maxLen/\Mq w a ss:=by
 obtain⟨a,cT,rfl,iu,br,hl,_,hc⟩:=h;refine⟨a,cT,rfl,iu,br,λk s J=>?_⟩;have bu:=(yA.1 J).1;obtain⟨b,am,rfl,e7⟩:=hc ω;refine⟨b,am,rfl,λj hj=>?_⟩;rw[Nat.add_assoc,e7 (k*9+j) ω,WK J hj]
def DU(ss:List Ax):Bool:=decide (ss.length<=80)&&ss.all Ax.ok
theorem Mq.cells{a:Option Addr}(h:Mq w a ss)(L:Γ w w w'){k:Nat}(J:ss[k]?=some s):
 ∃b am,a=some ⟨b,am,none⟩/\∀j u,s.cells[j]?=some u->w'.cell? ⟨b,am+k*9+j,none⟩=some u:=by
 obtain⟨b,am,rfl,hc⟩:=h k s J;refine⟨b,am,rfl,λj u hu=>?_⟩;have hj:j<9:=(Array.getElem?_eq_some_iff.1 hu).1;have:=(hc j hj).trans hu;exact(L.cell (World.block_lt_of_cell? w _ this)).trans this
theorem Mq.nine{a:Option Addr}(h:Mq w a ss)(L:Γ w w w'){k:Nat}(J:ss[k]?=some s):
 ∃b am,a=some ⟨b,am,none⟩/\w'.cell? ⟨b,am+k*9,none⟩=some (.int .i64 s.k)/\w'.cell? ⟨b,am+k*9+1,none⟩=some (.int .i64 s.a)/\w'.cell? ⟨b,am+k*9+2,none⟩=some (.int .i64 s.x)/\
  w'.cell? (b,am+k*9+3)=some (.int .i64 s.ck)/\w'.cell? (b,am+k*9+4)=some (.int .i64 s.ce)/\w'.cell? (b,am+k*9+5)=some (.int .i64 s.ca)/\
  w'.cell? (b,am+k*9+6)=some (.int .i64 s.cb)/\w'.cell? (b,am+k*9+7)=some (.int .i64 s.cc)/\w'.cell? (b,am+k*9+8)=some (.string s.nm):=by
 obtain⟨b,am,rfl,hc⟩:=h.cells L J;exact⟨b,am,rfl,hc 0 _ rfl,hc 1 _ rfl,hc 2 _ rfl,hc 3 _ rfl,hc 4 _ rfl,hc 5 _ rfl,hc 6 _ rfl,hc 7 _ rfl,hc 8 _ rfl⟩
theorem XZ (H:ss[k]?=some s)(h:s.ok=false):DU ss=false:=by simp only[DU,Bool.and_eq_false_iff];exact .inr (xj.2 ⟨s,yv H,by simp[h]⟩)
theorem WL (h:∀(j:Nat) s,ss[j]?=some s->s.ok=true):DU ss=decide ((ss.length:Int)<=80):=by
 have:ss.all Ax.ok=true:=yr.2 λs H=>by obtain⟨j,hj⟩:=xN H;exact h j s hj
 rw[DU,this,Bool.and_true]
 by_cases h8:ss.length<=80
 .have:(ss.length:Int)<=80:=ω
  simp[h8,this]
 have:¬(ss.length:Int)<=80:=ω;simp[h8,this]
theorem Ta (h:∀(j:Nat) s,j<k->ss[j]?=some s->s.ok=true)(H:ss[k]?=some s)(ae:s.ok=true):∀(j:Nat) s,j<k+1->ss[j]?=some s->s.ok=true:=by
 intro j s' hj fs
 rcases Nat.lt_succ_iff_lt_or_eq.1 hj with h'|h'
 .exact h j s' h' fs
 subst h'
 rw[H] at fs;cases fs;exact ae
theorem Jq (v:Φ)(ss:List Ax)(w:Ω)(h:GE w v ss):
 Ξ prog 17 #[v] w λe w'=>e=.returned (.bool (DU ss))/\Γ w w w':=by
 obtain⟨a,c,hv,hc,br,H0⟩:=h.open;subst hv;unfold maxLen at br;go_in;go_wp2_with fail;go_loopw [3] (λi wr=>∃k:Nat,k<=ss.length/\i=.int .i64 k/\(∀j s,j<k->ss[j]?=some s->s.ok=true)/\Γ w w wr) (λi _=>ss.length - (intOf i).toNat)
 exact⟨0,yt _,rfl,λj s hj=>absurd hj (xV _),yN _ _⟩
 obtain⟨k,J,rfl,bt,ad⟩:=hrel;have bC:=AA bt;clear bt
 by_cases bu:k<ss.length
 .obtain⟨s,H⟩:∃s,ss[k]?=some s:=⟨_,yG bu⟩
  obtain⟨b,am,rfl,D0,D1,D2,D3,D4,D5,D6,D7,D8⟩:=H0.nine ad H;have Hs:=AA H;clear H;cases ae:s.ok
  .have S:=AA (XZ Hs ae)
   have cm:=AA ae;clear ae;go_wp2_with (go_at_call 47;refine(QW s _).mono ?_;rintro e w1 ⟨rfl,ar⟩;rw[cm.u]);go_ret;exact⟨AF S.symm,ad.trans (ar.mono ad.size)⟩
  have cm:=AA ae;clear ae
  go_wp2_with (go_at_call 47;refine(QW s _).mono ?_;rintro e w1 ⟨rfl,ar⟩;rw[cm.u]);go_roundw;exact⟨k+1,ω,ξ,Ta bC Hs cm.u,ad.trans (ar.mono ad.size)⟩;simp[intOf];omega
 have S:=AA (WL (ss:=ss) (λj s H=>bC j s (by have:=(yA.1 H).1;omega) H))
 go_wp2;go_ret;exact⟨AF S.symm,ad⟩
theorem Lv (s:Ax)(w:Ω):
 Ξ prog 74 #[s.val] w λe w'=>e=.returned (.bool (!s.ok))/\Γ w w w':=by
 have Hs:=AA (λw=>Y5 s w);obtain⟨k,a,x,ck,ce,ca,cb,cc,nm⟩:=s;simp only[Ax.val,Ax.cells] at Hs ⊢;go_in;go_wp2_with (go_at_call 75;refine(Hs _).mono ?_;rintro e w1 ⟨rfl,ad⟩);go_ret;exact⟨rfl,((yN _ _).alloc (yF _) _).trans (ad.mono χ)⟩
def fB(ss:List Ax)(n:Int):Prop:=(n= -1/\ss.all Ax.ok=true)∨(0<=n/\ss.all Ax.ok=false)
theorem Np (v:Φ)(ss:List Ax)(w:Ω)(h:GE w v ss):
 Ξ prog 140 #[v,.func (.func 74) #[] #[]] w λe w'=>∃n,e=.returned (.int .i64 n)/\fB ss n/\Γ w w w':=by
 obtain⟨a,c,hv,hc,br,H0⟩:=h.open;subst hv;unfold maxLen at br;have hF:∀args w,(callFunc 74 args).run prog w=.ok (.enter 74 args) w:=λ_ _=>φ
 go_in;go_wp2_with fail;go_loopw [8] (λi wr=>∃k:Nat,k<=ss.length/\i=.int .i64 k/\(∀j s,j<k->ss[j]?=some s->s.ok=true)/\Γ w w wr) (λi _=>ss.length - (intOf i).toNat)
 exact⟨0,yt _,rfl,λj s hj=>absurd hj (xV _),yN _ _⟩
 obtain⟨k,J,rfl,bt,ad⟩:=hrel;have bC:=AA bt;clear bt
 by_cases bu:k<ss.length
 .obtain⟨s,H⟩:∃s,ss[k]?=some s:=⟨_,yG bu⟩
  obtain⟨b,am,rfl,D0,D1,D2,D3,D4,D5,D6,D7,D8⟩:=H0.nine ad H;have Hs:=AA H;clear H;cases ae:s.ok
  .have S:=AA (xj.2 ⟨s,yv Hs.u,by simp[ae]⟩:ss.all Ax.ok=false)
   have cm:=AA ae;clear ae;go_wp2_with (refine(Lv s _).mono ?_;rintro e w1 ⟨rfl,ar⟩;rw[cm.u]);go_ret;exact⟨k,rfl,.inr ⟨ω,S.u⟩,ad.trans (ar.mono ad.size)⟩
  have cm:=AA ae;clear ae
  go_wp2_with (refine(Lv s _).mono ?_;rintro e w1 ⟨rfl,ar⟩;rw[cm.u]);go_roundw;exact⟨k+1,ω,ξ,Ta bC Hs cm.u,ad.trans (ar.mono ad.size)⟩;simp[intOf];omega
 have S:=AA (yr.2 λs H=>by
  obtain⟨j,hj⟩:=xN H;exact bC j s (by have:=(yA.1 hj).1;omega) hj:ss.all Ax.ok=true)
 go_wp2;go_ret;exact⟨-1,rfl,.inl ⟨rfl,S.u⟩,ad⟩
theorem L2 (v:Φ)(ss:List Ax)(w:Ω)(h:GE w v ss):
 Ξ prog 73 #[v,.func (.func 74) #[] #[]] w λe w'=>e=.returned (.bool (!ss.all Ax.ok))/\Γ w w w':=by
 go_in;go_wp2_with (go_at_call 140;refine(Np _ ss _ h).mono ?_;rintro e w1 ⟨n,rfl,hn,ad⟩);go_ret;refine⟨AF ?_,ad⟩
 rcases hn with⟨rfl,h⟩|⟨h0,h⟩
 .simp[h]
 simp[h,h0]
theorem Lx (v:Φ)(ss:List Ax)(w:Ω)(h:GE w v ss):
 Ξ prog 36 #[v] w λe w'=>e=.returned (.bool (DU ss))/\Γ w w w':=by
 obtain⟨a,c,hv,hc,br,_⟩:=h.open;subst hv;unfold maxLen at br
 by_cases h8:ss.length<=80
 .have S:=AA (show DU ss=ss.all Ax.ok by simp[DU,h8])
  go_in;go_wp2_with (go_at_call 73;refine(L2 _ ss _ h).mono ?_;rintro e w1 ⟨rfl,ad⟩);go_ret;exact⟨AF S.symm,ad⟩
 have S:=AA (show DU ss=false by simp[DU,h8])
 go_in;go_wp2;go_ret;exact⟨AF S.symm,yN _ _⟩
def MQ(st:List Int×List Int)(s:Ax):List Int×List Int:=
 if s.k=1 then(st.1,st.2++[nth st.1 s.a.toNat]) else if s.k=2 then(st.1.set s.a.toNat s.x,st.2) else st
theorem Zx{st:List Int×List Int}(h:s.k=1):MQ st s=(st.1,st.2++[nth st.1 s.a.toNat]):=by simp[MQ,h]
theorem Zy{st:List Int×List Int}(h:s.k=2):MQ st s=(st.1.set s.a.toNat s.x,st.2):=by simp[MQ,h]
theorem JO (h:DU ss=true)(H:ss[k]?=some s):s.ok=true:=by simp only[DU,yD] at h;exact yr.1 h.2 s (yv H)
theorem Qn (h:DU ss=true):ss.length<=80:=by simp only[DU,yD,decide_eq_true_eq] at h;exact h.1
theorem Ov (h:s.ok=true)(J:s.k=1):0<=s.a/\s.a<=63:=by rw[Ax.ok,if_pos J] at h;exact Aa.1 h
theorem MX (h:s.ok=true)(J:s.k=2):0<=s.a/\s.a<=63:=by rw[Ax.ok,if_neg ω,if_pos J,yD] at h;exact Aa.1 h.1
def Ax.kall(s:Ax):AT:=⟨s.ck,s.ce,s.ca,s.cb,s.cc,s.nm⟩
def Nf(r:AP×Int×Bool):Int:=if r.2.2=true then r.2.1 else -1
def DG(st:AP×List Int)(s:Ax):AP×List Int:=
 if s.k=1 then((GC st.1 s.a.toNat).1,st.2++[Nf (GC st.1 s.a.toNat)])
 else if s.k=2 then((Gf st.1 s.a.toNat s.x).1,st.2)
 else((HY st.1 s.kall).1,st.2)
def Ea(p:AP)(ss:List Ax):AP×List Int:=ss.foldl DG (p,[])
theorem ag (p:AP)(ss:List Ax)(s:Ax):Ea p (ss++[s])=DG (Ea p ss) s:=by simp[Ea]
theorem Uy (h:ss[k]?=some s):Ea p (ss.take (k+1))=DG (Ea p (ss.take k)) s:=by rw[DA h,ag]
theorem LC{st:AP×List Int}(h:s.k=1):DG st s=((GC st.1 s.a.toNat).1,st.2++[Nf (GC st.1 s.a.toNat)]):=by simp[DG,h]
theorem LD{st:AP×List Int}(h:s.k=2):DG st s=((Gf st.1 s.a.toNat s.x).1,st.2):=by simp[DG,h]
theorem QE{st:AP×List Int}(X:s.k≠1)(V:s.k≠2):DG st s=((HY st.1 s.kall).1,st.2):=by simp[DG,X,V]
theorem Ow (h:s.ok=true)(J:s.k=2):Dx s.x=true:=by rw[Ax.ok,if_neg ω,if_pos J,yD] at h;exact h.2
theorem Sq (h:s.ok=true)(X:s.k≠1)(V:s.k≠2):s.k=3/\(s.kall.e=1∨s.kall.e=2):=by
 rw[Ax.ok,if_neg X,if_neg V] at h
 by_cases h3:s.k=3
 .rw[if_pos h3] at h
  have:=Aa.1 h;refine⟨h3,?_⟩
  show s.ce=1∨s.ce=2
  omega
 rw[if_neg h3] at h;cases h
theorem XO (h:Dd p)(H:s.ok=true)(o:List Int):Dd (DG (p,o) s).1:=by
 by_cases X:s.k=1
 .rw[LC X]
  have:=Ov H X;exact Si h ω
 by_cases V:s.k=2
 .rw[LD V]
  have:=MX H V;exact NI h ω (Ow H V)
 rw[QE X V]
 exact(Ox h (Sq H X V).2).1
theorem ZP (h:Dd p)(H:∀s∈ss,s.ok=true)(o:List Int):Dd (ss.foldl DG (p,o)).1:=by
 induction ss generalizing p o with
 |nil=>exact h
 |cons s ss ih=>simp only[yJ];exact ih (XO h (H s (wF ..)) o) (λt ht=>H t (vV _ ht)) _
theorem XP (ss:List Ax)(p:AP)(o:List Int):(ss.foldl DG (p,o)).2.length<=o.length+ss.length:=by
 induction ss generalizing p o with
 |nil=>simp
 |cons s ss ih=>
  simp only[yJ,List.length_cons];have X:=ih (DG (p,o) s).1 (DG (p,o) s).2;have V:(DG (p,o) s).2.length<=o.length+1:=by
   unfold DG
   split
   .simp
   split<;>simp
  have e:((DG (p,o) s).1,(DG (p,o) s).2)=DG (p,o) s:=rfl;rw[e] at X;omega
def OZ(p:AP):Prop:=An p.V0.Zh<0/\Al p.Xs 1=0
theorem NM (h:Dd p)(H:¬OZ p)(hn:n<16):(Bm p n).2=true:=by
 cases e:(Bm p n).2
 .exact absurd ((Mk h hn).1 e) H
 rfl
theorem Oy (h:Dd p)(hn:n<16)(hw:(AD p.Xs n).w=1):¬OZ p:=λH=>by have:=JJ.2 ⟨n,by rw[h.zY];exact hn,hw⟩;have:=H.2;omega
theorem Vs (h:Dd p)(H:¬OZ p)(ha:a<64):¬OZ (GC p a).1:=by have hy:=NM h H (n:=a/4) ω;have hb:=Q8 h ha hy;refine Oy hb.2.2.1 (n:=a/4) ω ?_;have T:=(PQ h (n:=a/4) ω hy).w;unfold GC;simp only[hy,if_true];exact T
theorem UT (h:Dd p)(H:¬OZ p)(ha:a<64){w:Int}(hw:Dx w=true):¬OZ (Gf p a w).1:=by have S:=Tb h ha hw (NM h H (n:=a/4) ω);exact Oy S.2.1 (n:=a/4) ω S.2.2.2
variable{o:List Int}
theorem Ux (h:Dd p)(hn:¬OZ p)(H:∀s∈ss,s.ok=true/\(s.k=1∨s.k=2)){ws:List Int}(hl:ws.length=64)(hw:∀a,a<64->Fu p a=nth ws a):
 (ss.foldl DG (p,o)).2=(ss.foldl MQ (ws,o)).2:=by
 induction ss generalizing p ws o with
 |nil=>rfl
 |cons s ss ih=>
  simp only[yJ];obtain⟨ae,J⟩:=H s (wF ..);have ht:∀t∈ss,t.ok=true/\(t.k=1∨t.k=2):=λt ht=>H t (vV _ ht)
  rcases J with J|J
  .have ha:=Ov ae J
   have cg:s.a.toNat<64:=ω;rw[LC J,Zx J];have hb:=Q8 h cg (NM h hn (n:=s.a.toNat/4) ω);have e:Nf (GC p s.a.toNat)=nth ws s.a.toNat:=by unfold Nf;rw[if_pos hb.1,hb.2.1,hw _ cg]
   show(ss.foldl DG ((GC p s.a.toNat).1,o++[Nf (GC p s.a.toNat)])).2=_
   rw[e];exact ih hb.2.2.1 (Vs h hn cg) ht hl (λa ha=>(hb.2.2.2 a ha).trans (hw a ha))
  have ha:=MX ae J
  have cg:s.a.toNat<64:=ω;rw[LD J,Zy J];have S:=Tb h cg (Ow ae J) (NM h hn (n:=s.a.toNat/4) ω);refine ih S.2.1 (UT h hn cg (Ow ae J)) ht (by simpa using hl) (λa ha=>?_);rw[S.2.2.1 a ha];unfold nth;rw[yg,List.getElem?_set]
  by_cases e:a=s.a.toNat
  .subst e
   simp[hl,cg]
  rw[if_neg e,if_neg (λx=>e x.symm),hw a ha]
  unfold nth;rw[yg]
theorem TC (h:Dd p)(hn:OZ p)(H:∀s∈ss,s.ok=true/\(s.k=1∨s.k=2)):
 (ss.foldl DG (p,o))=(p,o++(ss.filter (λs=>decide (s.k=1))).map (λ_=>(-1:Int))):=by
 induction ss generalizing o with
 |nil=>simp
 |cons s ss ih=>
  obtain⟨ae,J⟩:=H s (wF ..);have ht:∀t∈ss,t.ok=true/\(t.k=1∨t.k=2):=λt ht=>H t (vV _ ht)
  simp only[yJ]
  rcases J with J|J
  .have ha:=Ov ae J
   have cg:s.a.toNat<64:=ω;rw[LC J];have hb:=Ot h cg ((Mk h (n:=s.a.toNat/4) ω).2 hn)
   show ss.foldl DG ((GC p s.a.toNat).1,o++[Nf (GC p s.a.toNat)])=_
   rw[hb,ih ht];simp[Nf,J]
  have ha:=MX ae J
  rw[LD J];have hb:=PM h (a:=s.a.toNat) ω (w:=s.x) ((Mk h (n:=s.a.toNat/4) ω).2 hn)
  show ss.foldl DG ((Gf p s.a.toNat s.x).1,o)=_
  rw[hb,ih ht];simp[J]
theorem Dd.lim (h:Dd p):Dd {p with VO:=6}:=
 ⟨h.k,h.zN,h.zF,h.may,h.alone,h.root,h.zD,h.yW,h.lows,h.zY,h.slots,λn hn=>h.Xs n hn,h.FU,⟨by show(1:Int)<=6;omega,by show(6:Int)<=6;omega⟩,by
  show(Al p.Xs 1:Int)<=6
  have:=h.count;have:=h.VO;omega⟩
theorem Yn (h:Dd p)(H:∀s∈ss,s.ok=true/\(s.k=1∨s.k=2)):(Ea {p with VO:=6} ss).2=(Ea p ss).2:=by
 unfold Ea
 by_cases hn:OZ p
 .rw[TC h hn H,TC h.lim hn H]
 have hw:∀a,a<64->Fu p a=nth ((yL 64).map (Fu p)) a:=λa ha=>by simp[nth,ha]
 have hl:((yL 64).map (Fu p)).length=64:=χ;rw[Ux h hn H hl hw,Ux h.lim (p:= {p with VO:=6}) (λx=>hn x) H hl (λa ha=>hw a ha)]
def LU(lo:Nat)(v:Φ)(w:Ω)(x:Int):Prop:=∃g,v=.slice (some ⟨g,0,none⟩) 1 1/\lo<=g/\w.heap[g]?=some (.cells #[x] 3 (0,0))
variable{row:Option Nat}
theorem LU.past (h:LU lo v w x)(hg:w.grownBy w' row)(hr:∀k,row=some k->k<lo):LU lo v w' x:=by obtain⟨g,X,V,h3⟩:=h;exact⟨g,X,V,FF h3 V hg hr⟩
variable{P:AP}
theorem Es.past{m i e c s l q:Φ}(h:Es lo w m i e c s l q P)(hg:w.grownBy w' row)(hr:∀b,row=some b->b<lo):Es lo w' m i e c s l q P:=by
 obtain⟨X,⟨vs,V,h3,h4⟩,h5,h6,h7⟩:=h;exact⟨X.past hg hr,⟨vs,BU V hg hr,h3.mono λ_ _ x=>BU x hg hr,h4⟩,BU h5 hg hr,BU h6 hg hr,h7⟩
structure Xm(lo g:Nat)(o:Φ)(st:AP×List Int)(w wr:Ω)(m i e c s l q:Φ):Prop where
 yQ:ID lo g wr m i e c s l q st.1
 wds:AE lo wr o st.2
 bel:Γ lo w wr
 lo:lo<=wr.heap.size
section
variable {lo g:Nat} {o m i e c s l q m' i' e' c' s' l' q':Φ} {st:AP×List Int} {w wr w1:Ω} {Q:AP}
theorem Xm.below(h:Xm lo g o st w wr m i e c s l q)(L:Γ wr wr w1):Xm lo g o st w w1 m i e c s l q:=
 ⟨h.yQ.below L,h.wds.below L,h.bel.trans (L.mono h.lo),yM h.lo L.size⟩
theorem Xm.put(h:Xm lo g o st w wr m i e c s l q)(L:Γ wr wr w1)(mv:Es wr w1 m' i' e' c' s' l' q' Q):
 Xm lo g o (Q,st.2) w (((DO w1 g m' i' e' c' s' l' q').setCell (g,7) (.int .i64 Q.FU)).setCell (g,8) (.int .i64 Q.VO)) m' i' e' c' s' l' q':=by
 have h':=h.below L;have S:=Bu h'.yQ.yU mv;exact⟨⟨S.1,h.yQ.yT,S.2.1.lower h.lo⟩,Eu h'.wds S.2.2 h'.yQ.yU,AM h'.bel S.2.2 h.yQ.yT h'.lo,yM h'.lo S.2.2.size⟩
theorem Xm.push{w2:Ω}{o':Φ}{x:Int}(h:Xm lo g o st w wr m i e c s l q)(L:Γ wr wr w1)(mv:Es wr w1 m' i' e' c' s' l' q' Q)(hg:w1.grownBy w2 o.ownBlock)(ho:AE lo w2 o' (st.2++[x])):
 w2.heap[g]?=some (.cells #[m,i,e,c,s,l,q,st.1.FU,st.1.VO] 32 (0,0))/\
 Xm lo g o' (Q,st.2++[x]) w (((DO w2 g m' i' e' c' s' l' q').setCell (g,7) (.int .i64 Q.FU)).setCell (g,8) (.int .i64 Q.VO)) m' i' e' c' s' l' q':=by
 have h':=h.below L;have be:∀b,o.ownBlock=some b->b<wr.heap.size:=λb L=>(yC h.wds b L).2
 have cw:=DD h'.wds h'.yQ.yU ψ;have hB:=(hg.block g (AU h'.yQ.yU) (λe=>cw e.symm)).trans h'.yQ.yU;have S:=Bu hB (mv.past hg be);have b2:=h'.bel.grown hg h'.lo (λk J=>(yC h'.wds k J).1);exact⟨hB,⟨S.1,h.yQ.yT,S.2.1.lower h.lo⟩,Eu ho S.2.2 hB,AM b2 S.2.2 h.yQ.yT (yM h'.lo hg.size),yM (yM h'.lo hg.size) S.2.2.size⟩
end
def ME(w:Ω)(t:AP×List Int)(r:Ending)(w':Ω):Prop:=∃m i e c s l q o,r=.returned (.tuple #[AN m i e c s l q t.1.FU t.1.VO,o])/\Es w w' m i e c s l q t.1/\AE w w' o t.2/\Γ w w w'
def eC(r:Ending):Prop:=r=.returned (.tuple #[AN (.slice none 0 0) (.slice none 0 0) (.slice none 0 0) (.slice none 0 0) (.slice none 0 0) (.slice none 0 0) (.slice none 0 0) 0 0,ι])
theorem VN (O R Z Y A z K v:Φ)(P:AP)(ss:List Ax)(w:Ω)(h:JA w O R Z Y A z K P)(H:Gs P.V0)(ax:GE w v ss)(eL:(BN P&&DU ss)=false):
 Ξ prog 13 #[AN O R Z Y A z K P.FU P.VO,v] w λr w'=>eC r/\Γ w w w':=by
 unfold AN;obtain⟨B0,B1,av,bq⟩:=FR w (.cells #[O,R,Z,Y,A,z,K,P.FU,P.VO] 32) (.cells #[ι,ι,ι,ι,ι,ι,ι,θ,θ] 32);have h0:=h.below av;have bp:=AA (λW (hW:Γ w w W)=>Lx v ss W (Rd.below ax hW));go_in;go_wp2_with fail;generalize(w.alloc _).alloc _=W0 at*;have CV:=AA (λW (hW:Γ W0 W0 W)=>GF O R Z Y A z K P W (h0.below hW) H);have aq:=AA av;have b9:=AA B1;generalize BN P=ok at*;clear h h0 av B0 bq ax;refine(CV W0 (yN _ _)).mono ?_;rintro r w1 ⟨rfl,b1⟩;have Bw:=AA (aq.trans (b1.mono aq.size));have N1:=AB b9 b1;clear b1 B1 CV;cases ok
 focus
  clear bp
 rotate_left
 focus
  go_wp2_with fail
  refine(bp _ Bw.u).mono ?_;rintro r w2 ⟨rfl,b2⟩;rw[show DU ss=false by simpa using eL];replace N1:=AB N1 b2;replace Bw:=AA (Bw.trans (b2.mono Bw.size));clear b2 bp
 rotate_left
 all_goals
  have f1:=AI N1;obtain⟨a0,a1,a2,a3,a4,a5,a6,a7,a8⟩:=AC N1;have S2:=AA (Ed N1 (Bw.u) ω);clear N1;go_wp2_with fail;clear a0 a1 a2 a3 a4 a5 a6 a7 a8 f1;obtain⟨N2,B2⟩:=S2.u;unfold DO at N2 B2;exact yB (v:=.tuple #[.agg #[_,_,_,_,_,_,_,_,_],_]) (by simp[results,Tryz.results13,go_sem,AC N2]) rfl ⟨rfl,B2⟩
theorem VM (O R Z Y A z K v:Φ)(P:AP)(ss:List Ax)(w:Ω)(h:JA w O R Z Y A z K P)(hP:Dd P)(ax:GE w v ss)(ae:DU ss=true)(e8:∀k,Dd (Ea P (ss.take k)).1)
 (az:∀s∈ss,s.k=3->∀(O R Z Y A z K:Φ)(Q:AP)(W:Ω),JA W O R Z Y A z K Q->Dd Q->Ξ prog 8 #[AN O R Z Y A z K Q.FU Q.VO,.agg #[s.ck,s.ce,s.ca,s.cb,s.cc,s.nm]] W (Im W (HY Q s.kall))):
 Ξ prog 13 #[AN O R Z Y A z K P.FU P.VO,v] w (ME w (Ea P ss)):=by
 unfold AN ME;obtain⟨B0,B1,av,bq⟩:=FR w (.cells #[O,R,Z,Y,A,z,K,P.FU,P.VO] 32) (.cells #[ι,ι,ι,ι,ι,ι,ι,θ,θ] 32);have h0:=h.below av;have eD:BN P=true:=Ct.2 hP;have bp:=AA (λW (hW:Γ w w W)=>Lx v ss W (Rd.below ax hW));rw[ae] at bp;have iM:=Qn ae;have dg:=AA ae;have cl:=AA az;have cr:=AA e8;obtain⟨a,cT,rfl,iJ,br,H0⟩:=ax.open;unfold maxLen at br;have HA:=AA H0;generalize hPL:Ea P ss=t;obtain⟨Q,so⟩:=t;dsimp only;have el:=AA hPL;clear hPL;go_in;go_wp2_with fail;generalize(w.alloc _).alloc _=W0 at*;have CV:=AA (λW (hW:Γ W0 W0 W)=>GF O R Z Y A z K P W (h0.below hW) (CJ hP.k));have CO:=AA (λW (hW:Γ W0 W0 W)=>Ji O R Z Y A z K P W (h0.below hW) hP);rw[eD] at CV;have aq:=AA av;have fk:=AA B0;have b9:=AA B1;have iV:=AA hP;have df:=AA bq;clear h h0 av B0 B1 hP eD bq H0 ax ae az e8;refine(CV W0 (yN _ _)).mono ?_;rintro r w1 ⟨rfl,b1⟩;obtain⟨x0,x1,x2,x3,x4,x5,x6,x7,x8⟩:=AC (AB fk b1);have cz:=AA b1;clear b1 CV;go_wp2_with fail;refine(bp _ (aq.trans (cz.mono aq.size))).mono ?_;rintro r w2 ⟨rfl,b2⟩;have ay:=AA (cz.trans (b2.mono cz.size));clear b2 x0 x1 x2 x3 x4 x5 x6 x7 x8;obtain⟨x0,x1,x2,x3,x4,x5,x6,x7,x8⟩:=AC (AB fk ay.u);go_wp2_with fail;refine(CO w2 ay.u).mono ?_;rintro r w3 ⟨m3,i3,e3,c3,s3,l3,q3,rfl,O3,b3⟩;unfold AN;obtain⟨⟨⟨ma,mn,mc,rfl⟩,⟨ia,iN,ic,rfl⟩,⟨N,en,E,rfl⟩,⟨qa,qn,qc,rfl⟩⟩,⟨sa,sn,sc,rfl⟩,⟨la,ln,lc,rfl⟩,⟨pa,pn,pc,rfl⟩⟩:=O3.Dq;have e0:W0.heap.size<=w3.heap.size:=yM ay.size b3.size;have I4:=ID.start (O3.lower ay.size) e0;have b4:Γ W0 W0 (w3.alloc (.cells #[.slice ma mn mc,.slice ia iN ic,.slice N en E,.slice qa qn qc,.slice sa sn sc,.slice la ln lc,.slice pa pn pc,P.FU,P.VO] 32)):=ay.trans ((b3.mono ay.size).trans ((AJ _ _).mono e0));have D:Xm W0 w3.heap.size (.slice none 0 0) (P,[]) W0 (w3.alloc (.cells #[.slice ma mn mc,.slice ia iN ic,.slice N en E,.slice qa qn qc,.slice sa sn sc,.slice la ln lc,.slice pa pn pc,P.FU,P.VO] 32)) _ _ _ _ _ _ _:=⟨I4,World.ownsRow_nil _ _ _ _,b4,b4.size⟩;clear O3 b3 x0 x1 x2 x3 x4 x5 x6 x7 x8 I4 b4 CO bp;go_wp2_with fail;generalize w3.heap.size=g at*;generalize w3.alloc _=W3 at*;have al:=AA D;clear D;go_loopw [7,9,10,11,12,26] (λo _ _ _ _ ix wr=>∃k:Nat,k<=ss.length/\ix=.int .i64 k/\∃ov,ov=o/\∃m i e c s l q,Xm W0 g ov (Ea P (ss.take k)) W0 wr m i e c s l q) (λ_ _ _ _ _ ix _=>ss.length - (intOf ix).toNat)
 exact⟨0,yt _,rfl,_,rfl,_,_,_,_,_,_,_,al.u⟩
 clear al;obtain⟨k,J,rfl,ov,rfl,m5,i5,e5,c5,s5,l5,q5,D⟩:=hrel;have cP:=aq.trans (D.bel.mono aq.size)
 by_cases bu:k<ss.length
 .obtain⟨x,hx⟩:∃x,ss[k]?=some x:=⟨_,yG bu⟩
  obtain⟨b,am,rfl,D0,D1,D2,D3,D4,D5,D6,D7,D8⟩:=HA.nine cP hx;have ft:(k:Int)<(ss.length:Int):=ω;have Nx:=AA (Uy (p:=P) hx);have Sm:=cl x (yv hx);have ai:=JO dg hx;have ao:Dd (Ea P (ss.take k)).1:=cr k;have au:(Ea P (ss.take k)).2.length<=80:=by have:=XP (ss.take k) P [];unfold Ea;simp only[xi,ym] at this;omega
  generalize Ea P (ss.take k)=st at D Nx ao au;clear el;obtain⟨Pk,so⟩:=st;obtain⟨xk,xa,xx,ck,ce,ca,cb,cc,nm⟩:=x;dsimp only at D0 D1 D2 D3 D4 D5 D6 D7 D8 Sm ao au;have fo:=D.below (AJ wr (.cells #[xk,xa,xx,ck,ce,ca,cb,cc,nm] 52));obtain⟨z0,z1,z2,z3,z4,z5,z6,z7,z8⟩:=AC fo.yQ.yU;have c9:=AA au;have ef:=AA ao;have ir:=fo.yQ.own.Dq;have fr:=hx;clear D hx ao au cP ir;have bf:=AA fo;clear fo
  by_cases X:xk=1
  .subst X
   obtain⟨bx,bw⟩:=Ov ai rfl;obtain⟨an,rfl⟩:∃an:Nat,xa=(an:Int):=⟨xa.toNat,by simp only at bx;omega⟩
   have fx:an<64:=by simp only at bw;omega
   have ec:=LC (st:=(Pk,so)) (s:=⟨1,(an:Int),xx,ck,ce,ca,cb,cc,nm⟩) rfl;rw[show(⟨1,(an:Int),xx,ck,ce,ca,cb,cc,nm⟩:Ax).a.toNat=an from rfl] at ec;have CL:=NW _ _ _ _ _ _ _ Pk _ bf.yQ.own.rd ef fx;unfold Mt at CL;simp only[AN] at CL;dsimp only at ec;generalize GC Pk an=res at ec CL;obtain⟨Q,vr,ok⟩:=res;have cy:=Nx.trans ec;have bl:=AA CL;have bi:=AA cy;clear ec CL Nx cy ai bx bw fr Sm;go_wp2_with fail;clear D0 D1 D2 D3 D4 D5 D6 D7 D8 z0 z1 z2 z3 z4 z5 z6 z7 z8;generalize wr.heap.size=gs at*;generalize wr.alloc _=W5 at*;have al:=bf;refine bl.mono ?_;rintro r w1 ⟨m6,i6,e6,c6,s6,l6,q6,rfl,O1,b1⟩;obtain⟨⟨⟨ma,mn,mc,rfl⟩,⟨ia,iN,ic,rfl⟩,⟨N,en,E,rfl⟩,⟨qa,qn,qc,rfl⟩⟩,⟨sa,sn,sc,rfl⟩,⟨la,ln,lc,rfl⟩,⟨pa,pn,pc,rfl⟩⟩:=O1.Dq;have bY:=AA (yx w1 (.cells #[.slice ma mn mc,.slice ia iN ic,.slice N en E,.slice qa qn qc,.slice sa sn sc,.slice la ln lc,.slice pa pn pc,Q.FU,Q.VO] 32));have fd:=AA (O1.below (AJ w1 (.cells #[.slice ma mn mc,.slice ia iN ic,.slice N en E,.slice qa qn qc,.slice sa sn sc,.slice la ln lc,.slice pa pn pc,Q.FU,Q.VO] 32)));have bD:=AA (b1.trans ((AJ w1 (.cells #[.slice ma mn mc,.slice ia iN ic,.slice N en E,.slice qa qn qc,.slice sa sn sc,.slice la ln lc,.slice pa pn pc,Q.FU,Q.VO] 32)).mono b1.size));clear O1 b1 bl;cases ok
   .have Nx:=AA (show Ea P (ss.take (k+1))=(Q,so++[-1]) from bi.u)
    clear bi;go_wp2_with fail;generalize w1.heap.size=g10 at*;generalize w1.alloc _=W8 at*;obtain⟨k0,k1,k2,k3,k4,k5,k6,k7,k8⟩:=AC bY.u;have ac:=AU bY.u;have bL:=AA (al.below bD.u).wds;have d9:=AA (yM al.lo bD.size);have ab:=DD bL bY ψ;have be:∀k,ov.ownBlock=some k->k<W8.heap.size:=λk J=>(yC bL k J).2
    refine Nl 5 mixed φ 71 rfl φ 4 (ov.ownBlock) (λix vv ww=>match ix with
     |0=>vv=.agg #[.slice ma mn mc,.slice ia iN ic,.slice N en E,.slice qa qn qc,.slice sa sn sc,.slice la ln lc,.slice pa pn pc,Q.FU,Q.VO]
     |1=>vv=ov
     |2=>vv=.int .i64 ((-1))
     |3=>LU W8 vv ww (-1)
     |4=>AE W0 ww vv (so++[(-1)])
     |_=>True) ?_ ?_ ?_ ?_ ?_
    .intro i hi cN vv wz fl cC cd hz
     match i,hi,cN with
     |0,_,H|1,_,H|2,_,H=>exact hz
     |3,_,H=>exact(LU.past hz cd be)
     |4,_,H=>exact absurd rfl H
    .intro vv wz fl cd hz
     exact(AE.below hz cd)
    .intro i hi cN o ho a wx Hb Hd hG qv HK
     match i,hi,cN with
     |0,_,_=>exact dL ho rfl (gn rfl) HK rfl (eb (No Hb 10)) (Vr ((Bt hG ac ab).trans k0) ((Bt hG ac ab).trans k1) ((Bt hG ac ab).trans k2) ((Bt hG ac ab).trans k3) ((Bt hG ac ab).trans k4) ((Bt hG ac ab).trans k5) ((Bt hG ac ab).trans k6) ((Bt hG ac ab).trans k7) ((Bt hG ac ab).trans k8)) rfl
     |1,_,_=>exact dM ho rfl (gn rfl) HK rfl (eb (No Hb 7)) rfl
     |2,_,_=>exact dM ho rfl (gn rfl) HK rfl (eb (No Hb 11)) rfl
     |3,_,_=>obtain rfl:=yP ho;have d2:(a.tmps[53]?.getD undef)=.int .i64 ((-1)):=Bc Hd 2;clear Hd Hb;refine yO ?_;go_simp;exact HK _ _ ⟨_,rfl,hG.size,yx _ _⟩ (AJ _ _)
     |4,_,H=>exact absurd rfl H
    .intro o ho a wx Hb Hd hG qv HK
     obtain rfl:=yP ho;have d1:(a.tmps[52]?.getD undef)=ov:=Bc Hd 1;have d3:LU W8 (a.tmps[54]?.getD undef) wx (-1):=Bc Hd 3;clear Hd Hb;obtain⟨g9,d3,iO,fy⟩:=d3;have fq:=AE.below bL hG;obtain⟨i0,e4,cC,er,em⟩:=info_parts Tryz.zS;obtain⟨io,w4,cF,r1,r2,_,r4⟩:=run_append_own_at (P:=prog) wx W0.heap.size 29 29 3 i0 _ 1 8 underlying29 e4 cC er em rfl ψ ov so.length (so.map (yl .i64)) fq ⟨g9,0,none⟩ 1 1 [.int .i64 ((-1))] rfl (by
      intro j x hx
      match j,hx with
      |0,hx=>simp at hx;subst hx;exact cell_of_row wx g9 0 _ _ _ fy) (by simp[xR]) (by have:=c9.u;simp only[maxLen];omega) (by have:=c9.u;omega) (yM d9 hG.size)
     clear e4 cC er em;refine yO ?_;refine Cc rfl (Br d1) (Br d3) cF ?_;exact HK _ _ (by simpa[AE] using r1) r2
    intro vs wx hR hG
    have q0:(vs 0)=.agg #[.slice ma mn mc,.slice ia iN ic,.slice N en E,.slice qa qn qc,.slice sa sn sc,.slice la ln lc,.slice pa pn pc,Q.FU,Q.VO]:=Bh hR 0;have q4:AE W0 wx (vs 4) (so++[(-1)]):=Bh hR 4;clear hR;simp only[Ai,Ae,yL,yI,yJ,yH,q0];simp;generalize vs 4=z4 at q4 ⊢;clear q0;have PU:=al.push bD fd hG q4;obtain⟨_,_,rfl,_⟩:=(AE.rd q4).open;obtain⟨c0,c1,c2,c3,c4,c5,c6,c7,c8⟩:=AC PU.1;have fz:=AI PU.1;have bm:=AA PU.2;clear PU q4 hG k0 k1 k2 k3 k4 k5 k6 k7 k8 ac ab be bY;simp only[DO] at bm;go_wp2;go_roundw;exact⟨k+1,ω,ξ,_,rfl,_,_,_,_,_,_,_,by rw[Nx.u];exact bm.u⟩;simp[intOf];omega
   have Nx:=AA (show Ea P (ss.take (k+1))=(Q,so++[vr]) from bi.u)
   clear bi;go_wp2_with fail;generalize w1.heap.size=g10 at*;generalize w1.alloc _=W8 at*;obtain⟨k0,k1,k2,k3,k4,k5,k6,k7,k8⟩:=AC bY.u;have ac:=AU bY.u;have bL:=AA (al.below bD.u).wds;have d9:=AA (yM al.lo bD.size);have ab:=DD bL bY ψ;have be:∀k,ov.ownBlock=some k->k<W8.heap.size:=λk J=>(yC bL k J).2
   refine Nl 5 mixed φ 71 rfl φ 4 (ov.ownBlock) (λix vv ww=>match ix with
    |0=>vv=.agg #[.slice ma mn mc,.slice ia iN ic,.slice N en E,.slice qa qn qc,.slice sa sn sc,.slice la ln lc,.slice pa pn pc,Q.FU,Q.VO]
    |1=>vv=ov
    |2=>vv=.int .i64 vr
    |3=>LU W8 vv ww vr
    |4=>AE W0 ww vv (so++[vr])
    |_=>True) ?_ ?_ ?_ ?_ ?_
   .intro i hi cN vv wz fl cC cd hz
    match i,hi,cN with
    |0,_,H|1,_,H|2,_,H=>exact hz
    |3,_,H=>exact(LU.past hz cd be)
    |4,_,H=>exact absurd rfl H
   .intro vv wz fl cd hz
    exact(AE.below hz cd)
   .intro i hi cN o ho a wx Hb Hd hG qv HK
    match i,hi,cN with
    |0,_,_=>exact dL ho rfl (gn rfl) HK rfl (eb (No Hb 10)) (Vr ((Bt hG ac ab).trans k0) ((Bt hG ac ab).trans k1) ((Bt hG ac ab).trans k2) ((Bt hG ac ab).trans k3) ((Bt hG ac ab).trans k4) ((Bt hG ac ab).trans k5) ((Bt hG ac ab).trans k6) ((Bt hG ac ab).trans k7) ((Bt hG ac ab).trans k8)) rfl
    |1,_,_=>exact dM ho rfl (gn rfl) HK rfl (eb (No Hb 7)) rfl
    |2,_,_=>exact dM ho rfl (gn rfl) HK rfl (eb (No Hb 11)) rfl
    |3,_,_=>obtain rfl:=yP ho;have d2:(a.tmps[53]?.getD undef)=.int .i64 vr:=Bc Hd 2;clear Hd Hb;refine yO ?_;go_simp;exact HK _ _ ⟨_,rfl,hG.size,yx _ _⟩ (AJ _ _)
    |4,_,H=>exact absurd rfl H
   .intro o ho a wx Hb Hd hG qv HK
    obtain rfl:=yP ho;have d1:(a.tmps[52]?.getD undef)=ov:=Bc Hd 1;have d3:LU W8 (a.tmps[54]?.getD undef) wx vr:=Bc Hd 3;clear Hd Hb;obtain⟨g9,d3,iO,fy⟩:=d3;have fq:=AE.below bL hG;obtain⟨i0,e4,cC,er,em⟩:=info_parts Tryz.zS;obtain⟨io,w4,cF,r1,r2,_,r4⟩:=run_append_own_at (P:=prog) wx W0.heap.size 29 29 3 i0 _ 1 8 underlying29 e4 cC er em rfl ψ ov so.length (so.map (yl .i64)) fq ⟨g9,0,none⟩ 1 1 [.int .i64 (vr)] rfl (by
     intro j x hx
     match j,hx with
     |0,hx=>simp at hx;subst hx;exact cell_of_row wx g9 0 _ _ _ fy) (by simp[xR]) (by have:=c9.u;simp only[maxLen];omega) (by have:=c9.u;omega) (yM d9 hG.size)
    clear e4 cC er em;refine yO ?_;refine Cc rfl (Br d1) (Br d3) cF ?_;exact HK _ _ (by simpa[AE] using r1) r2
   intro vs wx hR hG
   have q0:(vs 0)=.agg #[.slice ma mn mc,.slice ia iN ic,.slice N en E,.slice qa qn qc,.slice sa sn sc,.slice la ln lc,.slice pa pn pc,Q.FU,Q.VO]:=Bh hR 0;have q4:AE W0 wx (vs 4) (so++[vr]):=Bh hR 4;clear hR;simp only[Ai,Ae,yL,yI,yJ,yH,q0];simp;generalize vs 4=z4 at q4 ⊢;clear q0;have PU:=al.push bD fd hG q4;obtain⟨_,_,rfl,_⟩:=(AE.rd q4).open;obtain⟨c0,c1,c2,c3,c4,c5,c6,c7,c8⟩:=AC PU.1;have fz:=AI PU.1;have bm:=AA PU.2;clear PU q4 hG k0 k1 k2 k3 k4 k5 k6 k7 k8 ac ab be bY;simp only[DO] at bm;go_wp2;go_roundw;exact⟨k+1,ω,ξ,_,rfl,_,_,_,_,_,_,_,by rw[Nx.u];exact bm.u⟩;simp[intOf];omega
  have t1:(xk==1)=false:=by simp[X]
  by_cases V:xk=2
  focus
   subst V
   obtain⟨bx,bw⟩:=MX ai rfl;have es:=Ow ai rfl;obtain⟨an,rfl⟩:∃an:Nat,xa=(an:Int):=⟨xa.toNat,by simp only at bx;omega⟩
   have fx:an<64:=by simp only at bw;omega
   have ec:=LD (st:=(Pk,so)) (s:=⟨2,(an:Int),xx,ck,ce,ca,cb,cc,nm⟩) rfl;rw[show(⟨2,(an:Int),xx,ck,ce,ca,cb,cc,nm⟩:Ax).a.toNat=an from rfl] at ec;have CL:=Rh _ _ _ _ _ _ _ Pk _ bf.yQ.own.rd ef fx (x:=xx) es;unfold Fo at CL;simp only[AN] at CL;dsimp only at ec;generalize Gf Pk an xx=res at ec CL;obtain⟨Q,ok⟩:=res;have cy:=Nx.trans ec;have bl:=AA CL;have bi:=AA (show Ea P (ss.take (k+1))=(Q,so) from cy);clear ec CL Nx cy ai bx bw fr Sm es X
  rotate_left
  focus
   have t2:(xk==2)=false:=by simp[V]
   obtain⟨h3,fn⟩:=Sq ai X V;have ec:=QE (st:=(Pk,so)) (s:=⟨xk,xa,xx,ck,ce,ca,cb,cc,nm⟩) X V;have CL:=Sm h3 _ _ _ _ _ _ _ Pk _ bf.yQ.own.rd ef.u;unfold Im at CL;simp only[AN] at CL;dsimp only at ec;generalize HY Pk (Ax.kall ⟨xk,xa,xx,ck,ce,ca,cb,cc,nm⟩)=res at ec CL;obtain⟨Q,code⟩:=res;have cy:=Nx.trans ec;have bl:=AA CL;have bi:=AA (show Ea P (ss.take (k+1))=(Q,so) from cy);clear ec CL Nx cy ai fr Sm X V h3 fn
  rotate_left
  all_goals
   go_wp2_with fail;clear D0 D1 D2 D3 D4 D5 D6 D7 D8 z0 z1 z2 z3 z4 z5 z6 z7 z8;generalize wr.heap.size=gs at*;generalize wr.alloc _=W5 at*;refine bl.mono ?_;rintro r w1 ⟨m6,i6,e6,c6,s6,l6,q6,rfl,O1,b1⟩;have PU:=bf.put b1 O1;obtain⟨⟨⟨ma,mn,mc,rfl⟩,⟨ia,iN,ic,rfl⟩,⟨N,en,E,rfl⟩,⟨qa,qn,qc,rfl⟩⟩,⟨sa,sn,sc,rfl⟩,⟨la,ln,lc,rfl⟩,⟨pa,pn,pc,rfl⟩⟩:=O1.Dq;have hB:=(bf.below b1).yQ.yU;obtain⟨c0,c1,c2,c3,c4,c5,c6,c7,c8⟩:=AC hB;have fz:=AI hB;obtain⟨_,_,rfl,_⟩:=(AE.rd bf.wds).open;have bm:=AA PU;clear PU O1 b1 bl hB;simp only[DO] at bm;go_wp2;go_roundw;exact⟨k+1,ω,ξ,_,rfl,_,_,_,_,_,_,_,by rw[bi.u];exact bm.u⟩;simp[intOf];omega
 obtain rfl:k=ss.length:=ω;have e1:ss.take ss.length=ss:=xm (yF _);rw[e1,el.u] at D;have ao:Dd Q:=by
  rw[show Q=(Ea P ss).1 by rw[el.u]];have:=cr ss.length
  rwa [e1] at this
 obtain⟨x0,x1,x2,x3,x4,x5,x6,x7,x8⟩:=AC D.yQ.yU;have C6:=AA (Ji _ _ _ _ _ _ _ Q wr D.yQ.own.rd ao);have B3:=AB b9 D.bel;have cu:=AA (aq.trans (D.bel.mono aq.size));have f2:=AA D.wds;obtain⟨oa,oc,rfl,_⟩:=(AE.rd D.wds).open;clear D e1 ao cP;go_wp2_with fail;refine C6.mono ?_;rintro r w5 ⟨m5,i5,e5,c5,s5,l5,q5,rfl,O5,b5⟩;unfold AN;clear C6 x0 x1 x2 x3 x4 x5 x6 x7 x8;obtain⟨⟨⟨ma,mn,mc,rfl⟩,⟨ia,iN,ic,rfl⟩,⟨N,en,E,rfl⟩,⟨qa,qn,qc,rfl⟩⟩,⟨sa,sn,sc,rfl⟩,⟨la,ln,lc,rfl⟩,⟨pa,pn,pc,rfl⟩⟩:=O5.Dq;have N5:=AB B3 b5;have S5:=Bu N5 O5;obtain⟨a0,a1,a2,a3,a4,a5,a6,a7,a8⟩:=AC N5;have f5:=AI N5;have ee:=AA S5;have cp:=AA b5;have fc:=AA (AU B3);clear O5 S5 N5 b5 B3;go_wp2_with fail;clear a0 a1 a2 a3 a4 a5 a6 a7 a8 f5;obtain⟨N6,O6,ci⟩:=ee.u;have B6:=AM (cu.trans (cp.mono (by have:=cu.size;have:=fc.u;omega))) ci ω (by have:=cu.size;have:=cp.size;omega);have O7:=O6.lower (lo':=w.heap.size) (by have:=cu.size;omega);unfold DO at N6 O7 B6;exact yB (v:=.tuple #[.agg #[.slice ma mn mc,.slice ia iN ic,.slice N en E,.slice qa qn qc,.slice sa sn sc,.slice la ln lc,.slice pa pn pc,Q.FU,Q.VO],.slice oa so.length oc]) (by simp[results,Tryz.results13,go_sem,AC N6]) rfl ⟨_,_,_,_,_,_,_,_,rfl,O7,Bb (BU (lo:=W0.heap.size) (AE.below f2 cp.u) ci (λk J=>by cases J;have:=df.u;omega)) (by have:=df.u;omega),B6⟩
section
variable {lo g:Nat} {o m i e c s l q m' i' e' c' s' l' q':Φ} {st:AP×List Int} {w wr w1:Ω} {Q:AP}
theorem Xm.putPush(h:Xm lo g o st w wr m i e c s l q)(L:Γ wr wr w1)(mv:Es wr w1 m' i' e' c' s' l' q' Q){w2:Ω}{o':Φ}{x:Int}
 (hg:World.grownBy (((DO w1 g m' i' e' c' s' l' q').setCell (g,7) (.int .i64 Q.FU)).setCell (g,8) (.int .i64 Q.VO)) w2 o.ownBlock)(ho:AE lo w2 o' (st.2++[x])):
 Xm lo g o' (Q,st.2++[x]) w w2 m' i' e' c' s' l' q':=by
 have S:=Bu (h.below L).yQ.yU mv;have hP:=h.put L mv;have cw:=DD hP.wds hP.yQ.yU ψ;exact⟨⟨(hg.block g (AU hP.yQ.yU) (λe=>cw e.symm)).trans hP.yQ.yU,h.yQ.yT,(S.2.1.past hg (λb L=>(yC h.wds b L).2)).lower h.lo⟩,ho,hP.bel.grown hg hP.lo (λk J=>(yC hP.wds k J).1),yM hP.lo hg.size⟩
end
def Qg(P:AP)(ss:List Ax):AP×List Int:=if(BN P&&DU ss)=true then Ea P ss else(Xj,[])
def gv(w:Ω)(t:AP×List Int)(r:Ending)(w':Ω):Prop:=∃m i e c s l q o,r=.returned (.tuple #[AN m i e c s l q t.1.FU t.1.VO,o])/\JA w' m i e c s l q t.1/\A1 w' o t.2/\Γ w w w'
theorem Qh (w:Ω)(a:Option Addr):A1 w (.slice a 0 0) []:=⟨_,_,rfl,yF _,ζ,rfl,λ_=>rfl,λh=>absurd h (Nat.lt_irrefl _)⟩
theorem UL (O R Z Y A z K v:Φ)(P:AP)(ss:List Ax)(w:Ω)(h:JA w O R Z Y A z K P)(H:Gs P.V0)(ax:GE w v ss)(eL:(BN P&&DU ss)=false):
 Ξ prog 14 #[AN O R Z Y A z K P.FU P.VO,v] w (gv w (Xj,[])):=by
 unfold AN gv AN;obtain⟨N0,N1,NE,av,bq⟩:=Ft w (.cells #[O,R,Z,Y,A,z,K,P.FU,P.VO] 32) (.cells #[ι,ι,ι,ι,ι,ι,ι,θ,θ] 32) (.cells #[] 3);have h0:=h.below av;have bp:=AA (λW (hW:Γ w w W)=>Jq v ss W (Rd.below ax hW));obtain⟨x0,x1,x2,x3,x4,x5,x6,x7,x8⟩:=AC N0;clear bq;go_in;go_wp2_with fail;generalize((w.alloc _).alloc _).alloc _=W0 at*;have CV:=EQ O R Z Y A z K P W0 h0 H;unfold AN at CV;have aq:=AA av;have b9:=AA N1;generalize BN P=ok at*;clear h h0 av N0 N1 NE x0 x1 x2 x3 x4 x5 x6 x7 x8 ax;refine CV.mono ?_;rintro r w1 ⟨rfl,b1⟩;have Bw:=AA (aq.trans (b1.mono aq.size));clear CV;cases ok
 focus
  clear eL
 rotate_left
 focus
  go_wp2_with fail
  refine(bp _ Bw.u).mono ?_;rintro r w2 ⟨rfl,b2⟩;rw[show DU ss=false by simpa using eL];replace b1:=b1.trans (b2.mono b1.size);replace Bw:=AA (Bw.trans (b2.mono Bw.size));clear eL b2 bp
 rotate_left
 all_goals
  have N1:=AB b9 b1;have f1:=AI N1;obtain⟨a0,a1,a2,a3,a4,a5,a6,a7,a8⟩:=AC N1;have S2:=AA (Ed N1 (Bw.u) ω);clear N1;go_wp2_with fail;clear a0 a1 a2 a3 a4 a5 a6 a7 a8 f1;obtain⟨N2,B2⟩:=S2.u;unfold DO at N2 B2;exact yB (v:=.tuple #[.agg #[ι,ι,ι,ι,ι,ι,ι,θ,θ],.slice (some ⟨w.heap.size+1+1,0,none⟩) 0 0]) (by simp[results,Tryz.results14,go_sem,AC N2]) rfl ⟨_,_,_,_,_,_,_,_,rfl,LN _,Qh _ _,B2⟩
theorem TU (O R Z Y A z K v:Φ)(P:AP)(ss:List Ax)(w:Ω)(h:JA w O R Z Y A z K P)(hP:Dd P)(ax:GE w v ss)(ae:DU ss=true)(az:∀s∈ss,s.nm.size<=maxLen/\s.cc<=9223372036854775807):
 Ξ prog 14 #[AN O R Z Y A z K P.FU P.VO,v] w (ME w (Ea P ss)):=by
 unfold AN ME;obtain⟨B0,B1,av,bq⟩:=FR w (.cells #[O,R,Z,Y,A,z,K,P.FU,P.VO] 32) (.cells #[ι,ι,ι,ι,ι,ι,ι,θ,θ] 32);have o0:=Co ((w.alloc (.cells #[O,R,Z,Y,A,z,K,P.FU,P.VO] 32)).alloc (.cells #[ι,ι,ι,ι,ι,ι,ι,θ,θ] 32)) 3 1;have bE:=AJ ((w.alloc (.cells #[O,R,Z,Y,A,z,K,P.FU,P.VO] 32)).alloc (.cells #[ι,ι,ι,ι,ι,ι,ι,θ,θ] 32)) (.cells #[] 3);have h0:=h.below av;have eD:BN P=true:=Ct.2 hP;have bp:=AA (λW (hW:Γ w w W)=>Jq v ss W (Rd.below ax hW));rw[ae] at bp;have iM:=Qn ae;have dg:=AA ae;have cl:=AA az;have cr:=AA (λk=>ZP hP (λs H=>by obtain⟨j,hj⟩:=xN (uq H);exact JO ae hj) []:∀k,Dd (Ea P (ss.take k)).1);obtain⟨a,cT,rfl,iJ,br,H0⟩:=ax.open;unfold maxLen at br;have HA:=AA H0;generalize hPL:Ea P ss=t;obtain⟨Q,so⟩:=t;dsimp only;have el:=AA hPL;clear hPL;obtain⟨x0,x1,x2,x3,x4,x5,x6,x7,x8⟩:=AC (AB B0 bE);go_in;go_wp2_with fail;generalize hWA:(w.alloc _).alloc _=WA at*;have CV:=EQ O R Z Y A z K P _ (h0.below bE) (CJ hP.k);have CO:=AA (λW (hW:Γ WA WA W)=>Ki O R Z Y A z K P W (h0.below hW) hP);rw[eD] at CV;unfold OS AN at CO;unfold AN at CV;have aq:=AA av;have fk:=AA B0;have b9:=AA B1;have df:=AA bq;have hY:=AA o0;have iQ:=AA bE;have iP:=AA (show WA.heap.size<=(WA.alloc (.cells #[] 3)).heap.size from bE.size);clear h h0 av B0 B1 hP eD bq H0 ax ae az hWA x0 x1 x2 x3 x4 x5 x6 x7 x8 o0 bE;generalize WA.alloc (.cells #[] 3)=WE at*;refine CV.mono ?_;rintro r w1 ⟨rfl,b1⟩;have cz:=AA (iQ.trans (b1.mono iP.u));have hV:=AA (A8 hY b1);obtain⟨x0,x1,x2,x3,x4,x5,x6,x7,x8⟩:=AC (AB fk cz.u);clear b1 CV;go_wp2_with fail;refine(bp _ (aq.trans (cz.mono aq.size))).mono ?_;rintro r w2 ⟨rfl,b2⟩;have ay:=AA (cz.trans (b2.mono cz.size));have hU:=AA (A8 hV b2);clear b2 x0 x1 x2 x3 x4 x5 x6 x7 x8;obtain⟨x0,x1,x2,x3,x4,x5,x6,x7,x8⟩:=AC (AB fk ay.u);go_wp2_with fail;refine(CO w2 ay.u).mono ?_;rintro r w3 ⟨m3,i3,e3,c3,s3,l3,q3,rfl,O3,b3⟩;obtain⟨⟨⟨ma,mn,mc,rfl⟩,⟨ia,iN,ic,rfl⟩,⟨N,en,E,rfl⟩,⟨qa,qn,qc,rfl⟩⟩,⟨sa,sn,sc,rfl⟩,⟨la,ln,lc,rfl⟩,⟨pa,pn,pc,rfl⟩⟩:=O3.Dq;have e0:WA.heap.size<=w3.heap.size:=yM ay.size b3.size;have I4:=ID.start (O3.lower ay.size) e0;have bP:=AJ w3 (.cells #[.slice ma mn mc,.slice ia iN ic,.slice N en E,.slice qa qn qc,.slice sa sn sc,.slice la ln lc,.slice pa pn pc,P.FU,P.VO] 32)
 have D:Xm WA w3.heap.size (.slice (some ⟨w.heap.size+1+1,0,none⟩) 0 0) (P,[]) WA (w3.alloc (.cells #[.slice ma mn mc,.slice ia iN ic,.slice N en E,.slice qa qn qc,.slice sa sn sc,.slice la ln lc,.slice pa pn pc,P.FU,P.VO] 32)) _ _ _ _ _ _ _:=⟨I4,by have:=A8 (A8 hU b3) bP;rw[df.u] at this ⊢;exact this,ay.trans ((b3.trans (bP.mono b3.size)).mono ay.size),yM e0 bP.size⟩;clear O3 b3 x0 x1 x2 x3 x4 x5 x6 x7 x8 I4 CO bp bP hY hV hU;go_wp2_with fail;generalize w3.heap.size=g at*;generalize w3.alloc _=W3 at*;generalize(Value.slice (some ⟨w.heap.size+1+1,0,none⟩) 0 0)=oz at*;have al:=AA D;clear D;go_loopw [6,8] (λo ix wr=>∃k:Nat,k<=ss.length/\ix=.int .i64 k/\∃ov,ov=o/\∃m i e c s l q,Xm WA g ov (Ea P (ss.take k)) WA wr m i e c s l q) (λ_ ix _=>ss.length - (intOf ix).toNat)
 exact⟨0,yt _,rfl,_,rfl,_,_,_,_,_,_,_,al.u⟩
 clear al;obtain⟨k,J,rfl,ov,rfl,m5,i5,e5,c5,s5,l5,q5,D⟩:=hrel;have cP:=aq.trans (D.bel.mono aq.size)
 by_cases bu:k<ss.length
 .obtain⟨x,hx⟩:∃x,ss[k]?=some x:=⟨_,yG bu⟩
  obtain⟨b,am,rfl,D0,D1,D2,D3,D4,D5,D6,D7,D8⟩:=HA.nine cP hx;have ft:(k:Int)<(ss.length:Int):=ω;have Nx:=AA (Uy (p:=P) hx);have Sm:=cl x (yv hx);have ai:=JO dg hx;have ao:Dd (Ea P (ss.take k)).1:=cr k;have au:(Ea P (ss.take k)).2.length<=80:=by have:=XP (ss.take k) P [];unfold Ea;simp only[xi,ym] at this;omega
  generalize Ea P (ss.take k)=st at D Nx ao au;clear el hx cP;obtain⟨Pk,so⟩:=st;obtain⟨xk,xa,xx,ck,ce,ca,cb,cc,nm⟩:=x;dsimp only at D0 D1 D2 D3 D4 D5 D6 D7 D8 Sm ao au;replace D:=D.below (AJ wr (.cells #[xk,xa,xx,ck,ce,ca,cb,cc,nm] 52));obtain⟨z0,z1,z2,z3,z4,z5,z6,z7,z8⟩:=AC D.yQ.yU;have c9:=AA au;have ef:=AA ao;have al:=AA D;clear D ao au
  by_cases X:xk=1
  .subst X
   obtain⟨bx,bw⟩:=Ov ai rfl;obtain⟨an,rfl⟩:∃an:Nat,xa=(an:Int):=⟨xa.toNat,by simp only at bx;omega⟩
   have ec:=LC (st:=(Pk,so)) (s:=⟨1,(an:Int),xx,ck,ce,ca,cb,cc,nm⟩) rfl;have CL:=Md _ _ _ _ _ _ _ Pk _ al.yQ.own.rd ef (show an<64 by simp only at bw;omega);unfold Mt at CL;simp only[AN] at CL;dsimp only[yq] at ec;generalize GC Pk an=res at ec CL;obtain⟨Q,vr,ok⟩:=res;have fg:=AA (Nx.trans ec);have bl:=AA CL;clear ec CL Nx ai bx bw Sm;go_wp2_with fail;clear D0 D1 D2 D3 D4 D5 D6 D7 D8 z0 z1 z2 z3 z4 z5 z6 z7 z8;generalize wr.alloc _=W5 at*;refine bl.mono ?_;rintro r w1 ⟨m6,i6,e6,c6,s6,l6,q6,rfl,O1,b1⟩;obtain⟨⟨⟨ma,mn,mc,rfl⟩,⟨ia,iN,ic,rfl⟩,⟨N,en,E,rfl⟩,⟨qa,qn,qc,rfl⟩⟩,⟨sa,sn,sc,rfl⟩,⟨la,ln,lc,rfl⟩,⟨pa,pn,pc,rfl⟩⟩:=O1.Dq;have bX:=AJ w1 (.cells #[.slice ma mn mc,.slice ia iN ic,.slice N en E,.slice qa qn qc,.slice sa sn sc,.slice la ln lc,.slice pa pn pc,Q.FU,Q.VO] 32);have bY:=AA (yx w1 (.cells #[.slice ma mn mc,.slice ia iN ic,.slice N en E,.slice qa qn qc,.slice sa sn sc,.slice la ln lc,.slice pa pn pc,Q.FU,Q.VO] 32));have bL:=AA (O1.below bX);have bD:=AA (b1.trans (bX.mono b1.size));clear O1 b1 bl bX;go_upto_if 53 with fail;generalize w1.heap.size=g10 at*;generalize w1.alloc _=W8 at*;go_cut [11] (λsw W=>sw=.int .i64 (Nf (Q,vr,ok))/\W=W8)
   case first=>
    cases ok
    .go_wp2_with fail
     go_meet;exact⟨rfl,rfl⟩
    go_wp2_with fail
    go_meet;exact⟨rfl,rfl⟩
   case rest=>
    obtain⟨rfl,rfl⟩:=hcut;have PU:=al.put bD bL.u;obtain⟨k0,k1,k2,k3,k4,k5,k6,k7,k8⟩:=AC bY.u;obtain⟨c0,c1,c2,c3,c4,c5,c6,c7,c8⟩:=AC (al.below bD.u).yQ.yU;have fz:=AI (al.below bD.u).yQ.yU;have HG:=AA (λw2 o' x hg ho=>al.putPush bD bL (w2:=w2) (o':=o') (x:=x) hg ho);have iS:=AA (show Ea P (ss.take (k+1))=(Q,so++[Nf (Q,vr,ok)]) from fg.u);simp only[DO] at PU HG;generalize Nf (Q,vr,ok)=wd at*;go_wp2_with (at_builtin;go_must (refine Bn (lo:=WA.heap.size) (n:=so.length) (xs:=so.map (yl .i64)) (m:=1) (news:=[.int .i64 wd]) rfl rfl 3 (.int .i64 0) 1 8 underlying29 Tryz.zS rfl ψ rfl (PU.below (AJ _ _)).wds rfl (Rd.zM _ #[_] _ 1 1 _ χ rfl ζ) (by simp[xR]) (by have:=c9.u;unfold maxLen;omega) (by have:=c9.u;omega) (PU.below (AJ _ _)).lo ?_;intro o' w9 n1 n2 n3 n4));go_roundw;exact⟨k+1,ω,ξ,_,rfl,_,_,_,_,_,_,_,by rw[iS.u];exact HG _ _ _ (AO (AW (AJ _ _) _) n2) (by unfold AE;rw[yz,List.map_append];exact n1)⟩;simp[intOf];omega
  have t1:(xk==1)=false:=by simp[X]
  by_cases V:xk=2
  .subst V
   obtain⟨bx,bw⟩:=MX ai rfl;have es:=Ow ai rfl;obtain⟨an,rfl⟩:∃an:Nat,xa=(an:Int):=⟨xa.toNat,by simp only at bx;omega⟩
   have ec:=LD (st:=(Pk,so)) (s:=⟨2,(an:Int),xx,ck,ce,ca,cb,cc,nm⟩) rfl;have CL:=Jw _ _ _ _ _ _ _ Pk _ al.yQ.own.rd ef (show an<64 by simp only at bw;omega) (x:=xx) es;unfold Fo at CL;simp only[AN] at CL;dsimp only[yq] at ec;generalize Gf Pk an xx=res at ec CL;obtain⟨Q,ok⟩:=res;have fg:=AA (show Ea P (ss.take (k+1))=(Q,so) from Nx.trans ec);have bl:=AA CL;clear ec CL Nx ai bx bw Sm es X;go_wp2_with fail;clear D0 D1 D2 D3 D4 D5 D6 D7 D8 z0 z1 z2 z3 z4 z5 z6 z7 z8;generalize wr.alloc _=W5 at*;refine bl.mono ?_;rintro r w1 ⟨m6,i6,e6,c6,s6,l6,q6,rfl,O1,b1⟩;obtain⟨⟨⟨ma,mn,mc,rfl⟩,⟨ia,iN,ic,rfl⟩,⟨N,en,E,rfl⟩,⟨qa,qn,qc,rfl⟩⟩,⟨sa,sn,sc,rfl⟩,⟨la,ln,lc,rfl⟩,⟨pa,pn,pc,rfl⟩⟩:=O1.Dq;have bX:=AJ w1 (.cells #[.slice ma mn mc,.slice ia iN ic,.slice N en E,.slice qa qn qc,.slice sa sn sc,.slice la ln lc,.slice pa pn pc,Q.FU,Q.VO] 32);have PU:=al.put (b1.trans (bX.mono b1.size)) (O1.below bX);obtain⟨k0,k1,k2,k3,k4,k5,k6,k7,k8⟩:=AC (yx w1 (.cells #[.slice ma mn mc,.slice ia iN ic,.slice N en E,.slice qa qn qc,.slice sa sn sc,.slice la ln lc,.slice pa pn pc,Q.FU,Q.VO] 32));obtain⟨c0,c1,c2,c3,c4,c5,c6,c7,c8⟩:=AC (AB (al.below b1).yQ.yU bX);have fz:=AI (AB (al.below b1).yQ.yU bX);have bm:=AA PU;clear PU O1 b1 bl bX;simp only[DO] at bm;go_wp2;go_roundw;exact⟨k+1,ω,ξ,_,rfl,_,_,_,_,_,_,_,by rw[fg.u];exact bm.u⟩;simp[intOf];omega
  have t2:(xk==2)=false:=by simp[V]
  obtain⟨h3,fn⟩:=Sq ai X V;have ec:=QE (st:=(Pk,so)) (s:=⟨xk,xa,xx,ck,ce,ca,cb,cc,nm⟩) X V;have CL:=Lh _ _ _ _ _ _ _ Pk ⟨ck,ce,ca,cb,cc,nm⟩ _ al.yQ.own.rd ef (by rcases fn with e|e<;>(simp only[Ax.kall] at e;simp only;omega)) Sm.1 Sm.2;unfold Im at CL;simp only[AN,AT.cs] at CL;dsimp only[Ax.kall] at ec;generalize HY Pk ⟨ck,ce,ca,cb,cc,nm⟩=res at ec CL;obtain⟨Q,code⟩:=res;have fg:=AA (show Ea P (ss.take (k+1))=(Q,so) from Nx.trans ec);have bl:=AA CL;simp only at h3;subst h3;clear ec CL Nx ai Sm X V fn;go_wp2_with fail;clear D0 D1 D2 D3 D4 D5 D6 D7 D8 z0 z1 z2 z3 z4 z5 z6 z7 z8;generalize wr.alloc _=W5 at*;refine bl.mono ?_;rintro r w1 ⟨m6,i6,e6,c6,s6,l6,q6,rfl,O1,b1⟩;obtain⟨⟨⟨ma,mn,mc,rfl⟩,⟨ia,iN,ic,rfl⟩,⟨N,en,E,rfl⟩,⟨qa,qn,qc,rfl⟩⟩,⟨sa,sn,sc,rfl⟩,⟨la,ln,lc,rfl⟩,⟨pa,pn,pc,rfl⟩⟩:=O1.Dq;have bX:=AJ w1 (.cells #[.slice ma mn mc,.slice ia iN ic,.slice N en E,.slice qa qn qc,.slice sa sn sc,.slice la ln lc,.slice pa pn pc,Q.FU,Q.VO] 32);have PU:=al.put (b1.trans (bX.mono b1.size)) (O1.below bX);obtain⟨k0,k1,k2,k3,k4,k5,k6,k7,k8⟩:=AC (yx w1 (.cells #[.slice ma mn mc,.slice ia iN ic,.slice N en E,.slice qa qn qc,.slice sa sn sc,.slice la ln lc,.slice pa pn pc,Q.FU,Q.VO] 32));obtain⟨c0,c1,c2,c3,c4,c5,c6,c7,c8⟩:=AC (AB (al.below b1).yQ.yU bX);have fz:=AI (AB (al.below b1).yQ.yU bX);have bm:=AA PU;clear PU O1 b1 bl bX;simp only[DO] at bm;go_wp2;go_roundw;exact⟨k+1,ω,ξ,_,rfl,_,_,_,_,_,_,_,by rw[fg.u];exact bm.u⟩;simp[intOf];omega
 obtain rfl:k=ss.length:=ω;rw[xm (yF _),el.u] at D;obtain⟨x0,x1,x2,x3,x4,x5,x6,x7,x8⟩:=AC D.yQ.yU;have N5:=AB b9 D.bel;have S5:=Bu N5 D.yQ.own;obtain⟨⟨⟨ma,mn,mc,rfl⟩,⟨ia,iN,ic,rfl⟩,⟨N,en,E,rfl⟩,⟨qa,qn,qc,rfl⟩⟩,⟨sa,sn,sc,rfl⟩,⟨la,ln,lc,rfl⟩,⟨pa,pn,pc,rfl⟩⟩:=D.yQ.own.Dq;obtain⟨a0,a1,a2,a3,a4,a5,a6,a7,a8⟩:=AC N5;have f5:=AI N5;have ee:=AA S5;have al:=AA D;obtain⟨oa,oc,rfl,_⟩:=(AE.rd D.wds).open;clear D cP S5 N5;go_wp2_with fail;clear a0 a1 a2 a3 a4 a5 a6 a7 a8 f5 x0 x1 x2 x3 x4 x5 x6 x7 x8;obtain⟨N6,O6,ci⟩:=ee.u;have bq:=df.u;have B6:=AM (aq.trans (al.bel.mono aq.size)) ci ω (yM aq.size al.lo);have O7:=O6.lower (lo':=w.heap.size) ω;have OO:=Bb (BU (lo:=WA.heap.size) al.wds ci (λk J=>by cases J;omega)) (ω:w.heap.size<=WA.heap.size);unfold DO at N6 O7 B6 OO;exact yB (v:=.tuple #[.agg #[_,_,_,_,_,_,_,_,_],.slice oa so.length oc]) (by simp[results,Tryz.results14,go_sem,AC N6]) rfl ⟨_,_,_,_,_,_,_,_,rfl,O7,OO,B6⟩
theorem Tt (O R Z Y A z K v:Φ)(P:AP)(ss:List Ax)(w:Ω)(h:JA w O R Z Y A z K P)(hP:Dd P)(ax:GE w v ss)(ae:DU ss=true)(az:∀s∈ss,s.k=3->s.nm.size<=maxLen/\s.cc<=9223372036854775807):
 Ξ prog 13 #[AN O R Z Y A z K P.FU P.VO,v] w (ME w (Ea P ss)):=
 VM O R Z Y A z K v P ss w h hP ax ae (λk=>ZP hP (λs H=>by obtain⟨j,hj⟩:=xN (uq H);exact JO ae hj) [])
  (λs H h3 O R Z Y A z K Q W hR hQ=>MF O R Z Y A z K Q s.kall W hR hQ (by obtain⟨j,hj⟩:=xN H;have:=(Sq (JO ae hj) ω ω).2;omega) (az s H h3).1 (az s H h3).2)
theorem Tryz.infoStep:(prog.info? 52).map (λi=>(i.zero,i.size,i.bytes))=some (some (.agg #[θ,θ,θ,θ,θ,θ,θ,θ,ϑ]),9,80):=φ
def dn(s:Ax):List Φ:=s.cells.toList
def Io(lo:Nat)(w:Ω)(v:Φ)(ss:List Ax):Prop:=w.ownsRow lo 52 9 v ss.length (FD ss)
theorem Io.rd (h:Io lo w v ss):GE w v ss:=Rd.of_owns h
def KM(s:Ax):Prop:=s.nm.size<=8/\s.cc<=1000000
structure Tr(w0:Ω)(g N:Nat)(w:Ω)(bk:Nat)(o:Φ)(ss:List Ax)(wr:Ω):Prop where
 dr:Dr w0 g N wr
 gr:w.grownBy wr (some g)
 glt:g<w.heap.size
 lo:w0.heap.size<=w.heap.size
 own:Io w wr o ss
 bkl:w.heap.size<=bk
 ker:∃m i e c xs,wr.heap[bk]?=some (.cells #[m,i,e,c] 28 (0,0))/\AQ w.heap.size 115 3 Av wr i xs/\xs.length<=12
 sm:∀s∈ss,KM s
section
variable {w0 w wr w':Ω} {g ea M bk b:Nat} {o o':Φ} {ss:List Ax} {s:Ax}
theorem Tr.mono(h:Tr w0 g ea w bk o ss wr)(hm:ea<=M):Tr w0 g M w bk o ss wr:= {h with dr:=h.dr.mono hm}
theorem Tr.draw(h:Tr w0 g ea w bk o ss wr)(hd:Dr w0 g M w')(hg:wr.grownBy w' (some g)):Tr w0 g M w bk o ss w':=by
 have hr:∀k,some g=some k->k<w.heap.size:=λk J=>by cases J;exact h.glt
 obtain⟨m,i,e,c,xs,h7,h8,h9⟩:=h.ker;exact⟨hd,AO h.gr hg,h.glt,h.lo,BU h.own hg hr,h.bkl,⟨m,i,e,c,xs,FF h7 h.bkl hg hr,BU h8 hg hr,h9⟩,h.sm⟩
theorem Tr.below(h:Tr w0 g ea w bk o ss wr)(L:Γ wr wr w'):Tr w0 g ea w bk o ss w':=h.draw (h.dr.below L) (AW L _)
theorem Tr.pk(h:Tr w0 g ea w bk o ss wr)(m:Int)(hN:ea<=900000:=by omega)(h0:0<m:=by decide)(hm:m<=1000000:=by decide):Ξ prog 23 #[.pointer g,.int .i64 m] wr λe' w'=>∃x:Int,e'=.returned (.int .i64 x)/\0<=x/\x<m/\Tr w0 g (ea+1) w bk o ss w'/\wr.grownBy w' (some g):=
 (h.dr.pick m ω hm).mono λ_ _ hp=>by obtain⟨x,rfl,X,V,h3,h4⟩:=hp;exact⟨x,rfl,X,V h0,h.draw h3 h4,h4⟩
theorem Tr.put(h:Tr w0 g ea w bk o ss wr){hS:Array Φ}(L:wr.heap[b]?=some (.cells hS 52 (0,0)))(fm:w.heap.size<=b)(h3:o.ownBlock≠some b)(hg:wr.grownBy w' (some b)):Tr w0 g ea w bk o ss w':=by
 obtain⟨m,i,e,c,xs,a7,a8,a9⟩:=h.ker;have cw:bk≠b:=by rintro rfl;rw[L] at a7;simp at a7
 have iw:=h.glt;exact⟨h.dr.keep hg η (λk J=>by cases J;have:=h.lo;omega),⟨hg.os.trans h.gr.os,hg.tape.trans h.gr.tape,hg.output.trans h.gr.output,yM h.gr.size hg.size,λk J hn=>(hg.block k (yu J h.gr.size) η).trans (h.gr.block k J hn)⟩,h.glt,h.lo,Au h.own hg (.inr h3),h.bkl,
  ⟨m,i,e,c,xs,(hg.block bk (AU a7) η).trans a7,a8.yV hg L,a9⟩,h.sm⟩
theorem Tr.push(h:Tr w0 g ea w bk o ss wr)(X:w'.ownsRow w.heap.size 52 9 o' (ss.length+1) (FD ss++s.cells.toList))(V:wr.grownBy w' o.ownBlock)(H:KM s):Tr w0 g ea w bk o' (ss++[s]) w':=by
 obtain⟨m,i,e,c,xs,a7,a8,a9⟩:=h.ker;have a1:=h.dr;have a2:=h.gr;have a3:=h.glt;have a4:=h.lo;have a5:=h.own;have fm:=λk J=>(yC a5 k J).1
 refine⟨a1.keep V (λe=>by have:=fm g e;omega) (λk J=>by have:=fm k J;omega),?_,a3,a4,?_,h.bkl,⟨m,i,e,c,xs,?_,Au a8 V (BI a8 a5 ψ).ne,a9⟩,?_⟩
 .exact⟨V.os.trans a2.os,V.tape.trans a2.tape,V.output.trans a2.output,yM a2.size V.size,λk J cw=>(V.block k (yu J a2.size) (λe=>by have:=fm k e.symm;omega)).trans (a2.block k J cw)⟩
 .unfold Io
  rw[yz,show FD (ss++[s])=FD ss++s.cells.toList by simp[FD]];exact X
 .refine(V.block bk (AU a7) (λe=>?_)).trans a7
  obtain⟨hS,hc⟩:=A7 a5 bk e.symm;rw[a7] at hc;simp at hc
 intro x hx
 rcases List.mem_append.1 hx with hx|hx
 .exact h.sm x hx
 rw[List.mem_singleton.1 hx];exact H
def Rj(lo b:Nat)(o:Φ)(s:Ax)(wr:Ω):Prop:=wr.heap[b]?=some (.cells s.cells 52 (0,0))/\lo<=b/\o.ownBlock≠some b
theorem Rj.draw{w1 w2:Ω}(h:Rj w b o s w1)(hg:w1.grownBy w2 (some g))(hl:g<w.heap.size):Rj w b o s w2:=
 ⟨FF h.1 h.2.1 hg (λk J=>by cases J;exact hl),h.2⟩
end
theorem Vc{w2:Ω}{q:Nat}(h:w.grownBy w1 (some g))(V:w1.grownBy w2 (some q))(hq:w.heap.size<=q):w.grownBy w2 (some g):=
 ⟨V.os.trans h.os,V.tape.trans h.tape,V.output.trans h.output,yM h.size V.size,λk J cw=>(V.block k (yu J h.size) (λe=>by cases e;omega)).trans (h.block k J cw)⟩
def OT(lo:Nat)(w:Ω)(v:Φ):Prop:=∃ss,Io lo w v ss/\ss.length<=82/\∀s∈ss,KM s
theorem OT.past (h:OT lo w v)(hg:g<lo)(L:w.grownBy w' (some g)):OT lo w' v:=by
 obtain⟨ss,X,V⟩:=h;exact⟨ss,BU X L (λb' e=>by cases e;exact hg),V⟩
theorem dp{P:Program}{f:FuncId}{vs:Array Φ}(h:Ξ P f vs w (Il w0 g ea w λv w'=>OT w w' v))(hl:lo<=w.heap.size):Ξ P f vs w (Il w0 g ea w λv w'=>OT lo w' v):=
 h.mono λ_ _ h=>by obtain⟨v,rfl,⟨ss,X,V⟩,h3⟩:=h;exact⟨v,rfl,⟨ss,Bb X hl,V⟩,h3⟩
theorem OL{b:Nat}(h:w.heap[b]?=some (.cells s.cells 52 (0,0))):w.cell? b=some (.int .i64 s.k)/\w.cell? (b,1)=some (.int .i64 s.a)/\w.cell? (b,2)=some (.int .i64 s.x)/\w.cell? (b,3)=some (.int .i64 s.ck)/\w.cell? (b,4)=some (.int .i64 s.ce)/\w.cell? (b,5)=some (.int .i64 s.ca)/\w.cell? (b,6)=some (.int .i64 s.cb)/\w.cell? (b,7)=some (.int .i64 s.cc)/\w.cell? (b,8)=some (.string s.nm):=AC h
theorem Vq (cx:Bool)(h:Dr w0 g ea w)(hN:ea<=100000):
 Ξ prog 35 #[.pointer g,.bool cx] w (Il w0 g (ea+10000) w λv w'=>OT w w' v):=by
 have bu:=h.lt;have iq:w0.heap.size<=w.heap.size:=h.2.1.size;go_in;go_wp2_with fail;have o1:=Co w 52 9;have X:=h.alloc (.cells #[] 52);have g1:w.grownBy (w.alloc (.cells #[] 52)) (some g):=AW (AJ _ _) _;generalize w.alloc (.cells #[] 52)=wa at o1 X g1;refine(X.pick _).mono ?_;rintro e w2 ⟨n,rfl,n0,n1,V,g2⟩;replace n1:=n1 ψ;obtain⟨n,rfl⟩:=yd n0;go_upto_if 17 with fail;refine(V.pick _).mono ?_;rintro e w3 ⟨x,rfl,x0,x1,h3,g3⟩;go_upto_if 17 with fail;go_cut [6] (λs6 wx=>∃n:Nat,s6=.int .i64 n/\n<=82/\Dr w0 g (ea+3) wx/\wa.grownBy wx (some g))
 case first=>
  by_cases hx:x=0
  .subst hx
   go_wp2_with fail;refine(h3.pick _).mono ?_;rintro e w4 ⟨y,rfl,y0,y1,h4,g4⟩;replace y1:=y1 ψ;obtain⟨y,rfl⟩:=yd y0;go_wp2_with fail;go_meet;exact⟨79+y,ξ,ω,h4,AO (AO g2 g3) g4⟩
  have t0:(x==0)=false:=by simp[hx]
  clear hx;go_wp2_with fail;go_meet;exact⟨n,rfl,ω,h3.mono ω,AO g2 g3⟩
 case rest=>
 obtain⟨n,rfl,hn,h4,g4⟩:=hcut;clear V h3 g2 g3;go_wp2_with fail;refine(h4.pick _).mono ?_;rintro e w5 ⟨lv,rfl,z0,z1,h5,g5⟩;replace z1:=z1 ψ;have g6:=AO g4 g5;clear h4 g4 g5;go_wp2_with fail;have hh:=ZT w5 ⟨#[97]⟩ ⟨#[98]⟩ ⟨#[99]⟩ 9 79;have bn:=((IE w5 (.cells #[.string ⟨#[97]⟩] 9) (.cells #[.string ⟨#[98]⟩] 9)).trans ((AJ _ (.cells #[.string ⟨#[99]⟩] 9)).mono (IE w5 _ _).size));replace bn:=bn.trans ((AJ _ (.cells #[.slice w5 1 1,.slice (some ⟨w5.heap.size+1,0,none⟩) 1 1,.slice (some ⟨w5.heap.size+1+1,0,none⟩) 1 1] 79)).mono bn.size);refine(KJ _ M6 _ hh rfl OF Ng).mono ?_;rintro e w6 ⟨_,_,_,_,rfl,O6,b6⟩;rw[Qa] at O6;obtain⟨⟨ma,mn,mc,rfl⟩,⟨ia,iN,ic,rfl⟩,⟨N,en,E,rfl⟩,⟨ca,cn,cc,rfl⟩⟩:=O6.Dq;have hG:=AO g1 (AO g6 (AW (bn.trans (b6.mono bn.size)) (some g)));have bK:=AJ w6 (.cells #[.slice ma mn mc,.slice ia iN ic,.slice N en E,.slice ca cn cc] 28);have fv:=bn.trans ((b6.trans (bK.mono b6.size)).mono bn.size);have D:Tr w0 g (ea+4) w w6 (.slice w 0 0) [] (w6.alloc (.cells #[.slice ma mn mc,.slice ia iN ic,.slice N en E,.slice ca cn cc] 28)):=⟨h5.below fv,AO hG (AW bK _),bu,iq,A8 (Au o1 g6 (.inr (by simp[Value.ownBlock];omega))) fv,hG.size,⟨_,_,_,_,_,yx _ _,((O6.2.1.lower (yM (yM g1.size g6.size) bn.size)).below bK),Nat.le_of_ble_eq_true φ⟩,λs H=>by cases H⟩;clear hh bn O6 b6 fv bK g6 h5 o1 g1 X hG;go_wp2_with fail;generalize w6.alloc _=wb at D;generalize w6.heap.size=bk at D;generalize(Value.slice w 0 0)=o at D;go_loopw [5,10] (λo i wr=>∃k:Nat,∃ss:List Ax,k<=n/\ss.length=k/\i=.int .i64 k/\Tr w0 g (ea+4+50*k) w bk o ss wr) (λ_ i _=>n - (intOf i).toNat)
 exact⟨0,[],yt _,rfl,rfl,D⟩
 clear D;obtain⟨k,ss,J,ex,rfl,D⟩:=hrel
 by_cases bu:k<n
 .go_wp2_with fail
  refine(D.pk 2).mono ?_;rintro e w7 ⟨a,rfl,a0,a1,S,g7⟩;replace D:=S;clear S g7;go_wp2_with fail;refine(D.pk 4).mono ?_;rintro e w8 ⟨p,rfl,p0,p1,S,g7⟩;replace D:=S;clear S g7;go_wp2_with fail;refine(D.pk 16).mono ?_;rintro e w9 ⟨q,rfl,q0,q1,S,g7⟩;replace D:=S;clear S g7;go_wp2_with fail;refine(D.pk 100).mono ?_;rintro e ei ⟨x,rfl,x0,x1,S,g7⟩;replace D:=S;clear S g7;go_upto_region 11 with fail;generalize wrap64 (wrap64 (16*lv*p)+q)=sv;have SA:Rj w ei.heap.size u5 ⟨1+a,sv,x,0,0,0,0,0,⟨#[]⟩⟩ (ei.alloc (.cells (Ax.cells ⟨1+a,sv,x,0,0,0,0,0,⟨#[]⟩⟩) 52)):=⟨yx _ _,D.gr.size,λe=>by have:=yC D.own _ e;omega⟩;replace D:=D.below (AJ ei (.cells (Ax.cells ⟨1+a,sv,x,0,0,0,0,0,⟨#[]⟩⟩) 52));have cl:=AA (show KM ⟨1+a,sv,x,0,0,0,0,0,⟨#[]⟩⟩ from⟨by show(0:Nat)<=8;decide,by show(0:Int)<=1000000;decide⟩);simp only[Ax.cells] at SA D;generalize ei.alloc _=im at*;generalize ei.heap.size=b at*;generalize(Ax.mk (1+a) sv x 0 0 0 0 0 ⟨#[]⟩)=s at*;replace SA:=AA SA;have ez:ss.length<=81:=ω;have hT:=AA ex;clear ex;cases cx
  .go_upto_region 13 with fail
   obtain⟨d0,d1,d2,d3,d4,d5,d6,d7,d8⟩:=OL SA.1;go_wp2_with (at_builtin;go_must (refine Bn (lo:=w.heap.size) (n:=ss.length) (xs:=FD ss) (m:=1) (news:=s.cells.toList) rfl rfl 52 _ 9 _ underlying43 Tryz.infoStep rfl ψ rfl (A8 D.own (AJ _ _)) rfl (Rd.zM _ s.cells _ 9 1 _ χ rfl ζ) (by simp[Ax.cells,xR]) μ ω (by have:=D.gr.size;simp;omega) ?_;intro o' w9 k1 k2 k3 k4));go_roundw;exact⟨k+1,ss++[s],ω,by simp[hT.u],ξ,((D.below (AJ _ _)).push k1 k2 cl.u).mono ω⟩;simp[intOf];omega
  go_wp2_with fail
  have Sg:=AA D.glt;refine(D.pk 4).mono ?_;rintro e gb ⟨y,rfl,y0,y1,S,g7⟩;replace D:=S;replace SA:=AA (SA.draw g7 Sg.u);clear S g7;go_upto_if 55 with fail;go_cut [] (λW=>∃s,KM s/\Rj w b u5 s W/\Tr w0 g (ea+4+50*k+40) w bk u5 ss W)
  case first=>
   by_cases hy:y=0
   .subst hy
    obtain⟨qm,q2,qe,qc,xs,qv,OI,hl⟩:=D.ker;obtain⟨c0,c1,c2,c3⟩:=AG qv;have Hi:=AA (λw' (hg:gb.grownBy w' (some g))=>AQ.rd (BU OI hg (λk J=>by cases J;exact D.glt)));clear qv OI;go_wp2_with fail;refine(Li qm q2 qe qc xs D.dr ω (Hi.u) hl).mono ?_;rintro e il ⟨v,rfl,⟨y,rfl,hy⟩,h7,g7⟩;replace D:=D.draw h7 g7;replace SA:=AA (SA.draw g7 Sg.u);clear h7 g7 c0 c1 c2 c3 Hi hl;obtain⟨y0,y1,y2,y3,y4,y5⟩:=y;dsimp only[AT.cs];obtain⟨d0,d1,d2,d3,d4,d5,d6,d7,d8⟩:=OL SA.1;have hf:=AI SA.1;have G9:=FQ (w:=il) (g:=b) (b0:=.int .i64 3) (b1:=.int .i64 0) (b2:=.int .i64 0) (b3:=.int .i64 y0) (b4:=.int .i64 y1) (b5:=.int .i64 y2) (b6:=.int .i64 y3) (b7:=.int .i64 y4) (b8:=.string y5);have HR:=AA (show KM ⟨3,0,0,y0,y1,y2,y3,y4,y5⟩ from⟨hy.1.1,hy.1.2.2.2⟩);have S9:=AA (D.put SA.1 SA.2.1 SA.2.2 G9);have B9:=AA (Hj (b0:=.int .i64 3) (b1:=.int .i64 0) (b2:=.int .i64 0) (b3:=.int .i64 y0) (b4:=.int .i64 y1) (b5:=.int .i64 y2) (b6:=.int .i64 y3) (b7:=.int .i64 y4) (b8:=.string y5) SA.1);unfold DO at S9 B9;clear D G9 hy;go_wp2_with fail;go_meet;exact⟨⟨3,0,0,y0,y1,y2,y3,y4,y5⟩,HR.u,⟨B9.u,SA.2⟩,S9.mono ω⟩
   have t0:(y==0)=false:=by simp[hy]
   clear hy;go_wp2_with fail;go_meet;exact⟨s,cl.u,SA.u,D.mono ω⟩
  case rest=>
   clear SA D cl;obtain⟨s,az,SA,D⟩:=hcut;replace SA:=AA SA;have cl:=AA az;clear az;obtain⟨d0,d1,d2,d3,d4,d5,d6,d7,d8⟩:=OL SA.1;go_wp2_with (at_builtin;go_must (refine Bn (lo:=w.heap.size) (n:=ss.length) (xs:=FD ss) (m:=1) (news:=s.cells.toList) rfl rfl 52 _ 9 _ underlying43 Tryz.infoStep rfl ψ rfl (A8 D.own (AJ _ _)) rfl (Rd.zM _ s.cells _ 9 1 _ χ rfl ζ) (by simp[Ax.cells,xR]) μ ω (by have:=D.gr.size;simp;omega) ?_;intro o' w9 k1 k2 k3 k4));go_roundw;exact⟨k+1,ss++[s],ω,by simp[hT.u],ξ,((D.below (AJ _ _)).push k1 k2 cl.u).mono ω⟩;simp[intOf];omega
 by_cases hz:0<n
 .go_wp2_with fail
  refine(D.pk 20).mono ?_;rintro e w7 ⟨a,rfl,a0,a1,S,g7⟩;replace D:=S;clear S g7
  by_cases ha:a=0
  .subst ha
   go_wp2_with fail;refine(D.pk _ ω ω ω).mono ?_;rintro e w8 ⟨p,rfl,p0,p1,S,g7⟩;replace D:=S;clear S g7;go_wp2_with fail;refine(D.pk 5).mono ?_;rintro e ei ⟨q,rfl,q0,q1,S,g7⟩;replace D:=S;clear S g7;go_wp2_with fail;refine(Sc D.dr ω).mono ?_;rintro e im ⟨v,rfl,⟨sv,rfl⟩,h7,g7⟩;replace D:=D.draw h7 g7;clear h7 g7;go_wp2_with fail;refine(D.pk 2).mono ?_;rintro e gb ⟨x,rfl,x0,x1,S,g7⟩;replace D:=S;clear S g7;obtain⟨qb,cq,rfl,hq,iU⟩:=JM D.own ω;obtain⟨p,rfl⟩:=yd p0;have hp:p<ss.length:=ω;have ez:ss.length<=82:=ω;clear ex;have ow:=D.own;obtain⟨a',c',hv,iK,br,H0⟩:=GE.open (Io.rd ow);simp only[Value.slice.injEq,true_and] at hv;obtain⟨rfl,rfl⟩:=hv;obtain⟨sx,H⟩:∃x,ss[p]?=some x:=⟨_,yG hp⟩
   obtain⟨b,am,hH,D0,D1,D2,D3,D4,D5,D6,D7,D8⟩:=H0.nine (yN _ _) H;obtain⟨rfl,rfl⟩:qb=b/\0=am:=by simpa using hH
   simp only[Nat.zero_add] at D0 D1 D2 D3 D4 D5 D6 D7 D8;have F:=World.ownsRow.frozenAt ow;have S:=AA (Eb ow (p*9) 0 (dn ⟨q,sv,10000*x,0,0,0,0,0,⟨#[]⟩⟩));have Hm:=AA D.sm;clear H hH ow H0 iK;unfold maxLen at br;go_wp2;go_ret;refine⟨_,rfl,⟨ss.set p ⟨q,sv,10000*x,0,0,0,0,0,⟨#[]⟩⟩,?_,by simpa using ez,λs H=>?_⟩,(D.dr.keep S.2 η (λk J=>by cases J;have:=D.lo;omega)).mono ω,Vc D.gr S.2 hq⟩
   .have S1:=S.1
    have e1:=SL (cs:=dn) (sz:=9) (λ_=>rfl) hp ⟨q,sv,10000*x,0,0,0,0,0,⟨#[]⟩⟩;unfold Io;rw[List.length_set];exact(show FY (FD ss) (p*9) 0 _=FD (ss.set p _) from e1)▸S1
   rcases List.mem_or_eq_of_mem_set H with H|rfl
   .exact Hm s H
   exact⟨by show(0:Nat)<=8;decide,by show(0:Int)<=1000000;decide⟩
  have t0:(a==0)=false:=by simp[ha]
  clear ha;go_wp2;go_ret;exact⟨_,rfl,⟨ss,D.own,ω,D.sm⟩,D.dr.mono ω,D.gr⟩
 go_wp2
 go_ret;exact⟨_,rfl,⟨ss,D.own,ω,D.sm⟩,D.dr.mono ω,D.gr⟩
theorem KM.le (h:KM s):s.nm.size<=maxLen/\s.cc<=9223372036854775807:=⟨by have:=h.1;unfold maxLen;omega,by have:=h.2;omega⟩
def fX(w:Ω)(t:AP×List Int)(r:Ending)(w':Ω):Prop:=∃m i e c s l q o,r=.returned (.tuple #[AN m i e c s l q t.1.FU t.1.VO,o])/\JA w' m i e c s l q t.1/\AE w w' o t.2/\Γ w w w'
theorem fO (O R Z Y A z K v:Φ)(P:AP)(ss:List Ax)(w:Ω)(h:JA w O R Z Y A z K P)(H:Gs P.V0)(hv:GE w v ss)(az:∀s∈ss,KM s):
 Ξ prog 13 #[AN O R Z Y A z K P.FU P.VO,v] w (fX w (Qg P ss)):=by
 unfold Qg;cases L:(BN P&&DU ss)
 .exact(VN _ _ _ _ _ _ _ v P ss w h H hv L).mono λ_ w' ⟨X,V⟩=>⟨_,_,_,_,_,_,_,_,X,LN w',World.ownsRow_nil _ _ _ _,V⟩
 obtain⟨X,V⟩:=wu.1 L
 exact(Tt _ _ _ _ _ _ _ v P ss w h (Ct.1 X) hv V (λs H _=>(az s H).le)).mono λ_ _ ⟨m,i,e,c,s,l,q,o,X,V,h3,h4⟩=>⟨m,i,e,c,s,l,q,o,X,V.rd,h3,h4⟩
theorem gf (O R Z Y A z K v:Φ)(P:AP)(ss:List Ax)(w:Ω)(h:JA w O R Z Y A z K P)(H:Gs P.V0)(hv:GE w v ss)(az:∀s∈ss,KM s):
 Ξ prog 14 #[AN O R Z Y A z K P.FU P.VO,v] w (gv w (Qg P ss)):=by
 unfold Qg;cases L:(BN P&&DU ss)
 .exact UL _ _ _ _ _ _ _ v P ss w h H hv L
 obtain⟨X,V⟩:=wu.1 L
 exact(TU _ _ _ _ _ _ _ v P ss w h (Ct.1 X) hv V (λs H=>(az s H).le)).mono λ_ _ ⟨m,i,e,c,s,l,q,o,X,V,h3,h4⟩=>⟨m,i,e,c,s,l,q,o,X,V.rd,AE.rd h3,h4⟩
theorem Uw (X:BN P=true)(V:DU ss=true):Qg P ss=Ea P ss:=by simp[Qg,X,V]
def gQ(W:Ω)(g:Nat)(P:AP):Prop:=∃m i e c s l q,W.heap[g]?=some (.cells #[m,i,e,c,s,l,q,P.FU,P.VO] 32 (0,0))/\JA W m i e c s l q P
theorem gQ.below (h:gQ W g P)(L:Γ W W W'):gQ W' g P:=by obtain⟨m,i,e,c,s,l,q,X,V⟩:=h;exact⟨m,i,e,c,s,l,q,AB X L,V.below L⟩
structure Lw(w w1:Ω)(gq gw:Nat)(cs:Array Φ)(T:AP×List Int)(o o':Φ)(W:Ω):Prop where
 p:W.heap[w1.heap.size]?=some (.cells cs 32 (0,0))
 q:gQ W gq T.1
 r:gQ W gw T.1
 o:AE (w1.heap.size+1) W o T.2
 o':A1 W o' T.2
 b:Γ w w W
 k:Γ w1 w1 W
theorem Lw.below{gq gw:Nat}{cs:Array Φ}{T:AP×List Int}{o o':Φ}(h:Lw w w1 gq gw cs T o o' W)(L:Γ W W W'):Lw w w1 gq gw cs T o o' W':=
 ⟨AB h.p L,h.q.below L,h.r.below L,h.o.below L,h.o'.below L,h.b.trans (L.mono h.b.size),h.k.trans (L.mono h.k.size)⟩
def fP(w:Ω)(r:Ending)(w':Ω):Prop:=∃m i e c s l q P v ss,r=.returned (.tuple #[AN m i e c s l q P.FU P.VO,v])/\JA w' m i e c s l q P/\Qu P/\GE w' v ss/\ss.length<=82/\(∀s∈ss,KM s)/\Γ w w w'
theorem OQ (v:Φ)(bs:List Int)(w:Ω)(h:Fn w v bs):
 Ξ prog 12 #[v] w (fP w):=by
 obtain⟨B0,bA⟩:=EU w (.cells #[ι,ι,ι,ι,ι,ι,ι,θ,θ] 32);have hA:Fn (w.alloc _) v bs:=⟨h.1.below bA,h.2⟩;have ip:=AU B0;go_in;go_wp2_with fail;generalize w.alloc _=wa at*;refine(Sb _ bs _ hA).mono ?_;rintro e w1 ⟨iv,rfl,hR,ej⟩;obtain⟨g,rfl,hD⟩:=Dr.of hR ej;have iy:wa.heap.size<=g:=hD.2.2.1;have hC:=hD.lt;go_wp2_with fail;refine(Se hD ψ).mono ?_;rintro e w2 ⟨v2,rfl,⟨m,i,e2,v,s,l,q,P,rfl,S2,hP⟩,V,g2⟩;obtain⟨⟨⟨ma,mn,mc,rfl⟩,⟨ia,iN,ic,rfl⟩,⟨N,en,E,rfl⟩,⟨va,vn,vc,rfl⟩⟩,⟨sa,sn,sc,rfl⟩,⟨la,ln,lc,rfl⟩,⟨qa,qn,qc,rfl⟩⟩:=S2.Dq;unfold AN;have Z2:=(g2.block w (yu ip ej.size) η).trans (AB B0 ej);have f8:=AM (bA.trans (ej.mono bA.size)) g2 (yM bA.size iy) (yM bA.size ej.size);obtain⟨NK,bK⟩:=EU w2 (.cells #[.slice ma mn mc,.slice ia iN ic,.slice N en E,.slice va vn vc,.slice sa sn sc,.slice la ln lc,.slice qa qn qc,P.FU,P.VO] 32);have h3:=V.below bK;have S3:=S2.map (Ka bK (yF _));have Z3:=AB Z2 bK;have ik:=f8.trans (bK.mono f8.size);have iw:g<w2.heap.size:=yu hC g2.size;clear S2 V Z2 f8 bK hR hD hA B0 h bA g2 ej;go_wp2_with fail;generalize w2.alloc _=w3 at*;generalize w2.heap.size=b at*;have h4:=h3;have S4:=S3;have Z4:=Z3;have f7:=ik;have N4:=NK;generalize w3=w4 at*;clear h3 S3 Z3 ik NK;have it:=AU Z4;obtain⟨c0,c1,c2,c3,c4,c5,c6,c7,c8⟩:=AC N4;have iL:=AU N4;go_wp2_with fail;refine Fv 6 16 10000 2 [3,5] [.a #[.slice ma mn mc,.slice ia iN ic,.slice N en E,.slice va vn vc,.slice sa sn sc,.slice la ln lc,.slice qa qn qc,.int .i64 P.FU,.int .i64 P.VO],.p g 0,.p g 0,.z,.z,.z] (λix vv ww=>match ix with
  |3=>Pk 2 vv
  |4=>∃x:Bool,vv=.bool x
  |5=>OT w4 ww vv
  |_=>True) h4 ?_ ?_ (hst:=?_)
 .intro i hi o ho a wx Hb Hd ll HL hG hW qv HQ HK
  obtain⟨he,g8,gp,gm,gl,gk,gi,ge,gd⟩:=AC ((hW.block b iL η).trans N4)
  match i,hi with
  |0,_=>exact sL ho HK Hb Hd (hl:=Vr ‹_› ‹_› ‹_› ‹_› ‹_› ‹_› ‹_› ‹_› ‹_›)
  |1,_|2,_=>exact sP ho HK Hb Hd
  |3,_=>exact dK (m:=2) ho HQ Hb Hd HL hG ω
  |4,_=>clear he g8 gp gm gl gk gi ge gd;obtain rfl:=yP ho;have d3:Pk 2 (a.tmps[13]?.getD undef):=Bc Hd 3;obtain⟨x3,d3,p0,p1⟩:=d3;clear Hd Hb;refine yO ?_;go_simp;exact HK _ _ ⟨_,rfl⟩ (yN _ _)
  |5,_=>
   clear he g8 gp gm gl gk gi ge gd;obtain rfl:=yP ho;have d1:(a.tmps[11]?.getD undef)=.pointer g:=Bc Hd 1;have d4:∃x:Bool,(a.tmps[14]?.getD undef)=.bool x:=Bc Hd 4
   obtain⟨x4,d4⟩:=d4;clear Hd Hb;refine yO ?_;go_simp;obtain⟨M,hM,hD,hI⟩:=hG;have hl:=X9 [3,5] ll 5 (by rfl) HL.u;have:=Nat.mul_le_mul_left 10000 hl;rw[Nat.mul_add,Nat.mul_one] at this;refine(dp (Vq x4 hD ω) hI.size).mono ?_;rintro e w_ ⟨v',rfl,X,V,h3⟩;exact HQ _ _ X ⟨M+10000,ω,V.mono ω,AO hI h3⟩ h3
 rotate_left
 .intro i hi vv wz fl cd hz
  match i,hi with
  |3,_|4,_=>exact hz
  |5,_=>exact OT.past hz ω cd
  |0,_|1,_|2,_=>exact hz
 intro vs wx hR hD hW
 have q0:(vs 0)=.agg #[.slice ma mn mc,.slice ia iN ic,.slice N en E,.slice va vn vc,.slice sa sn sc,.slice la ln lc,.slice qa qn qc,P.FU,P.VO]:=Bh hR 0;have q5:OT w4 wx (vs 5):=Bh hR 5;clear hR;simp only[Ai,Ae,yL,yI,yJ,yH,q0];simp;generalize vs 5=z5 at q5 ⊢;clear q0;have Z5:=(hW.block _ it η).trans Z4;have S5:=S4.map (Ge hW hC (yF _));have g9:=FQ (w:=wx) (g:=w.heap.size) (b0:=.slice ma mn mc) (b1:=.slice ia iN ic) (b2:=.slice N en E) (b3:=.slice va vn vc) (b4:=.slice sa sn sc) (b5:=.slice la ln lc) (b6:=.slice qa qn qc) (b7:=.int .i64 P.FU) (b8:=.int .i64 P.VO);have S6:=AA (S5.map (Ls g9 Z5 (.inr rfl) (yF _)));have f6:=AM f7 hW ω f7.size;have ij:=AA (AM f6 g9 ω f6.size);have Z6:=AA (Hj (b0:=.slice ma mn mc) (b1:=.slice ia iN ic) (b2:=.slice N en E) (b3:=.slice va vn vc) (b4:=.slice sa sn sc) (b5:=.slice la ln lc) (b6:=.slice qa qn qc) (b7:=.int .i64 P.FU) (b8:=.int .i64 P.VO) Z5);unfold DO at S6 ij Z6 g9;obtain⟨d0,d1,d2,d3,d4,d5,d6,d7,d8⟩:=AC Z5;have fz:=AI Z5;obtain⟨ss,hO,ex,ax⟩:=q5;have RO:=AA (Io.rd (BU hO g9 (λb e=>by cases e;omega)));obtain⟨oa,oc,rfl,_⟩:=(Io.rd hO).open;clear S4 S5 f7 f6 Z4 Z5 g9 hD hW N4 c0 c1 c2 c3 c4 c5 c6 c7 c8;go_wp2_with fail;exact yB (v:=.tuple #[.agg #[_,_,_,_,_,_,_,_,_],.slice oa ss.length oc]) (by simp[results,Tryz.results12,go_sem,AC Z6.u]) rfl ⟨_,_,_,_,_,_,_,P,_,ss,rfl,S6.rd,hP,RO.u,ex,ax,ij.u⟩
end Go.Proofs.YtlcnbkkcplllhaaGreatDoor
