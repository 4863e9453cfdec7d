/-
  Packed:13 texts.
-/
import Derived.Test.YtpdjjjdkhedibaaGreatDoorY4
import Derived.Test.YtpdjjjdkhedibaaGreatDoorY1
import Derived.Deep.DeepCutAuto
import Derived.Lib.Strings
import Derived.WalkKit
set_option linter.unusedVariables false
set_option linter.unusedSimpArgs false
set_option maxHeartbeats 16000000
set_option maxRecDepth 100000
open Go Go.Proofs.YtpdjjjdkhedibaaGreatDoor
open And renaming intro->xZ
open Bool renaming and_eq_true->yp,eq_iff_iff->wA,or_eq_true->xl
open Go.RowKit.Below renaming refl->yD
open Go.Value renaming int->yf,slice->xF
open Go.World renaming block_lt_of_cell?->yA,ownsRow_nil->xm
open Go.World.ownsRow renaming lt->yq
open Go renaming cell_of_row->yi,cell_regrown->xY,heap_alloc_new->yv,heap_setCell_same->ym
open Int renaming toNat_natCast->yb
open List renaming contains_iff_mem->uS,countP_cons->xC,filter_append->wE,filter_cons->vL,filter_nil->uV,foldl_append->uz,foldl_cons->yy,foldl_nil->yw,length_set->xS,mem_append->wC,mem_filter->wY,mem_range->xU,mem_singleton->xx,range->yC,range_succ->wZ,replicate->xV
open List.range renaming loop->yz
open Nat renaming eq_zero_or_pos->vQ,le_trans->yB,zero_le->yh
variable {a j t:Nat} {b:List Bk} {p:AR} {kind:Int} {v:Value} {W:World} {ss:List ByteArray}
namespace Go.Proofs.YtpdjjjdkhedibaaGreatDoor
open Go.Proofs.Tryz
def yL(zR:Int)(i:Nat):Nat:=((i:Int) - zR).toNat+(if(i:Int)<zR then((i:Int)+16 - zR).toNat else 0)
theorem UQ{zR:Int}(h0:0<=zR):yL zR zR.toNat=0:=by
 unfold yL
 split<;>omega
theorem PX{zR:Int}(h0:0<=zR)(h1:zR<=15){i:Nat}(hi:i<16):yL zR i<16:=by
 unfold yL
 split<;>omega
theorem Ml{zR:Int}(h0:0<=zR)(h1:zR<=15){i:Nat}(hi:i<16)(au:zR.toNat≠i):yL (Ea zR) i+1=yL zR i:=by
 have e:Ea zR=if zR=15 then 0 else zR+1:=by
  unfold Ea
  split<;>omega
 rw[e];unfold yL
 split
 .subst_vars
  split<;>split<;>omega
 .split<;>split<;>omega
theorem PW{zR:Int}(h0:0<=zR)(h1:zR<=15):yL (Ea zR) zR.toNat=15:=by
 have e:Ea zR=if zR=15 then 0 else zR+1:=by
  unfold Ea
  split<;>omega
 rw[e];unfold yL
 split
 .subst_vars
  split<;>omega
 .split<;>omega
theorem Lr{zR:Int}(h0:0<=zR)(h1:zR<=15):0<=Ea zR/\Ea zR<=15:=by unfold Ea;omega
theorem Jd{zY:List Bk}{i:Nat}:(AB (zY.set j (NI (AB zY j))) i).w=(AB zY i).w/\(AB (zY.set j (NI (AB zY j))) i).a=(AB zY i).a/\
 ((AB (zY.set j (NI (AB zY j))) i).u=true->(AB zY i).u=true)/\(i≠j->AB (zY.set j (NI (AB zY j))) i=AB zY i):=by
 rw[Dh]
 by_cases e:i=j/\j<zY.length
 .rw[if_pos e]
  obtain⟨rfl,_⟩:=e;exact⟨rfl,rfl,(λh=>by cases h),λh=>absurd rfl h⟩
 .rw[if_neg e]
  exact⟨rfl,rfl,λh=>h,λ_=>rfl⟩
structure C8(a b:List Bk):Prop where
 len:b.length=a.length
 w:∀i,(AB b i).w=(AB a i).w
 at':∀i,(AB b i).a=(AB a i).a
 u:∀i,(AB b i).u=true->(AB a i).u=true
theorem C8.refl(a:List Bk):C8 a a:=⟨rfl,λ_=>rfl,λ_=>rfl,λ_ h=>h⟩
theorem C8.step{a:List Bk}(h:C8 (a.set j (NI (AB a j))) b):C8 a b:=
 ⟨by rw[h.len,xS],λi=>(h.w i).trans Jd.1,λi=>(h.at' i).trans Jd.2.1,λi hi=>Jd.2.2.1 (h.u i hi)⟩
theorem IU:∀(n:Nat)(zY:List Bk)(zR:Int),C8 zY (CQ n zY zR).1
 |0,zY,zR=>C8.refl _
 |n+1,zY,zR=>by
  unfold CQ
  split
  .exact C8.refl _
  .exact(IU n _ _).step
theorem Js:∀(n:Nat)(zY:List Bk)(zR:Int),0<=zR->zR<=15->0<=(CQ n zY zR).2.1/\(CQ n zY zR).2.1<=15
 |0,zY,zR,h0,h1=>⟨h0,h1⟩
 |n+1,zY,zR,h0,h1=>by
  have:=Lr h0 h1;unfold CQ
  split
  .exact this
  .exact Js n _ _ this.1 this.2
theorem Ik:∀(n:Nat)(zY:List Bk)(zR:Int),0<=zR->zR<=15->zY.length=16->∀i,i<16->(AB zY i).w=1->
 ((AB zY i).u=false/\yL zR i+1<=n)∨yL zR i+17<=n->∃m,(CQ n zY zR).2.2=some m
 |0,zY,zR,h0,h1,hl,i,hi,hw,h=>by omega
 |n+1,zY,zR,h0,h1,hl,i,hi,hw,h=>by
  unfold CQ
  split
  .exact⟨_,rfl⟩
  .next ac=>
   have hn:=Lr h0 h1;have hu:=Jd (zY:=zY) (j:=zR.toNat) (i:=i);refine Ik n _ _ hn.1 hn.2 (by rw[xS];exact hl) i hi (hu.1.trans hw) ?_
   by_cases e:zR.toNat=i
   .subst e
    rw[PW h0 h1];left
    rcases h with⟨h,_⟩|h
    .exact absurd ⟨hw,h⟩ ac
    .refine⟨?_,by omega⟩
     rw[Dh,if_pos ⟨rfl,by omega⟩];rfl
   .have hf:=Ml h0 h1 hi e
    rw[hu.2.2.2 (λh=>e h.symm)]
    rcases h with⟨h,h'⟩|h
    .exact .inl ⟨h,by omega⟩
    .exact .inr (by omega)
theorem Gw:∀(n:Nat)(zY:List Bk)(zR:Int),0<=zR->zR<=15->∀m,(CQ n zY zR).2.2=some m->m<16/\(AB zY m).w=1
 |0,zY,zR,h0,h1,m,h=>by cases h
 |n+1,zY,zR,h0,h1,m,h=>by
  unfold CQ at h
  split at h
  .next hy=>
   cases h;exact⟨by omega,hy.1⟩
  .have hn:=Lr h0 h1
   have:=Gw n _ _ hn.1 hn.2 m h;exact⟨this.1,Jd.1.symm.trans this.2⟩
theorem NL:∀(n:Nat)(zY:List Bk)(zR:Int),0<=zR->zR<=15->∀i,i<16->(AB zY i).w=1->(AB zY i).u=false->∀m,(CQ n zY zR).2.2=some m->
 yL zR m<=yL zR i/\(AB zY m).u=false
 |0,zY,zR,h0,h1,i,hi,hw,hu,m,h=>by cases h
 |n+1,zY,zR,h0,h1,i,hi,hw,hu,m,h=>by
  unfold CQ at h
  split at h
  .next hy=>
   cases h;rw[UQ h0];exact⟨yh _,hy.2⟩
  .next ac=>
   have hn:=Lr h0 h1;have e:zR.toNat≠i:=λe=>ac (by rw[e];exact⟨hw,hu⟩)
   have fM:=Jd (zY:=zY) (j:=zR.toNat) (i:=i);have fe:=fM.2.2.2 (λh=>e h.symm);have:=NL n _ _ hn.1 hn.2 i hi (by rw[fe];exact hw) (by rw[fe];exact hu) m h;have hm:=Gw n _ _ hn.1 hn.2 m h;have hf:=Ml h0 h1 hi e;have dH:=PX h0 h1 hi;have em:zR.toNat≠m:=λe'=>by subst e';rw[PW h0 h1] at this;omega
   have gK:=Ml h0 h1 hm.1 em;refine⟨by omega,?_⟩;rw[<-Jd.2.2.2 (λh=>em h.symm)];exact this.2
theorem JJ{zY:List Bk}{w:Int}:0<Ac zY w↔∃i,i<zY.length/\(AB zY i).w=w:=by
 unfold Ac;rw[List.countP_pos_iff];constructor
 .rintro⟨x,hx,h⟩
  obtain⟨i,hi,rfl⟩:=If (d:=⟨0,0,false⟩) hx;exact⟨i,hi,of_decide_eq_true (p:=(AB zY i).w=w) h⟩
 .rintro⟨i,hi,h⟩
  refine⟨zY.getD i ⟨0,0,false⟩,DH hi,?_⟩;exact decide_eq_true (p:=(AB zY i).w=w) h
theorem IZ{q:Bk->Bool}:∀{a b:List Bk},b.length=a.length->(∀i,q (AB b i)=q (AB a i))->b.countP q=a.countP q
 | [],[],_,_=>rfl
 |x::a,y::b,hl,h=>by
  rw[xC,xC,IZ (by simpa using hl) (λi=>by simpa[AB] using h (i+1))];have:=h 0;simp only[AB,List.getD_cons_zero] at this;rw[this]
theorem C8.count{a:List Bk}(h:C8 a b)(w:Int):Ac b w=Ac a w:=IZ h.len λi=>by unfold Nn;rw[h.w i]
theorem C8.slots{a:List Bk}(h:C8 a b)(s:Nat):Bz b s=Bz a s:=IZ h.len λi=>by unfold Cu;rw[h.w i,h.at' i]
theorem C8.word(h:C8 p.zY b)(zR:Int)(a:Nat):Dy {p with zY:=b,zR:=zR} a=Dy p a:=by
 unfold Dy
 show(if(AB b (a/4)).w=1 then _ else if(AB b (a/4)).w=2 then _ else _)=_
 rw[h.w,h.at']
theorem C8.ok(h:C8 p.zY b)(hp:ED p){zR:Int}(h0:0<=zR)(h1:zR<=15):ED {p with zY:=b,zR:=zR}:=by
 refine⟨hp.k,hp.zD,hp.zv,hp.may,hp.alone,hp.root,hp.zt,hp.yM,hp.lows,h.len.trans hp.zO,λs hs=>(h.slots s).trans (hp.slots s hs),λn hn=>?_,⟨h0,h1⟩,hp.zU,?_⟩
 .have e:Br {p with zY:=b,zR:=zR} n=Br p n:=rfl
  unfold KM;rw[e]
  show((AB b n).w=0/\(AB b n).a=0/\(AB b n).u=false/\_)∨((AB b n).w=1/\_/\_=Hh (AB b n).a/\Kp _ (AB b n).a.toNat)∨((AB b n).w=2/\_/\AH p.swap (AB b n).a.toNat≠[]/\(AB b n).u=false/\_)
  rw[h.w,h.at'];have hu:=h.u n;have un:(AB p.zY n).u=false->(AB b n).u=false:=λx=>by
   cases hb:(AB b n).u
   .rfl
   .rw[hu hb] at x;cases x
  rcases hp.zY n hn with⟨x1,x2,x3,x4⟩|x|⟨x1,x2,x3,x4,x5⟩
  .exact .inl ⟨x1,x2,un x3,x4⟩
  .exact .inr (.inl x)
  .exact .inr (.inr ⟨x1,x2,x3,un x4,x5⟩)
 .show(Ac b 1:Int)<=p.zU
  rw[h.count];exact hp.count
theorem IL{zY:List Bk}{n m:Nat}:(AB (FF zY n) m).w=(AB zY m).w/\(AB (FF zY n) m).a=(AB zY m).a/\(m≠n->(AB (FF zY n) m)=AB zY m):=by
 unfold FF;rw[Dh]
 by_cases e:m=n/\n<zY.length
 .rw[if_pos e]
  obtain⟨rfl,_⟩:=e;exact⟨rfl,rfl,λh=>absurd rfl h⟩
 .rw[if_neg e]
  exact⟨rfl,rfl,λ_=>rfl⟩
theorem bE(h:ED p){n:Nat}(hn:n<16)(hw:(AB p.zY n).w=1):ED {p with zY:=FF p.zY n}:=by
 have cd:(FF p.zY n).length=p.zY.length:=by unfold FF;rw[xS]
 refine⟨h.k,h.zD,h.zv,h.may,h.alone,h.root,h.zt,h.yM,h.lows,cd.trans h.zO,λs hs=>?_,λm hm=>?_,h.zR,h.zU,?_⟩
 .have:Bz (FF p.zY n) s=Bz p.zY s:=IZ cd λi=>by unfold Cu;rw[IL.1,IL.2.1]
  rw[this];exact h.slots s hs
 .have e:Br {p with zY:=FF p.zY n} m=Br p m:=rfl
  unfold KM;rw[e]
  show((AB (FF p.zY n) m).w=0/\(AB (FF p.zY n) m).a=0/\(AB (FF p.zY n) m).u=false/\_)∨((AB (FF p.zY n) m).w=1/\_/\_=Hh (AB (FF p.zY n) m).a/\Kp _ (AB (FF p.zY n) m).a.toNat)∨((AB (FF p.zY n) m).w=2/\_/\AH p.swap (AB (FF p.zY n) m).a.toNat≠[]/\(AB (FF p.zY n) m).u=false/\_)
  rw[IL.1,IL.2.1]
  rcases h.zY m hm with⟨x1,x2,x3,x4⟩|x|⟨x1,x2,x3,x4,x5⟩
  .rw[IL.2.2 (λe=>by subst e;omega)]
   exact .inl ⟨x1,x2,x3,x4⟩
  .exact .inr (.inl x)
  .rw[IL.2.2 (λe=>by subst e;omega)]
   exact .inr (.inr ⟨x1,x2,x3,x4,x5⟩)
 .have:Ac (FF p.zY n) 1=Ac p.zY 1:=IZ cd λi=>by unfold Nn;rw[IL.1]
  show(Ac (FF p.zY n) 1:Int)<=p.zU
  rw[this];exact h.count
structure Zb(p q:AR)(n:Nat):Prop where
 ok:ED q
 w:(AB q.zY n).w=1
 u:(AB q.zY n).u=true
 words:∀a,a<64->Dy q a=Dy p a
 zU:q.zU=p.zU
 one:∃m,(m=n∨((AB p.zY m).w=1/\(AB q.zY m).w=2/\(Am p.zV.zZ<0∨(Ac p.zY 1:Int)=p.zU)))/\∀i,i<16->i≠n->i≠m->(AB q.zY i).w=(AB p.zY i).w/\(AB q.zY i).a=(AB p.zY i).a
 used:∀i,i<16->(AB p.zY i).w=1->(AB p.zY i).u=true->(AB q.zY i).w=2->∀j,j<16->(AB p.zY j).w=1->(AB p.zY j).u=true
theorem QY(h:ED p){n:Nat}(hn:n<16):(BV p n).2=false↔(Am p.zV.zZ<0/\Ac p.zY 1=0):=by
 by_cases hw:(AB p.zY n).w=1
 .unfold BV
  rw[if_pos hw];have:=JJ.2 ⟨n,by rw[h.zO];exact hn,hw⟩;constructor
  .intro x;cases x
  .intro x;omega
 .by_cases ac:Am p.zV.zZ<0/\Ac p.zY 1=0
  .unfold BV
   rw[if_neg hw,if_pos ac];exact⟨λ_=>ac,λ_=>rfl⟩
  .refine⟨λx=>?_,λx=>absurd x ac⟩
   exfalso;unfold BV at x;rw[if_neg hw,if_neg ac] at x
   by_cases hf:Ib p=true
   .rw[if_pos hf] at x
    have hc:0<Ac p.zY 1:=by
     rcases vQ (Ac p.zY 1) with h0|h0
     .exfalso
      unfold Ib at hf;simp only[xl,decide_eq_true_eq] at hf;have:=h.zU
      rcases hf with hf|hf
      .exact ac ⟨hf,h0⟩
      .omega
     .exact h0
    obtain⟨i,hi,eC⟩:=JJ.1 hc;rw[h.zO] at hi;obtain⟨m,hm⟩:=Ik 32 p.zY p.zR h.zR.1 h.zR.2 h.zO i hi eC (.inr (by have:=PX h.zR.1 h.zR.2 hi;omega));have hU:=IU 32 p.zY p.zR;have hH:=Js 32 p.zY p.zR h.zR.1 h.zR.2;have hI:=Gw 32 p.zY p.zR h.zR.1 h.zR.2 m hm
    revert x hU hH hI hm
    generalize CQ 32 p.zY p.zR=r;obtain⟨pg,hd,o⟩:=r;intro x hm hU hH hI;cases hm;have h':=hU.ok h hH.1 hH.2;have ho:=TY h' hI.1 ((hU.w m).trans hI.2);have dD:n≠m:=λe=>hw (by rw[e];exact hI.2)
    have dC:(AB (EL {p with zY:=pg,zR:=hd} m).zY n).w≠1:=by
     show(AB (pg.set m _) n).w≠1
     rw[Dh,if_neg (λh=>dD h.1),hU.w];exact hw
    have eF:(Ac (EL {p with zY:=pg,zR:=hd} m).zY 1:Int)+1<=(EL {p with zY:=pg,zR:=hd} m).zU:=by
     have h1:Ac (EL {p with zY:=pg,zR:=hd} m).zY 1+1=Ac pg 1:=ho.2.2.1;have h2:Ac pg 1=Ac p.zY 1:=hU.count 1;have h3:=h.count
     show _<=p.zU
     omega
    have:=(TE ho.1 hn dC ho.2.2.2 eF).2.1;have x':(Oh (EL {p with zY:=pg,zR:=hd} m) n).2=false:=x;rw[this] at x';cases x'
   .rw[if_neg hf] at x
    unfold Ib at hf;simp only[xl,decide_eq_true_eq,not_or] at hf;have:=h.count;have:=(TE h hn hw (by omega) (by omega)).2.1;rw[this] at x;cases x
theorem GG(h:ED p){n:Nat}(hn:n<16)(ac:(BV p n).2=false):(BV p n).1=p:=by
 have h1:=(QY h hn).1 ac
 by_cases hw:(AB p.zY n).w=1
 .unfold BV at ac
  rw[if_pos hw] at ac;cases ac
 .unfold BV
  rw[if_neg hw,if_pos h1]
theorem QX(h:ED p){n:Nat}(hw:(AB p.zY n).w=1):BV p n=({p with zY:=FF p.zY n},true):=by unfold BV;rw[if_pos hw]
theorem LZ(h:ED p){n:Nat}(hn:n<16)(hy:(BV p n).2=true):Zb p (BV p n).1 n:=by
 by_cases hw:(AB p.zY n).w=1
 .rw[QX h hw]
  refine⟨bE h hn hw,IL.1.trans hw,?_,λa _=>?_,rfl,⟨n,.inl rfl,λi _ _ _=>⟨IL.1,IL.2.1⟩⟩,λi _ hi _ fY=>?_⟩
  .show(AB (FF p.zY n) n).u=true
   unfold FF;rw[Dh,if_pos ⟨rfl,by rw[h.zO];exact hn⟩]
  .unfold Dy
   show(if(AB (FF p.zY n) (a/4)).w=1 then _ else if(AB (FF p.zY n) (a/4)).w=2 then _ else _)=_
   rw[IL.1,IL.2.1]
  .have:(AB (FF p.zY n) i).w=2:=fY
   rw[IL.1,hi] at this;cases this
 .have ac:¬(Am p.zV.zZ<0/\Ac p.zY 1=0):=λe=>by
   rw[(QY h hn).2 e] at hy;cases hy
  by_cases hf:Ib p=true
  .have fj:Am p.zV.zZ<0∨(Ac p.zY 1:Int)=p.zU:=by
    unfold Ib at hf;simpa using hf
   have hc:0<Ac p.zY 1:=by
    rcases vQ (Ac p.zY 1) with h0|h0
    .exfalso
     have:=h.zU
     rcases fj with hf|hf
     .exact ac ⟨hf,h0⟩
     .omega
    .exact h0
   obtain⟨i,hi,eC⟩:=JJ.1 hc;rw[h.zO] at hi;obtain⟨m,hm⟩:=Ik 32 p.zY p.zR h.zR.1 h.zR.2 h.zO i hi eC (.inr (by have:=PX h.zR.1 h.zR.2 hi;omega));have hU:=IU 32 p.zY p.zR;have hH:=Js 32 p.zY p.zR h.zR.1 h.zR.2;have hI:=Gw 32 p.zY p.zR h.zR.1 h.zR.2 m hm;have eI:=λi h1 h2 h3=>NL 32 p.zY p.zR h.zR.1 h.zR.2 i h1 h2 h3 m hm
   have e:BV p n=Oh (EL {p with zY:=(CQ 32 p.zY p.zR).1,zR:=(CQ 32 p.zY p.zR).2.1} m) n:=by
    unfold BV;rw[if_neg hw,if_neg ac,if_pos hf]
    revert hm
    generalize CQ 32 p.zY p.zR=r;obtain⟨pg,hd,o⟩:=r;intro hm;cases hm;rfl
   rw[e];clear e hy
   revert hU hH
   generalize(CQ 32 p.zY p.zR).1=pg;generalize(CQ 32 p.zY p.zR).2.1=hd;intro hU hH;have h':=hU.ok h hH.1 hH.2;have ho:=TY h' hI.1 ((hU.w m).trans hI.2);have dD:n≠m:=λe=>hw (by rw[e];exact hI.2)
   have fb:∀j,AB (EL {p with zY:=pg,zR:=hd} m).zY j=if j=m then⟨2,BY p.swap,false⟩ else AB pg j:=λj=>by
    show AB (pg.set m _) j=_
    rw[Dh]
    by_cases e:j=m
    .rw[if_pos ⟨e,by rw[hU.len,h.zO];exact hI.1⟩,if_pos e]
    .rw[if_neg (λh=>e h.1),if_neg e]
   have dC:(AB (EL {p with zY:=pg,zR:=hd} m).zY n).w≠1:=by rw[fb,if_neg dD,hU.w];exact hw
   have eF:(Ac (EL {p with zY:=pg,zR:=hd} m).zY 1:Int)+1<=(EL {p with zY:=pg,zR:=hd} m).zU:=by
    have h1:Ac (EL {p with zY:=pg,zR:=hd} m).zY 1+1=Ac pg 1:=ho.2.2.1;have h2:=hU.count 1;have h3:=h.count
    show _<=p.zU
    omega
   obtain⟨i1,i2,i3,i4,i5⟩:=TE ho.1 hn dC ho.2.2.2 eF;have br:∀j,AB (Oh (EL {p with zY:=pg,zR:=hd} m) n).1.zY j=if j=n then⟨1,Am (EL {p with zY:=pg,zR:=hd} m).zV.zZ,true⟩ else if j=m then⟨2,BY p.swap,false⟩ else AB pg j:=λj=>by
    rw[i5,Dh]
    by_cases e:j=n
    .rw[if_pos ⟨e,by rw[ho.1.zO];exact hn⟩,if_pos e]
    .rw[if_neg (λh=>e h.1),if_neg e,fb]
   refine⟨i1,?_,?_,λa ha=>?_,?_,⟨m,.inr ⟨hI.2,?_,fj⟩,λj hj h1 h2=>?_⟩,λj hj eB c7 az=>?_⟩
   .rw[br,if_pos rfl]
   .rw[br,if_pos rfl]
   .rw[i3 a ha,ho.2.1 a ha,hU.word]
   .rw[(Vm ho.1 hn dC ho.2.2.2).1];rfl
   .rw[br,if_neg (λe=>dD e.symm),if_pos rfl]
   .rw[br,if_neg h1,if_neg h2]
    exact⟨hU.w j,hU.at' j⟩
   .rw[br] at az
    by_cases e1:j=n
    .rw[if_pos e1] at az;cases az
    .rw[if_neg e1] at az
     by_cases e2:j=m
     .subst e2
      intro x hx fI;cases fJ:(AB p.zY x).u
      .rw[(eI x hx fI fJ).2] at c7
       cases c7
      .rfl
     .rw[if_neg e2,hU.w,eB] at az
      cases az
  .have e:BV p n=Oh p n:=by
    unfold BV;rw[if_neg hw,if_neg ac,if_neg hf]
   rw[e];unfold Ib at hf;simp only[xl,decide_eq_true_eq,not_or] at hf;have:=h.count;have al:(Ac p.zY 1:Int)+1<=p.zU:=by omega
   have fi:0<=Am p.zV.zZ:=by omega
   obtain⟨i1,i2,i3,i4,i5⟩:=TE h hn hw fi al;have br:∀j,AB (Oh p n).1.zY j=if j=n then⟨1,Am p.zV.zZ,true⟩ else AB p.zY j:=λj=>by
    rw[i5,Dh]
    by_cases e:j=n
    .rw[if_pos ⟨e,by rw[h.zO];exact hn⟩,if_pos e]
    .rw[if_neg (λh=>e h.1),if_neg e]
   refine⟨i1,?_,?_,i3,?_,⟨n,.inl rfl,λj hj h1 _=>?_⟩,λj hj eB c7 az=>?_⟩
   .rw[br,if_pos rfl]
   .rw[br,if_pos rfl]
   .rw[(Vm h hn hw fi).1]
   .rw[br,if_neg h1];exact⟨rfl,rfl⟩
   .rw[br] at az
    by_cases e1:j=n
    .rw[if_pos e1] at az;cases az
    .rw[if_neg e1,eB] at az
     cases az
theorem ED.walk(h:ED p){a:Nat}(ha:a<64)(hw:(AB p.zY (a/4)).w=1):Bu p.zV.mem (AZ p.zV 0).toNat a=(0,(AB p.zY (a/4)).a.toNat,true):=by
 obtain⟨l0,l1,l2,_⟩:=h.lows (a/16) (by omega);obtain⟨x1,x2,x3⟩:=Gp l0 l1
 rcases h.zY (a/4) (by omega) with⟨y,_⟩|⟨_,b,c,_⟩|⟨y,_⟩
 .omega
 .obtain⟨y1,y2,y3⟩:=Gp b.1 b.2
  have e1:a/4/4=a/16:=by omega
  have c':Ar p.zV.mem (BJ p.low (a/16)).toNat (a/4%4)=Hh (AB p.zY (a/4)).a:=by rw[<-e1];exact c
  unfold Bu;rw[l2,if_pos x1,x2,c',if_pos y1,y2,x3,y3];rfl
 .omega
theorem ZR{k:AN}(hk:kind=10∨kind=11){a b:Int}:Ad k (Ah kind a b 0)=Qa k (Ah kind a b 0):=by
 unfold Ad;rw[if_neg (show ¬(Ah kind a b 0).k=1 by show ¬kind=1;omega),if_neg (by rw[show Be (Ah kind a b 0).k 2 6=false from Vl.2 (by show kind<2∨6<kind;omega)];simp),if_neg (show ¬(Ah kind a b 0).k=7 by show ¬kind=7;omega),
  if_neg (show ¬(Ah kind a b 0).k=8 by show ¬kind=8;omega),if_neg (show ¬(Ah kind a b 0).k=9 by show ¬kind=9;omega),if_pos (show(Ah kind a b 0).k=10∨(Ah kind a b 0).k=11 from hk)]
def NJ(c:List Al)(e p:Int)(f:Nat)(w:Bool):List Al:=if IB c e p<0 then My c ⟨e,p,f,w⟩ else c
theorem aB{k:AN}{c:Aa}:Qa k c=
 if Be c.a 0 63=false∨(AJ k.zX c.e.toNat).root<0∨(c.k=11/\EA c.b=false) then(k,0,3)
 else if(Bu k.mem (AJ k.zX c.e.toNat).root.toNat c.a.toNat).1≠0 then(k,0,3)
 else if c.k=11/\(Bu k.mem (AJ k.zX c.e.toNat).root.toNat c.a.toNat).2.2=false then(k,0,1)
 else if c.k=11 then({k with mem:=CZ k.mem (Bu k.mem (AJ k.zX c.e.toNat).root.toNat c.a.toNat).2.1 (c.a%4).toNat c.b,zW:=NJ k.zW c.e (c.a/4) (Bu k.mem (AJ k.zX c.e.toNat).root.toNat c.a.toNat).2.1 (Bu k.mem (AJ k.zX c.e.toNat).root.toNat c.a.toNat).2.2},0,0)
 else({k with zW:=NJ k.zW c.e (c.a/4) (Bu k.mem (AJ k.zX c.e.toNat).root.toNat c.a.toNat).2.1 (Bu k.mem (AJ k.zX c.e.toNat).root.toNat c.a.toNat).2.2},Ar k.mem (Bu k.mem (AJ k.zX c.e.toNat).root.toNat c.a.toNat).2.1 (c.a%4).toNat,0):=rfl
theorem Xb(h:ED p){a:Nat}(ha:a<64)(hw:(AB p.zY (a/4)).w=1):
 Ad p.zV (Ah 10 (a:Int) 0 0)=({p.zV with zW:=NJ p.zV.zW 0 ((a/4:Nat):Int) (AB p.zY (a/4)).a.toNat true},Ar p.zV.mem (AB p.zY (a/4)).a.toNat (a%4),0):=by
 rw[ZR (.inl rfl)];have er:=h.walk ha hw;have hr:=h.root;unfold Qa;have e0:(AJ p.zV.zX (Ah 10 (a:Int) 0 0).e.toNat).root=AZ p.zV 0:=rfl;have e1:(Ah 10 (a:Int) 0 0).a.toNat=a:=rfl;have e2:(Ah 10 (a:Int) 0 0).a/4=((a/4:Nat):Int):=by show(a:Int)/4=_;omega
 have e3:((Ah 10 (a:Int) 0 0).a%4).toNat=a%4:=by show((a:Int)%4).toNat=_;omega
 simp only[e0,e1,e2,e3,er];rw[if_neg,if_neg (by decide),if_neg,if_neg]
 .rfl
 .show ¬(10:Int)=11;decide
 .rintro⟨_,x⟩;cases x
 .rintro(x|x|⟨x,_⟩)
  .rw[show Be (Ah 10 (a:Int) 0 0).a 0 63=true from Ab.2 ⟨by show(0:Int)<=(a:Int);omega,by show(a:Int)<=63;omega⟩] at x;cases x
  .omega
  .exact absurd (show(10:Int)=11 from x) (by decide)
theorem WR(h:ED p){a:Nat}(ha:a<64)(hw:(AB p.zY (a/4)).w=1){w:Int}(cZ:EA w=true):
 Ad p.zV (Ah 11 (a:Int) w 0)=({p.zV with mem:=CZ p.zV.mem (AB p.zY (a/4)).a.toNat (a%4) w,zW:=NJ p.zV.zW 0 ((a/4:Nat):Int) (AB p.zY (a/4)).a.toNat true},0,0):=by
 rw[ZR (.inr rfl)];have er:=h.walk ha hw;have hr:=h.root;unfold Qa;have e0:(AJ p.zV.zX (Ah 11 (a:Int) w 0).e.toNat).root=AZ p.zV 0:=rfl;have e1:(Ah 11 (a:Int) w 0).a.toNat=a:=rfl;have e2:(Ah 11 (a:Int) w 0).a/4=((a/4:Nat):Int):=by show(a:Int)/4=_;omega
 have e3:((Ah 11 (a:Int) w 0).a%4).toNat=a%4:=by show((a:Int)%4).toNat=_;omega
 simp only[e0,e1,e2,e3,er];rw[if_neg,if_neg (by decide),if_neg,if_pos]
 .rfl
 .rfl
 .rintro⟨_,x⟩;cases x
 .rintro(x|x|⟨_,x⟩)
  .rw[show Be (Ah 11 (a:Int) w 0).a 0 63=true from Ab.2 ⟨by show(0:Int)<=(a:Int);omega,by show(a:Int)<=63;omega⟩] at x;cases x
  .omega
  .rw[show EA (Ah 11 (a:Int) w 0).b=true from cZ] at x;cases x
theorem ED.zW(h:ED p){c:List Al}(hk:DJ {p.zV with zW:=c}):ED {p with zV:= {p.zV with zW:=c}}:=
 ⟨hk,h.zD,h.zv,h.may,h.alone,h.root,h.zt,h.yM,h.lows,h.zO,h.slots,λn hn=>h.zY n hn,h.zR,h.zU,h.count⟩
theorem Zq(h:ED p){a:Nat}(ha:a<64)(hy:(BV p (a/4)).2=true):
 (Kl p a).2.2=true/\(Kl p a).2.1=Dy p a/\ED (Kl p a).1/\∀b,b<64->Dy (Kl p a).1 b=Dy p b:=by
 have T:=LZ h (n:=a/4) (by omega) hy;have hd:=Xb T.ok ha T.w;have hk:=Fy (k:=(BV p (a/4)).1.zV) T.ok.k (kind:=10) (a:=(a:Int)) (b:=0) (c:=0);rw[hd] at hk;unfold Kl;simp only[hy,if_true,hd];refine⟨trivial,?_,T.ok.zW hk,λb hb=>?_⟩
 .rw[<-T.words a ha]
  unfold Dy;rw[if_pos T.w]
 .rw[<-T.words b hb];rfl
theorem Wk(h:ED p){a:Nat}(ha:a<64)(hy:(BV p (a/4)).2=false):Kl p a=(p,0,false):=by have:=GG h (n:=a/4) (by omega) hy;unfold Kl;simp[hy,this]
theorem U2(h:ED p){a:Nat}(ha:a<64){w:Int}(hy:(BV p (a/4)).2=false):Iu p a w=(p,false):=by have:=GG h (n:=a/4) (by omega) hy;unfold Iu;simp[hy,this]
theorem Ze{b:Nat}(h1:a/4=b/4)(h2:a%4=b%4):a=b:=by omega
theorem ED.put(h:ED p){a:Nat}(ha:a<64)(hw:(AB p.zY (a/4)).w=1){w:Int}{c:List Al}(hk:DJ {p.zV with mem:=CZ p.zV.mem (AB p.zY (a/4)).a.toNat (a%4) w,zW:=c}):
 ED {p with zV:= {p.zV with mem:=CZ p.zV.mem (AB p.zY (a/4)).a.toNat (a%4) w,zW:=c}}/\
 ∀b,b<64->Dy {p with zV:= {p.zV with mem:=CZ p.zV.mem (AB p.zY (a/4)).a.toNat (a%4) w,zW:=c}} b=if b=a then w else Dy p b:=by
 have fk:=h.zH (n:=a/4) (by omega) hw;have dN:∀f i,Ar (CZ p.zV.mem (AB p.zY (a/4)).a.toNat (a%4) w) f i=if f=(AB p.zY (a/4)).a.toNat/\i=a%4 then w else Ar p.zV.mem f i:=λf i=>QP (by rw[h.meml];exact fk.1) (by rw[h.rowl fk.1];omega)
 refine⟨⟨hk,h.zD,h.zv,h.may,h.alone,h.root,h.zt,h.yM,λi hi=>?_,h.zO,h.slots,λn hn=>?_,h.zR,h.zU,h.count⟩,λb hb=>?_⟩
 .obtain⟨x1,x2,x3,x4⟩:=h.lows i hi
  refine⟨x1,x2,?_,x4⟩
  show Ar (CZ p.zV.mem _ _ w) (AZ p.zV 0).toNat i=_
  rw[dN,if_neg (λe=>h.yT (n:=a/4) (by omega) hw e.1)];exact x3
 .have e:Br {p with zV:= {p.zV with mem:=CZ p.zV.mem (AB p.zY (a/4)).a.toNat (a%4) w,zW:=c}} n=Br p n:=by
   unfold Br
   show Ar (CZ p.zV.mem _ _ w) (BJ p.low (n/4)).toNat (n%4)=_
   rw[dN,if_neg (λe=>h.zf (n:=a/4) (i:=n/4) (by omega) hw (by omega) e.1)]
  have:=h.zY n hn;unfold KM at this ⊢;rw[e];exact this
 .unfold Dy
  show(if(AB p.zY (b/4)).w=1 then Ar (CZ p.zV.mem _ _ w) (AB p.zY (b/4)).a.toNat (b%4) else if(AB p.zY (b/4)).w=2 then _ else _)=_
  by_cases e:b=a
  .subst e
   rw[if_pos hw,if_pos rfl,dN,if_pos ⟨rfl,rfl⟩]
  .rw[if_neg e]
   by_cases w1:(AB p.zY (b/4)).w=1
   .rw[if_pos w1,if_pos w1,dN,if_neg]
    rintro⟨x,y⟩;exact e (Ze (h.yZ (by omega) (by omega) w1 hw x) y)
   .rw[if_neg w1,if_neg w1]
theorem ZN(h:ED p){a:Nat}(ha:a<64){w:Int}(cZ:EA w=true)(hy:(BV p (a/4)).2=true):
 (Iu p a w).2=true/\ED (Iu p a w).1/\(∀b,b<64->Dy (Iu p a w).1 b=if b=a then w else Dy p b)/\(AB (Iu p a w).1.zY (a/4)).w=1:=by
 have T:=LZ h (n:=a/4) (by omega) hy;have hd:=WR T.ok ha T.w cZ;have hk:=Fy (k:=(BV p (a/4)).1.zV) T.ok.k (kind:=11) (a:=(a:Int)) (b:=w) (c:=0);rw[hd] at hk;have P:=T.ok.put ha T.w (w:=w) hk;unfold Iu;simp only[hy,if_true,hd];refine⟨trivial,P.1,λb hb=>?_,T.w⟩;rw[<-T.words b hb];exact P.2 b hb
theorem Yw(h:ED p){a:Nat}(ha:a<64):ED (Kl p a).1:=by
 cases hy:(BV p (a/4)).2
 .rw[Wk h ha hy];exact h
 .exact(Zq h ha hy).2.2.1
theorem Se(h:ED p){a:Nat}(ha:a<64){w:Int}(cZ:EA w=true):ED (Iu p a w).1:=by
 cases hy:(BV p (a/4)).2
 .rw[U2 h ha hy];exact h
 .exact(ZN h ha cZ hy).2.1
theorem Nz(h:ED p){n:Nat}(hn:n<16):ED (BV p n).1:=by
 cases hy:(BV p n).2
 .rw[GG h hn hy];exact h
 .exact(LZ h hn hy).ok
def Bx(k:AN)(c:Aa)(kind:Int):Int:=
 if Be c.a 0 11=false∨(zS k.zZ c.a.toNat).k=0 then 3
 else if Bv (AJ k.zX c.e.toNat).zT (zS k.zZ c.a.toNat).g=false then 1
 else if(0<kind/\(zS k.zZ c.a.toNat).k≠kind)∨(kind=0/\Bd (zS k.zZ c.a.toNat).k=false) then 3
 else 0
theorem Jm{k:AN}{c:Aa}(h1:2<=c.k)(h2:c.k<=6):Ad k c=Gh k c:=by unfold Ad;rw[if_neg (by omega),if_pos (Ab.2 ⟨h1,h2⟩)]
theorem VS{k:AN}{c:Aa}(h:c.k=2):Ad k c=if Bx k c 1=0 then(if(zS k.zZ c.a.toNat).r≠0 then(k,0,2) else({k with zZ:=k.zZ.set c.a.toNat AU.zero},0,0)) else(k,0,Bx k c 1):=by
 rw[Jm (by omega) (by omega)];unfold Gh Bx J4 Fb;rw[h]
 by_cases a1:Be c.a 0 11=false∨(zS k.zZ c.a.toNat).k=0
 .rw[if_pos a1,if_pos (by rcases a1 with a1|a1<;>simp[a1])];rfl
 .have bk:=not_or.1 a1
  rw[if_neg a1,if_neg (by simp[bk.1,bk.2])];cases Bv (AJ k.zX c.e.toNat).zT (zS k.zZ c.a.toNat).g
  .rfl
  .by_cases a2:(zS k.zZ c.a.toNat).k=1
   .simp[a2]
   .simp[a2]
theorem VT{k:AN}{c:Aa}(h:c.k=3):Ad k c=if Bx k c 1=0 then(if Be c.b 0 3=false∨EA c.c=false then(k,0,3) else({k with mem:=CZ k.mem c.a.toNat c.b.toNat c.c},0,0)) else(k,0,Bx k c 1):=by
 rw[Jm (by omega) (by omega)];unfold Gh Bx KB Fb;rw[h]
 by_cases a1:Be c.a 0 11=false∨(zS k.zZ c.a.toNat).k=0
 .rw[if_pos a1,if_pos (by rcases a1 with a1|a1<;>simp[a1])];rfl
 .have bk:=not_or.1 a1
  rw[if_neg a1,if_neg (by simp[bk.1,bk.2])];cases Bv (AJ k.zX c.e.toNat).zT (zS k.zZ c.a.toNat).g
  .rfl
  .by_cases a2:(zS k.zZ c.a.toNat).k=1
   .simp[a2]
   .simp[a2]
theorem XD{k:AN}{c:Aa}(h:c.k=4∨c.k=5):Ad k c=if Be c.a 0 11=false∨(zS k.zZ c.a.toNat).k=0∨(c.k=4/\Bd c.b=false) then(k,0,3)
 else if Fb k c.e (zS k.zZ c.a.toNat).g=false then(k,0,1)
 else EH k (if c.k=4 then Hy k.mem k.zZ c.a.toNat c.b (AJ k.zX c.e.toNat).zT else Dm k.mem k.zZ c.a.toNat):=by
 rw[Jm (by omega) (by omega)];unfold Gh
 rcases h with h|h<;>simp[h]
def ZM(k:AN)(c:Aa):ML:=
 if Be c.b 0 3=false∨Dk k c=false then(k,0,3)
 else if(Fd k c.a.toNat).all (λe=>BG k.zZ (DK k c.c) (AJ k.zX e).zT)=false then(k,0,1)
 else if Bh c.c=true/\Fb k c.e (zS k.zZ (A9 c.c)).g=false then(k,0,1)
 else({k with mem:=CZ k.mem c.a.toNat c.b.toNat c.c,zZ:=A4 (A4 k.zZ (Ar k.mem c.a.toNat c.b.toNat) (-1)) c.c 1,zW:=(Fd k c.a.toNat).foldl (λc e=>Fz c (e:Nat)) k.zW},0,0)
theorem XE{k:AN}{c:Aa}(h:c.k=6):Ad k c=if Bx k c 0=0 then ZM k c else(k,0,Bx k c 0):=by
 rw[Jm (by omega) (by omega)];unfold Gh Bx Gz ZM Fb;rw[h]
 by_cases a1:Be c.a 0 11=false∨(zS k.zZ c.a.toNat).k=0
 .rw[if_pos a1,if_pos (by rcases a1 with a1|a1<;>simp[a1])];rfl
 .have bk:=not_or.1 a1
  rw[if_neg a1,if_neg (by simp[bk.1,bk.2])];cases Bv (AJ k.zX c.e.toNat).zT (zS k.zZ c.a.toNat).g
  .rfl
  .cases a2:Bd (zS k.zZ c.a.toNat).k<;>simp
theorem JW{k:AN}{c:Aa}(h:Bx k c kind=0):Be c.a 0 11=true/\(zS k.zZ c.a.toNat).k≠0/\Bv (AJ k.zX c.e.toNat).zT (zS k.zZ c.a.toNat).g=true/\(0<kind->(zS k.zZ c.a.toNat).k=kind)/\(kind=0->Bd (zS k.zZ c.a.toNat).k=true):=by
 unfold Bx at h
 by_cases a1:Be c.a 0 11=false∨(zS k.zZ c.a.toNat).k=0
 .rw[if_pos a1] at h;cases h
 .rw[if_neg a1] at h
  have bk:=not_or.1 a1;cases hm:Bv (AJ k.zX c.e.toNat).zT (zS k.zZ c.a.toNat).g
  .rw[hm] at h;cases h
  .rw[hm,if_neg (by simp)] at h
   by_cases a2:(0<kind/\(zS k.zZ c.a.toNat).k≠kind)∨(kind=0/\Bd (zS k.zZ c.a.toNat).k=false)
   .rw[if_pos a2] at h;cases h
   .have fm:=not_or.1 a2
    refine⟨by simpa using bk.1,bk.2,rfl,λh0=>?_,λh0=>?_⟩
    .exact Classical.byContradiction λhx=>fm.1 ⟨h0,hx⟩
    .cases ht:Bd (zS k.zZ c.a.toNat).k
     .exact absurd ⟨h0,ht⟩ fm.2
     .rfl
def H7(zZ:List AU)(old:Int):List AU:=if 0<=old then As zZ old.toNat (JS (-1)) else zZ
def M6(zZ:List AU)(new:Int):List AU:=if 0<=new then As zZ new.toNat (JS 1) else zZ
theorem ZG{k:AN}{c:Aa}:Ob k c=
 if c.a≠ -1/\(Be c.a 0 11=false∨(zS k.zZ c.a.toNat).k≠3) then(k,0,3)
 else if BG k.zZ (BZ k.mem c.a) (AJ k.zX c.e.toNat).zT=false then(k,0,1)
 else({k with zZ:=M6 (H7 k.zZ (AJ k.zX c.e.toNat).root) c.a,zX:=As k.zX c.e.toNat (Dn c.a),zW:=Fz k.zW c.e},0,0):=rfl
theorem VU{k:AN}{c:Aa}(h:c.k=7):Ad k c=Ob k c:=by unfold Ad;rw[if_neg (by omega),if_neg (by rw[h];decide),if_pos h]
theorem UG{k:AN}{c:Aa}(h:c.k=8):Ad k c=LF k c:=by unfold Ad;rw[if_neg (by omega),if_neg (by rw[h];decide),if_neg (by omega),if_pos h]
theorem Su{k:AN}{c:Aa}(h:c.k=9):Ad k c=Jp k c:=by unfold Ad;rw[if_neg (by omega),if_neg (by rw[h];decide),if_neg (by omega),if_neg (by omega),if_pos h]
theorem XF{k:AN}{c:Aa}(h:c.k=10∨c.k=11):Ad k c=Qa k c:=by unfold Ad;rw[if_neg (by omega),if_neg (by rcases h with h|h<;>rw[h]<;>decide),if_neg (by omega),if_neg (by omega),if_neg (by omega),if_pos h]
theorem UF{k:AN}(h:DJ k){e p:Nat}{j:Nat}(hj:j<k.zW.length)(hs:Bj (e:Int) (p:Int) (AT k.zW j)=true){a:Nat}(ha:a/4=p):
 ∃fr:Nat,fr<12/\AT k.zW j=⟨(e:Int),(p:Int),(fr:Int),(AT k.zW j).w⟩/\Bu k.mem (AJ k.zX e).root.toNat a=(0,fr,(AT k.zW j).w):=by
 have hx:AT k.zW j∈k.zW:=List.mem_of_getElem? (A1 hj);have ht:=h.trans _ hx;have hc:=(Ep.1 h.zW).1 _ hx;generalize AT k.zW j=x at*;obtain⟨xe,xp,xf,xw⟩:=x;simp only[Bj,yp,decide_eq_true_eq] at hs;obtain⟨rfl,rfl⟩:=hs;simp only[CU,yp,Ab] at hc;obtain⟨_,h0,gO⟩:=hc;obtain⟨fr,rfl⟩:∃fr:Nat,xf=(fr:Int):=⟨xf.toNat,by omega⟩
 refine⟨fr,by omega,rfl,?_⟩;simp only[Cn,yp,decide_eq_true_eq,yb] at ht;have e1:Bu k.mem (AJ k.zX e).root.toNat a=Bu k.mem (AJ k.zX e).root.toNat (4*p):=by unfold Bu;rw[show 4*p/16=a/16 by omega,show 4*p/4%4=a/4%4 by omega]
 rw[e1];exact ht.2
open Go.RowKit
def Sp(lo:Nat)(w:World)(v:Value)(f a:Nat)(b:Bool):Prop:=∃q,v=.pointer (some ⟨q,0,none⟩)/\lo<=q/\w.heap[q]?=some (.cells #[.int .i64 f,.int .i64 a,.bool b] 114 (0,0))
theorem Sp.below{lo:Nat}{w w':World}{f:Nat}{b:Bool}(h:Sp lo w v f a b)(hb:Below w.heap.size w w'):Sp lo w' v f a b:=by obtain⟨q,h0,h1,h2⟩:=h;exact⟨q,h0,h1,AC h2 hb⟩
theorem Xo{w':World}{q T:Nat}{x y z a b c:Value}(h:w'.heap[q]?=some (.cells #[x,y,z] T (0,0)))(hb:Below W.heap.size W w')(hq:W.heap.size<=q):
 (((w'.setCell ⟨q,0,none⟩ a).setCell ⟨q,1,none⟩ b).setCell ⟨q,2,none⟩ c).heap[q]?=some (.cells #[a,b,c] T (0,0))/\Below W.heap.size W (((w'.setCell ⟨q,0,none⟩ a).setCell ⟨q,1,none⟩ b).setCell ⟨q,2,none⟩ c):=by
 refine⟨?_,((hb.setCell hq _).setCell hq _).setCell hq _⟩;have h1:=ym w' q 0 _ T a h;have h2:=ym _ q 1 _ T b h1;have h3:=ym _ q 2 _ T c h2;simpa using h3
def Md(lo:Nat)(b:Bool)(v:Value)(w:World)(f a:Int)(t:Bool):Prop:=∃q,v=.pointer (some ⟨q,0,none⟩)/\lo<=q/\w.heap[q]?=some (.cells (if b then #[.int .i64 f,.int .i64 a,.bool t] else #[.int .i64 0,.int .i64 0,.bool false]) 114 (0,0))
theorem Md.below{lo:Nat}{b:Bool}{w w':World}{f a:Int}{t:Bool}(h:Md lo b v w f a t)(hb:Below w.heap.size w w'):Md lo b v w' f a t:=by obtain⟨q,h0,h1,h2⟩:=h;exact⟨q,h0,h1,AC h2 hb⟩
theorem Md.zero{lo q:Nat}{b:Bool}{w:World}{f a:Int}{t:Bool}(hb:b=false)(hq:lo<=q)(hh:w.heap[q]?=some (.cells #[.int .i64 0,.int .i64 0,.bool false] 114 (0,0))):Md lo b (.pointer (some ⟨q,0,none⟩)) w f a t:=⟨q,rfl,hq,by rw[hb];exact hh⟩
def EI(k:AN)(a j:Nat):List Nat:=(yC j).filter λe=>(BZ k.mem (AJ k.zX e).root).contains a
theorem WY{k:AN}(h:(BZ k.mem (AJ k.zX j).root).contains a=false):EI k a (j+1)=EI k a j:=by unfold EI;rw[wZ,wE];simp only[vL,h,uV];simp
theorem U8{k:AN}(h:(BZ k.mem (AJ k.zX j).root).contains a=true):EI k a (j+1)=EI k a j++[j]:=by unfold EI;rw[wZ,wE];simp only[vL,h,uV];simp
theorem Lb{k:AN}:(EI k a j).length<=j:=by unfold EI;exact yB (List.length_filter_le _ _) (by simp)
theorem WX{k:AN}{e:Nat}(h:e∈EI k a j):e<j:=xU.1 (wY.1 h).1
theorem Ij{k:AN}:EI k a 3=Fd k a:=rfl
theorem Qp{ts l:List Nat}(h:∀g,g∈ts↔g∈l):(A0 ts).contains (a:Int)=l.contains a:=by rw[wA,uS,uS,KX,h]
def Gf(es:List Nat)(c:List Al):List Al:=es.foldl (λc e=>Fz c (e:Nat)) c
theorem Ri{c:List Al}(es:List Nat)(h:BT c=true):BT (Gf es c)=true:=UN h
theorem OI{es:List Nat}{c:List Al}(h:j<es.length):Gf (es.take (j+1)) c=Fz (Gf (es.take j) c) ((es.getD j 0:Nat):Int):=by unfold Gf;rw[Cx (A1 (d:=0) h),uz];rfl
theorem Z7{k:AN}{c:Aa}:Gz k c=
 if Bd (zS k.zZ c.a.toNat).k=false∨Be c.b 0 3=false∨Dk k c=false then(k,0,3)
 else if(Fd k c.a.toNat).all (λe=>BG k.zZ (DK k c.c) (AJ k.zX e).zT)=false then(k,0,1)
 else if Bh c.c=true/\Fb k c.e (zS k.zZ (A9 c.c)).g=false then(k,0,1)
 else({k with mem:=CZ k.mem c.a.toNat c.b.toNat c.c,zZ:=A4 (A4 k.zZ (Ar k.mem c.a.toNat c.b.toNat) (-1)) c.c 1,zW:=Gf (Fd k c.a.toNat) k.zW},0,0):=rfl
theorem MY{zZ:List AU}(h:BI zZ=true):JR zZ 50:=by
 intro f hf;have:=(Az.1 h).2 f (by rw[<-(Az.1 h).1];exact hf);unfold DI at this;simp only[xl,yp,decide_eq_true_eq,Ab] at this
 rcases this with h|h
 .rw[h];decide
 .omega
theorem JR.refer{zZ:List AU}{b x n:Int}(h:JR zZ b)(hl:zZ.length=12)(hn:n=1∨n= -1):JR (A4 zZ x n) (b+1):=by
 intro f hf;rw[Cg] at hf;have:=h f hf;rw[FN hl]
 show -(b+1)<=(zS zZ f).r+n*((EC (Dd f x):Nat):Int)/\(zS zZ f).r+n*((EC (Dd f x):Nat):Int)<=b+1
 unfold EC
 split<;>rcases hn with rfl|rfl<;>omega
theorem JR.mono{zZ:List AU}{b b':Int}(h:JR zZ b)(hb:b<=b'):JR zZ b':=λf hf=>by have:=h f hf;omega
theorem Nt{lo:Nat}{w:World}{u:Value}{xs:List Int}{g:Nat}(h:AF lo w v xs)(hg:g<lo):AF lo (w.setCell ⟨g,j,none⟩ u) v xs:=
 Av h (Aq w g j u) (by
  rcases hv:v.ownBlock with _|b
  .exact .inl rfl
  .refine .inr λe=>?_
   cases e;have:=(yq h g hv).1;omega)
theorem ET.refer{lo g b0:Nat}{call:Aa}{w:World}{m e c:Value}{k:AN}{gi ci:Nat}(h:CS lo g b0 call w W m (.slice (some ⟨gi,0,none⟩) 12 ci) e c k)(x n:Int)(hx:x<=9223372036854775807)(hl:k.zZ.length=12)(hn:n=1∨n= -1)(hs:JR k.zZ 1000):
 Calls prog 252 #[call.on g,.int .i64 x,.int .i64 n] W λr w'=>r=.returned (.tuple #[])/\CS lo g b0 call w w' m (.slice (some ⟨gi,0,none⟩) 12 ci) e c {k with zZ:=A4 k.zZ x n}/\W.grownBy w' (some gi):=by
 have eO:=AA (AE W (.cells (call.onCells g) 126));have N:=yv W (.cells (call.onCells g) 126);have hb:=AE W (.cells (call.onCells g) 126);have h1:=h.below hb;have fP: -1<=n/\n<=1:=by omega
 have CE:=AA (λW=>FT x W hx);have eX:=h1.ze h1.yI.2.2.2.1 rfl (by decide) (by decide);obtain⟨gQ,dc⟩:=A6 h1.yI.2.2.2.1 gi rfl;have f5:gi≠W.heap.size:=by have:=h.zl;omega
 have gL:W.heap.size≠gi:=f5.symm;have ff:g≠W.heap.size:=by have:=h.lts.2.1;omega
 obtain⟨k1,e1,a1,b1,c1,fF⟩:=call;simp only[Aa.on,Aa.onCells] at N hb h1 eO ⊢;obtain⟨y0,y1,y2,y3,y4,y5,y6⟩:=J8 (c:=⟨k1,e1,a1,b1,c1,fF⟩) N;cases hg:Bh x
 .have V:=AA (Eg hg)
  have S:=AA (show A4 k.zZ x n=k.zZ by simp[A4,hg]);have H1:=AA h1;clear hg h h1 hs hn y0 y1 y2 y3 y4 y5 y6 N hl eX dc;go_in;go_wp2_with (go_at_call 150;refine(CE.out _).mono ?_;rintro e w' ⟨rfl,rfl⟩;rw[V.out]);go_returns;exact⟨rfl,by rw[S.out];exact H1.out,AX eO.out _⟩
 .have hF:=EP hg
  have V:=AA (EX hg);have S:=AA (show A4 k.zZ x n=As k.zZ (A9 x) (JS n) by unfold A4;rw[hg,if_pos rfl]);generalize A9 x=f at*;have dH:f<k.zZ.length:=by omega
  obtain⟨s1,s2⟩:=hs f dH;obtain⟨_,_,d2⟩:=h1.zS dH;have T:=AA (h1.info hl.symm dH n);have x1:=h1.xs.2.1;have Fr:=h1.fzi (f*3+2);have f9:(f:Int)<12:=by omega
  clear hg h h1 hs hn N y1 y2 y3 y4 y5 y6 hl eX dc;go_in;go_wp2_with (go_at_call 150;refine(CE.out _).mono ?_;rintro e w' ⟨rfl,rfl⟩;rw[V.out]);go_returns;exact⟨rfl,by rw[S.out];exact T.out,AP (AX eO.out _) (Aq _ _ _ _)⟩
theorem ZK{lo g:Nat}{w:World}{m i e c:Value}{k:AN}(h:Im lo w g m i e c k)(ai:lo<=w.heap.size)(hK:DJ k)(call:Aa)(he:0<=call.e)(hn:call.e<3)(ha:0<=call.a/\call.a<12)(al:call.c<=9223372036854775807):
 Calls prog 211 #[call.on g] w (Gl lo g w (Gz k call)):=by
 have S0:=ET.start h ai call;have P:=Z7 (k:=k) (c:=call);obtain⟨k1,e1,a1,b1,c1,nm⟩:=call;obtain⟨en,rfl⟩:∃n:Nat,e1=(n:Int):=⟨e1.toNat,by simp only at he;omega⟩
 obtain⟨an,rfl⟩:∃n:Nat,a1=(n:Int):=⟨a1.toNat,by simp only at ha;omega⟩
 have dI:en<3:=by simp only at hn;omega
 have aq:an<12:=by simp only at ha;omega
 simp only[Aa.on,Aa.onCells] at S0 P al ⊢;simp only[yb] at P;obtain⟨ge,ci,e9,_,⟨⟨cU,cS⟩,cR,cQ⟩,_⟩:=S0.zX (by rw[hK.zN];omega);rw[hK.zN] at e9;obtain⟨gi,bC,e8,_,_,⟨⟨cO,cM⟩,cL,cK⟩,_⟩:=S0.zZ (by rw[hK.len];omega);rw[hK.len] at e8;obtain⟨gm,ay,e7,_,⟨cJ,cI⟩,cH,cG⟩:=S0.mems (At hK).1;subst e7 e8 e9;obtain⟨y0,y1,y2,y3,y4,y5,y6⟩:=S0.ys;have HK:=AA hK;have HS:=AA S0;have HP:=AA P;have gf:(an:Int)<12:=by omega
 have fB:=AA (λW=>FT c1 W al);replace y3:=xY y3;replace y4:=xY y4;replace y5:=xY y5;clear hK h S0 ai he hn P y0 y1 y2 y6 ha;go_in;go_wp2_with fail;generalize w.alloc _=W0 at*;refine Bo ?_
 repeat(go_big_quiet_step (fail))
 refine Bn λwq bq=>?_
 clear y3 y4 y5;have S2:=AA (HS.out.below bq);obtain⟨W2,rfl⟩:∃W2:World,W2=wq:=⟨_,rfl⟩
 clear bq;obtain⟨y0,_,_,_,_,_,_⟩:=S2.out.ys;obtain⟨x0,x1,_,_⟩:=S2.out.xs;obtain⟨d0,_,_⟩:=S2.out.zS (f:=an) (by rw[HK.out.len];exact aq);have cT:=Wy (w1:=W2) (λW=>Ic (zS k.zZ an).k W);have cP:=Wy (w1:=W2) (λW=>OK b1 W);have cN:=Wy (w1:=W2) (λW=>Kz (zS k.zZ an).k W);cases hg:Bh c1
 focus
  have V:=AA (Eg hg);have cl:=AA hg;have fc:DK k c1=[]:=by unfold DK;rw[hg];rfl
  have gq:=AA fc;have bK:Dk k ⟨k1,(en:Int),(an:Int),b1,c1,nm⟩=decide (c1=0):=by unfold Dk;rw[hg];rfl
  clear hg fc;go_wp2_with (go_at_call 150;refine(fB.out _).mono ?_;rintro e w' ⟨rfl,rfl⟩;rw[V.out]);clear x1 d0 y0 x0;cases ht:Bd (zS k.zZ an).k
  .rw[ht] at cT
   have E:=AA (show Gz k ⟨k1,(en:Int),(an:Int),b1,c1,nm⟩=(k,0,3) by rw[HP.out,if_pos (.inl ht)]);refine Bo ?_
   repeat(go_big_quiet_step (first|exact cT _ _|exact cP _ _|exact cN _ _))
   refine Bn λwq bq=>?_
   go_wp2_with fail;go_ret;exact Gl.bad E.out (by decide) (S2.out.below bq).bel
  rw[ht] at cT;cases hb:Be b1 0 3
  .rw[hb] at cP
   have E:=AA (show Gz k ⟨k1,(en:Int),(an:Int),b1,c1,nm⟩=(k,0,3) by rw[HP.out,if_pos (.inr (.inl hb))]);refine Bo ?_
   repeat(go_big_quiet_step (first|exact cT _ _|exact cP _ _|exact cN _ _))
   refine Bn λwq bq=>?_
   go_wp2_with fail;go_ret;exact Gl.bad E.out (by decide) (S2.out.below bq).bel
  rw[hb] at cP
  by_cases h0:c1=0
  rotate_left
  .have t0:(c1 !=0)=true:=by simp[h0]
   have E:=AA (show Gz k ⟨k1,(en:Int),(an:Int),b1,c1,nm⟩=(k,0,3) by rw[HP.out,if_pos (.inr (.inr (by rw[bK];simp[h0])))]);refine Bo ?_
   repeat(go_big_quiet_step (first|exact cT _ _|exact cP _ _|exact cN _ _))
   refine Bn λwq bq=>?_
   go_wp2_with fail;go_ret;exact Gl.bad E.out (by decide) (S2.out.below bq).bel
  have t0:(c1 !=0)=false:=by simp[h0]
  have b5:=AA (show Gz k ⟨k1,(en:Int),(an:Int),b1,c1,nm⟩=_ by rw[HP.out,if_neg (by rintro(x|x|x);(· rw[ht] at x;cases x);(· rw[hb] at x;cases x);(· rw[bK,h0] at x;cases x))]);obtain⟨bn,rfl⟩:∃n:Nat,b1=(n:Int):=⟨b1.toNat,by have:=(Ab.1 hb).1;omega⟩
  have bY:bn<4:=by have:=(Ab.1 hb).2;omega
  simp only[yb] at b5;have gR:=AA h0;clear bK ht hb h0;refine Bo ?_
  repeat(go_big_quiet_step (first|exact cT _ _|exact cP _ _|exact cN _ _))
  refine Bn λwq bq=>?_
  clear cT cP cN t0;have S5:=AA (S2.out.below bq);obtain⟨W5,rfl⟩:∃W5:World,W5=wq:=⟨_,rfl⟩
  clear bq S2;have dm:=AA (xm W5 W5.heap.size 3 1);have dm:Hid (AF W5.heap.size W5 (.slice none 0 0) (A0 [])):=AA dm.out;obtain⟨ts,hts⟩:∃ts:List Nat,ts=[]:=⟨_,rfl⟩
  have Hm:=AA (show ∀g,g∈ts↔g∈DK k c1 by rw[hts,gq.out];exact λ_=>Iff.rfl);have Ht:=AA (show ∀g,g∈ts->g<12 by rw[hts];intro g hg;cases hg);rw[<-hts] at dm;clear hts
 rotate_left
 focus
  have hF:=EP hg;have V:=AA (EX hg);have cl:=AA hg;have bK:Dk k ⟨k1,(en:Int),(an:Int),b1,c1,nm⟩=decide ((zS k.zZ (A9 c1)).k=(zS k.zZ an).k - 1):=by unfold Dk;rw[hg];rfl
  have h0:c1≠0:=by rintro rfl;cases hg
  have t0:(c1 !=0)=true:=by simp[h0]
  have HN:=AA (show DK k c1=A9 c1::(if Bd (zS k.zZ (A9 c1)).k then named (AH k.mem (A9 c1)) else[]) by unfold DK;rw[hg];rfl);clear hg;obtain⟨f,hfe⟩:∃f,f=A9 c1:=⟨_,rfl⟩
  have HF:=AA hfe.symm;rw[<-hfe] at V HN bK hF;clear hfe;obtain⟨cu,_,_⟩:=S2.out.zS (f:=f) (by rw[HK.out.len];exact hF);have f9:(f:Int)<12:=by omega
  go_wp2_with (go_at_call 150;refine(fB.out _).mono ?_;rintro e w' ⟨rfl,rfl⟩;rw[V.out]);replace y0:=xY y0;replace x1:=xY x1;replace cu:=xY cu;clear d0 x0;cases ht:Bd (zS k.zZ an).k
  .rw[ht] at cT
   have E:=AA (show Gz k ⟨k1,(en:Int),(an:Int),b1,c1,nm⟩=(k,0,3) by rw[HP.out,if_pos (.inl ht)]);refine Bo ?_
   repeat(go_big_quiet_step (first|exact cT _ _|exact cP _ _|exact cN _ _))
   refine Bn λwq bq=>?_
   go_wp2_with fail;go_ret;exact Gl.bad E.out (by decide) (S2.out.below bq).bel
  rw[ht] at cT;rw[SJ ht] at cN;cases hb:Be b1 0 3
  .rw[hb] at cP
   have E:=AA (show Gz k ⟨k1,(en:Int),(an:Int),b1,c1,nm⟩=(k,0,3) by rw[HP.out,if_pos (.inr (.inl hb))]);refine Bo ?_
   repeat(go_big_quiet_step (first|exact cT _ _|exact cP _ _|exact cN _ _))
   refine Bn λwq bq=>?_
   go_wp2_with fail;go_ret;exact Gl.bad E.out (by decide) (S2.out.below bq).bel
  rw[hb] at cP
  by_cases h0:(zS k.zZ f).k=(zS k.zZ an).k - 1
  rotate_left
  .have t2:((zS k.zZ f).k !=(zS k.zZ an).k - 1)=true:=by simp[h0]
   have E:=AA (show Gz k ⟨k1,(en:Int),(an:Int),b1,c1,nm⟩=(k,0,3) by rw[HP.out,if_pos (.inr (.inr (by rw[bK];exact decide_eq_false h0)))]);refine Bo ?_
   repeat(go_big_quiet_step (first|exact cT _ _|exact cP _ _|exact cN _ _))
   refine Bn λwq bq=>?_
   go_wp2_with fail;go_ret;exact Gl.bad E.out (by decide) (S2.out.below bq).bel
  have t2:((zS k.zZ f).k !=(zS k.zZ an).k - 1)=false:=by simp[h0]
  have b5:=AA (show Gz k ⟨k1,(en:Int),(an:Int),b1,c1,nm⟩=_ by rw[HP.out,if_neg (by rintro(x|x|x);(· rw[ht] at x;cases x);(· rw[hb] at x;cases x);(· rw[bK,decide_eq_true h0] at x;cases x))]);obtain⟨bn,rfl⟩:∃n:Nat,b1=(n:Int):=⟨b1.toNat,by have:=(Ab.1 hb).1;omega⟩
  have bY:bn<4:=by have:=(Ab.1 hb).2;omega
  simp only[yb] at b5;have be:=hF;clear bK ht hb h0 hF;refine Bo ?_
  repeat(go_big_quiet_step (first|exact cT _ _|exact cP _ _|exact cN _ _))
  refine Bn λwq bq=>?_
  clear cT cP cN t0 t2 y0 x1 cu;have S3:=AA (S2.out.below bq);obtain⟨W3,rfl⟩:∃W3:World,W3=wq:=⟨_,rfl⟩
  clear bq S2;have eM:=AE W3 (.cells #[.int .i64 f] 3);have O4:=AA (LR W3 (f:Int));have S4:=AA (S3.out.below eM);have dp:=AA eM;clear eM;obtain⟨y0,_,_,_,_,_,_⟩:=S4.out.ys;obtain⟨x0,x1,_,_⟩:=S4.out.xs;obtain⟨cu,_,_⟩:=S4.out.zS (f:=f) (by rw[HK.out.len];exact be);have CT:=AA (λW=>Ic (zS k.zZ f).k W);go_wp2_with fail;refine(CT.out _).mono ?_;rintro r w9 ⟨rfl,rfl⟩;generalize W3.alloc _=W4 at*;go_upto_if 83 with fail;go_cut [10] (λfD wx=>∃ts b3,AF b3 wx fD (A0 ts)/\(∀g,g∈ts↔g∈DK k c1)/\(∀g,g∈ts->g<12)/\CS lo g w.heap.size ⟨k1,(en:Int),(an:Int),(bn:Int),c1,nm⟩ w wx (.slice (some ⟨gm,0,none⟩) 12 ay) (.slice (some ⟨gi,0,none⟩) 12 bC) (.slice (some ⟨ge,0,none⟩) 3 ci) c k)
  case first=>
   cases ew:Bd (zS k.zZ f).k
   .go_wp2_with fail
    go_meet
    case rel=>exact⟨[f],_,O4.out,by rw[HN.out,ew];exact λ_=>Iff.rfl,by intro g hg;rw[xx] at hg;omega,S4.out⟩
   .have RM:=S4.out.yI.2.2.rd.1
    have CN:=SG _ (.slice (some ⟨W3.heap.size,0,none⟩) 1 1) k.mem [f] W4 RM (At HK.out).1 (AF.rd O4.out) (by simpa using be) (by simp);have di:=K4 (At HK.out).1 (ns:=[f]) (by simpa using be);go_wp2_with fail;refine CN.mono ?_;rintro r w5 ⟨v5,t5,rfl,P5,m5,l5,de⟩;have O5:=AA (show w5.ownsRow W3.heap.size 3 1 (.slice (some ⟨W3.heap.size,0,none⟩) 1 1) 1 ((A0 [f]).map (yf .i64)) from O4.out.below de);have R5:=AA (show Rd w5 v5 1 t5.length ((A0 t5).map (yf .i64)) by have:=AF.rd P5;unfold Aw at this;rwa [Cd] at this);have fS:W3.heap.size<=w5.heap.size:=yB (by have:=(yq O4.out _ rfl);omega) de.size;have cw:=AA (S4.out.below de);have gy:=AA (dp.out.trans (de.mono dp.out.size));have h5:t5.length<=4:=by simp at di;omega
    have Hm:=AA (show ∀g,g∈[f]++t5↔g∈DK k c1 by intro g;rw[HN.out,ew,if_pos rfl,wC,xx,List.mem_cons,m5];simp[Gy])
    have Ht:=AA (show ∀g,g∈[f]++t5->g<12 by
     intro g hg;rw[wC,xx] at hg
     rcases hg with rfl|hg
     .exact be
     .obtain⟨_,_,hg⟩:=K5.1 ((m5 g).1 hg)
      exact FL hg)
    clear ew O4 S4 x0 x1 y0 cu CT RM P5 m5 l5 de di CN;go_wp2_with (at_builtin;go_must (refine El (lo:=W3.heap.size) (v:=.slice (some ⟨W3.heap.size,0,none⟩) 1 1) (n:=1) (xs:=(A0 [f]).map (yf .i64)) (m:=t5.length) (news:=(A0 t5).map (yf .i64)) rfl rfl 3 (.int .i64 0) 1 8 underlying29 Tryz.zI rfl (by decide) rfl O5.out rfl R5.out LP (by unfold maxLen;omega) (by omega) (by omega) ?_;intro gG W5 dz cq dy;have y0:=(F5 (o:=0) cq cw.out.lts.1 (Dg O5.out cw.out.yK (by decide))).trans cw.out.ys.1;have x2:=(F5 (o:=2) cq cw.out.lts.2.1 (Dg O5.out cw.out.yI.1 (by decide))).trans cw.out.xs.2.2.1));go_meet
    case rel=>exact⟨[f]++t5,_,Mh (a:=[f]) (b:=t5) dz,Hm.out,Ht.out,S3.out.below (gy.out.trans dy)⟩
  case' rest=>
  obtain⟨ts,b3,eY,fd,eZ,eT⟩:=hcut;have dm:=AA eY;have Hm:=AA fd;have Ht:=AA eZ;have S5:=AA eT;obtain⟨W5,rfl⟩:∃W5:World,W5=wc:=⟨_,rfl⟩
  clear eY fd eZ eT O4 S4 x0 x1 y0 cu CT
 all_goals
  obtain⟨y0,_,_,_,_,_,_⟩:=S5.out.ys;obtain⟨_,_,x2,_⟩:=S5.out.xs;go_wp2_with fail;clear y0 x2;go_loopw [11,99] (λfC dY wr=>∃j:Nat,j<=3/\dY=.int .i64 j/\AF W5.heap.size wr fC (A0 (EI k an j))/\Below W5.heap.size W5 wr/\∀e,e∈EI k an j->BG k.zZ (DK k c1) (AJ k.zX e).zT=true) (λ_ dY _=>3 - (intOf dY).toNat)
  case atStart=>exact⟨0,yh _,rfl,xm _ _ _ _,yD _ _,λe he=>by cases he⟩
  case round=>
   obtain⟨j,hj,rfl,hO,cg,bi⟩:=hrel;have bm:=AA bi;clear bi;have fT:=Lb (k:=k) (a:=an) (j:=j);have S6:=AA (S5.out.below cg);have HO:=AA hO;have ad:=AA cg;obtain⟨bt,bs,rfl,_,_,_⟩:=hO.rd.open;rw[Cd] at HO ⊢;clear hO cg
   by_cases bb:j<3
   .obtain⟨ua,uc,eR,eQ,R5⟩:=S5.out.env (j:=j) (by rw[HK.out.zN];exact bb)
    have D0:=(ad.out.cell (yA _ _ eR)).trans eR;have D1:=(ad.out.cell (yA _ _ eQ)).trans eQ;have R:=BD.below R5 ad.out;have gt:=AA R5;clear eR eQ R5;have dd:=AE wr (.cells #[.slice ua (AJ k.zX j).zT.length uc,.int .i64 (AJ k.zX j).root] 74);have NE:=yv wr (.cells #[.slice ua (AJ k.zX j).zT.length uc,.int .i64 (AJ k.zX j).root] 74);have S7:=AA (S6.out.below dd);have fQ:(j:Int)<3:=by omega
    obtain⟨y0,_,_,_,_,_,_⟩:=S7.out.ys;obtain⟨x0,x1,_,_⟩:=S7.out.xs;obtain⟨ez,ae,_,_⟩:=S7.out.lts;have ey:=zA HK.out bb;have RM:=Bf.below S6.out.yI.2.2.rd.1 dd;have fn:BS _ _ k.zZ:=S7.out.yI.2.2.2.1.rd;have R7:=BD.below R dd;have fx:=AA NE;have e6:=AW NE;have n0:=yi _ _ 0 _ _ _ NE;have n1:=yi _ _ 1 _ _ _ NE;have gr:=AA dd;clear dd NE R;go_wp2_with fail;clear D0 D1;generalize wr.alloc _=W7 at*;obtain⟨qe,hqe⟩:∃q,q=wr.heap.size:=⟨_,rfl⟩
    rw[<-hqe] at fx e6 n0 n1 ⊢;have CX:=AA (λW (hW:Below W7.heap.size W7 W)=>Tf _ k.mem (AJ k.zX j).root W (RM.below hW) (At HK.out).1 ey);have dj:=gr.out;obtain⟨bu,hbu⟩:∃b,(BZ k.mem (AJ k.zX j).root).contains an=b:=⟨_,rfl⟩
    have dS:=AA hbu;clear hbu hqe;refine BN 10 188 [.p w.heap.size 0,.p g 0,.p g 0,.p g 0,.s gm 12 ay,.p qe 1,.i ((AJ k.zX j).root),.z,.i ((an:Int)),.b bu] (λix vv ww=>match ix with
     |7=>GX wr.heap.size k.mem (AJ k.zX j).root ww vv
     |_=>True) ?_ ?_ ?_
    .intro i hi o ho a wx Hb Hd hG K HK
     match i,hi with
     |0,_|2,_|3,_|5,_|8,_=>exact sP ho HK Hb Hd
     |1,_=>exact sL ho HK Hb Hd (hl:=Um (bc hG ez y0))
     |4,_=>exact sL ho HK Hb Hd (hl:=GT (bc hG ae x0))
     |6,_=>exact sL ho HK Hb Hd (hl:=Fp (bc hG e6 n1))
     |7,_=>exact sC ho HK Hb Hd (CX.out _ hG) (by rintro e w_ ⟨v',dX,rfl,hO,b9,_,bB⟩;exact⟨_,rfl,⟨dX,BO hO (yB dj.size hG.size),b9⟩,bB⟩)
     |9,_=>obtain rfl:=yF ho;have d7:GX wr.heap.size k.mem (AJ k.zX j).root wx (a.tmps[111]?.getD undef):=BM Hd 7;have d8:(a.tmps[112]?.getD undef)=.int .i64 an:=BM Hd 8;clear Hd Hb;generalize e111:a.tmps[111]?.getD undef=v2 at d7;obtain⟨dX,hO,b9⟩:=d7;have CC:=BK (NX v2 dX (an:Int) wx (AF.rd hO));rw[Qp b9,dS.out] at CC;refine yE ?_;go_simp;refine CC.mono ?_;rintro e w_ ⟨rfl,bB⟩;exact HK.out _ _ rfl bB
    .intro i hi vv wz dT bA hz
     match i,hi with
     |7,_=>exact(GX.below hz bA)
     |0,_|1,_|2,_|3,_|4,_|5,_|6,_|8,_|9,_=>exact hz
    .intro vs wx hR hG
     have q9:(vs 9)=.bool bu:=BW hR 9;clear hR;simp only[Aj,Ae,yC,yz,yy,yw,q9];simp;clear q9;have ct:=dj.trans (hG.mono dj.size);cases bu
     .have HU:=AA (WY dS.out)
      have dn:=AA (HO.out.below ct);have dQ:=AA (ad.out.trans (ct.mono ad.out.size));clear hG ct y0 x0 x1 n0 n1 dj RM fn R7;go_wp2_with fail;go_roundw
      case rel=>exact⟨j+1,by omega,by go_num,by rw[HU.out];exact dn.out,dQ.out,by rw[HU.out];exact bm.out⟩
      case measure=>simp[intOf];omega
     .have HU:=AA (U8 dS.out)
      have c7:j∈Fd k an:=by rw[<-Ij];exact wY.2 ⟨xU.2 bb,dS.out⟩
      have dn:=HO.out.below ct;have dQ:=AA (ad.out.trans (ct.mono ad.out.size));have b1:=AE wx (.cells #[.int .i64 j] 3);have O1:=AA (show(wx.alloc (.cells #[.int .i64 j] 3)).ownsRow W5.heap.size 3 1 (.slice bt (EI k an j).length bs) (EI k an j).length ((A0 (EI k an j)).map (yf .i64)) by have:=dn.below b1;unfold AF at this;rwa [Cd] at this);have L1:=AA (show Rd (wx.alloc (.cells #[.int .i64 j] 3)) (.slice (some ⟨wx.heap.size,0,none⟩) 1 1) 1 1 ((A0 [j]).map (yf .i64)) from AF.rd (LR wx (j:Int)));have s5:=dQ.out.size;have fP:=AA (show ∀b,(xF bt (EI k an j).length bs).ownBlock=some b->W5.heap.size<=b from λb hb=>(yq HO.out b hb).1);have S8:=AA ((S7.out.below hG).below b1);have cn:=AA (AC (AC fx.out hG) b1);have Rx:=AA (BD.below (BD.below R7 hG) b1);have gM:=AA dn;have gx:=AA (dQ.out.trans (b1.mono s5));clear hG ct y0 x0 x1 n0 n1 dj RM fn R7 dn b1;go_wp2_with (at_builtin;go_must (refine El (lo:=W5.heap.size) (v:=.slice bt (EI k an j).length bs) (n:=(EI k an j).length) (xs:=(A0 (EI k an j)).map (yf .i64)) (m:=1) (news:=(A0 [j]).map (yf .i64)) rfl rfl 3 (.int .i64 0) 1 8 underlying29 Tryz.zI rfl (by decide) rfl O1.out rfl L1.out LP (by unfold maxLen;omega) (by omega) (by simp;omega) ?_;intro gF W9 dz cq dy;have y0:=(F5 (o:=0) cq S8.out.lts.1 (Dg O1.out S8.out.yK (by decide))).trans S8.out.ys.1;have n0:=(F5 (o:=0) cq (AW cn.out) (Dg O1.out cn.out (by decide))).trans (yi _ _ 0 _ _ _ cn.out)));have cz:=AA (gx.out.trans dy);have S9:=AA (S5.out.below cz.out);have O9:=AA (Mh (a:=EI k an j) (b:=[j]) dz);have dr:=K9 g _ _ _ (AJ k.zX j).zT ts k.zZ W9 S9.out.xs.2.1 (BD.below gt.out cz.out) (BD.below S5.out.yI.2.2.2.1.rd cz.out) (Aw.below (AF.rd dm.out) cz.out) (λg hg=>by rw[HK.out.len];exact Ht.out g hg);rw[Fv Hm.out] at dr;clear y0 n0 dz cq dy O1 L1;cases ab:BG k.zZ (DK k c1) (AJ k.zX j).zT
      .have fo:=AA ab
       have E:=AA (show Gz k ⟨k1,(en:Int),(an:Int),(bn:Int),c1,nm⟩=(k,0,1) by rw[b5.out,if_pos (List.all_eq_false.2 ⟨j,c7,by rw[ab];decide⟩)]);rw[ab] at dr;clear ab;refine dr.mono ?_;rintro r dU ⟨rfl,bf⟩;go_wp2_with fail;go_ret;exact Gl.bad E.out (by decide) (S9.out.below bf).bel
      .have fo:=AA ab
       rw[ab] at dr;clear ab;refine dr.mono ?_;rintro r dU ⟨rfl,bf⟩;have gp:=AA (O9.out.below bf);have gz:=AA (cz.out.trans (bf.mono cz.out.size));clear bf;go_wp2_with fail;go_roundw
       case rel=>exact⟨j+1,by omega,by go_num,by rw[HU.out];exact gp.out,gz.out,λe he=>by
        rw[HU.out,wC,xx] at he
        rcases he with he|rfl
        .exact bm.out e he
        .exact fo.out⟩
       case measure=>simp[intOf];omega
   .obtain rfl:j=3:=by omega
    rw[Ij] at HO bm ⊢;obtain⟨us,hus⟩:∃us,us=Fd k an:=⟨_,rfl⟩
    have fL:us.length<=3:=by rw[hus,<-Ij];exact Lb
    rw[<-hus] at HO bm ⊢;have cy:=AA (show Gz k ⟨k1,(en:Int),(an:Int),(bn:Int),c1,nm⟩=_ by rw[b5.out,if_neg (by rw[Bool.not_eq_false,List.all_eq_true,<-hus];exact bm.out)]);rw[<-hus] at cy;clear hus fT;obtain⟨W6,rfl⟩:∃W6:World,W6=wr:=⟨_,rfl⟩
    go_wp2_with fail
    first
    |have CM:=UB (w1:=W6) (λW hW=>Y1 (S6.out.below hW).yI ⟨k1,(en:Int),(an:Int),(bn:Int),c1,nm⟩ (zS k.zZ f).g (by simp) (by rw[HK.out.zN];simp only;omega))
     simp only[Aa.on,Aa.onCells] at CM;obtain⟨y0,y1,y2,y3,y4,y5,y6⟩:=S6.out.ys;replace y0:=xY y0;replace y1:=xY y1;replace y2:=xY y2;replace y3:=xY y3;replace y4:=xY y4;replace y5:=xY y5;replace y6:=xY y6;have x1:=xY S6.out.xs.2.1;have dg:=xY (S6.out.zS (f:=f) (by rw[HK.out.len];exact be)).2.1;cases b8:Fb k (en:Int) (zS k.zZ f).g
     .have fy:=AA b8
      have E:=AA (show Gz k ⟨k1,(en:Int),(an:Int),(bn:Int),c1,nm⟩=(k,0,1) by rw[cy.out,if_pos ⟨cl.out,by rw[HF.out];exact b8⟩]);rw[b8] at CM;clear b8;refine Bo ?_
      repeat(go_big_quiet_step (exact CM _ _))
      refine Bn λwq bq=>?_
      clear y0 y1 y2 y3 y4 y5 y6 x1 dg;go_wp2_with fail;go_ret;exact Gl.bad E.out (by decide) (S6.out.below bq).bel
     have fy:=AA b8;rw[b8] at CM;clear b8;have ft:=AA (show Gz k ⟨k1,(en:Int),(an:Int),(bn:Int),c1,nm⟩=_ by rw[cy.out,if_neg (by rintro⟨_,x⟩;rw[HF.out,fy.out] at x;cases x)]);refine Bo ?_
     repeat(go_big_quiet_step (exact CM _ _))
     refine Bn λwq bq=>?_
     clear y0 y1 y2 y3 y4 y5 y6 x1 dg CM
    |have ft:=AA (show Gz k ⟨k1,(en:Int),(an:Int),(bn:Int),c1,nm⟩=_ by rw[cy.out,if_neg (by rintro⟨x,_⟩;rw[cl.out] at x;cases x)])
     refine Bo ?_
     repeat(go_big_quiet_step (fail))
     refine Bn λwq bq=>?_
    have S7:=AA (S6.out.below bq);obtain⟨W7,rfl⟩:∃W7:World,W7=wq:=⟨_,rfl⟩
    have fw:=AA (HO.out.below bq);have gH:=yB ad.out.size bq.size;obtain⟨y0,y1,y2,y3,y4,y5,y6⟩:=S7.out.ys;obtain⟨x0,_,_,_⟩:=S7.out.xs;obtain⟨gw,dl,Dw,f0,ga,Dj,ch,⟨⟨eh,ef⟩,ed,d9⟩,_,hT,SW⟩:=S7.out.mrow (At HK.out).1 (f:=an) aq;have Dv:=Dj bn bY;have fz:=ch bn;have S8:=AA (SW bn c1 bY);have eG:(bn:Int)<4:=by omega
    have fO:=AA (HK.out.word (f:=an) (i:=bn) aq bY);have fZ:gw<W5.heap.size:=by obtain⟨fl,dk,co,eD,_⟩:=S5.out.mrow (At HK.out).1 (f:=an) aq;have:=((ad.out.trans (bq.mono ad.out.size)).cell (yA _ _ co)).trans co;rw[Dw] at this;simp at this;rw[this.1];exact eD
    have fv:=AA (show AF W5.heap.size (W7.setCell ⟨gw,bn,none⟩ (.int .i64 c1)) (.slice bt us.length bs) (A0 us) from Av fw.out (Aq _ _ _ _) (by
     rcases hv:(xF bt us.length bs).ownBlock with _|b
     .exact .inl rfl
     .refine .inr λe=>?_
      cases e;have:=(yq fw.out gw hv).1;omega))
    clear bq Dj ch SW hT;go_wp2_with fail;clear y0 y1 y2 y3 y4 y5 y6 x0 Dw Dv fz;generalize W7.setCell _ _=W8 at*;have CR:=S8.out.refer (Ar k.mem an bn) (-1) (by have:=fO.out.2;omega) HK.out.len (.inr rfl) ((MY (At HK.out).2.1).mono (by decide));simp only[Aa.on,Aa.onCells] at CR;refine CR.mono ?_;rintro r w9 ⟨rfl,S9,fh⟩;have S9:=AA S9;have f4:=S5.out.zl;have fu:=AA (show AF W5.heap.size w9 (.slice bt us.length bs) (A0 us) from Av fv.out fh (by
     rcases hv:(xF bt us.length bs).ownBlock with _|b
     .exact .inl rfl
     .refine .inr λe=>?_
      cases e;have:=(yq fv.out gi hv).1;omega))
    clear fh CR;obtain⟨y0,y1,y2,y3,y4,y5,y6⟩:=S9.out.ys;go_wp2_with fail;clear y0 y1 y2 y3 y4 y5 y6;have CR:=S9.out.refer c1 1 al (by simp only[Cg];exact HK.out.len) (.inl rfl) (JR.mono (JR.refer (MY (At HK.out).2.1) HK.out.len (.inr rfl)) (by decide));simp only[Aa.on,Aa.onCells] at CR;refine CR.mono ?_;rintro r dU ⟨rfl,eN,da⟩;have eN:=AA eN;have eP:=AA (show AF W5.heap.size dU (.slice bt us.length bs) (A0 us) from Av fu.out da (by
     rcases hv:(xF bt us.length bs).ownBlock with _|b
     .exact .inl rfl
     .refine .inr λe=>?_
      cases e;have:=(yq fu.out gi hv).1;omega))
    have f6:=S5.out.lts.2.1;clear da CR;go_wp2_with fail;go_loopw [172] (λb6 wr=>∃j:Nat,j<=us.length/\b6=.int .i64 j/\AF W5.heap.size wr (.slice bt us.length bs) (A0 us)/\∃c',CS lo g w.heap.size ⟨k1,(en:Int),(an:Int),(bn:Int),c1,nm⟩ w wr (.slice (some ⟨gm,0,none⟩) 12 ay) (.slice (some ⟨gi,0,none⟩) 12 bC) (.slice (some ⟨ge,0,none⟩) 3 ci) c' {k with mem:=CZ k.mem an bn c1,zZ:=A4 (A4 k.zZ (Ar k.mem an bn) (-1)) c1 1,zW:=Gf (us.take j) k.zW}) (λb6 _=>us.length - (intOf b6).toNat)
    case atStart=>exact⟨0,yh _,rfl,eP.out,c,eN.out⟩
    case round=>
     obtain⟨j,hj,rfl,hO,c',hS⟩:=hrel;have HOr:=AA hO;have S:=AA hS;clear hS
     by_cases bb:j<us.length
     .obtain⟨ax,cx,eu,_,_,H0⟩:=hO.rd.open
      rw[Cd] at eu;simp only[Value.slice.injEq] at eu;obtain⟨rfl,_,rfl⟩:=eu;obtain⟨bx,fE,rfl,DX⟩:=H0.at (k:=j) (by rw[Cd];exact bb);rw[Ps bb] at DX;obtain⟨un,hun⟩:∃u,u=us.getD j 0:=⟨_,rfl⟩
      rw[<-hun] at DX;have gs:=AA hun;obtain⟨cc,hcc'⟩:∃cc,cc=Gf (us.take j) k.zW:=⟨_,rfl⟩
      have fA:=AA hcc';clear hun;have fW:(j:Int)<us.length:=by omega
      obtain⟨y0,_,_,_,_,_,_⟩:=S.out.ys;obtain⟨_,_,_,x3⟩:=S.out.xs;obtain⟨ez,ae,fG,fH⟩:=S.out.lts;have RC:Dz wr c' cc:=by rw[hcc'];exact S.out.yI.2.2.2.2.2.rd
      clear hcc';have CD:=AA (λW (hW:Below wr.heap.size wr W)=>Qh c' cc (un:Int) W (BD.below RC hW) (by rw[fA.out];exact Ri _ (At HK.out).2.2));clear RC H0 hO;go_wp2_with fail;clear DX;refine BN 11 188 [.p w.heap.size 0,.p g 0,.p w.heap.size 0,.p g 0,.p g 0,.p g 3,.v c',.i ((un:Int)),.z,.p g 0,.p g 3] (λix vv ww=>match ix with
       |8=>AQ wr.heap.size 112 4 Ag ww vv (Fz cc (un:Int))
       |_=>True) ?_ ?_ ?_
      .intro i hi o ho a wx Hb Hd hG K HK
       have cY:=bc hG ez y0;have cX:=bc hG ae x3
       match i,hi with
       |0,_|2,_|4,_|5,_|7,_|9,_|10,_=>exact sP ho HK Hb Hd
       |1,_|3,_=>exact sL ho HK Hb Hd (hl:=Um ‹_›)
       |6,_=>exact sL ho HK Hb Hd (hl:=Zp ‹_›)
       |8,_=>exact sC ho HK Hb Hd (CD.out _ hG) (by rintro e w_ ⟨v',rfl,hO,bB⟩;exact⟨_,rfl,(hO.lower hG.size),bB⟩)
      .intro i hi vv wz dT bA hz
       match i,hi with
       |8,_=>exact(AQ.below hz bA)
       |0,_|1,_|2,_|3,_|4,_|5,_|6,_|7,_|9,_|10,_=>exact hz
      .intro vs wx hR hG
       have q1:(vs 1)=.pointer (some ⟨g,0,none⟩):=BW hR 1;have q8:AQ wr.heap.size 112 4 Ag wx (vs 8) (Fz cc (un:Int)):=BW hR 8;have q9:(vs 9)=.pointer (some ⟨g,0,none⟩):=BW hR 9;have cC:(vs 10)=.pointer (some ⟨g,3,none⟩):=BW hR 10;clear hR;simp only[Aj,Ae,yC,yz,yy,yw,q1,q9,cC];simp;generalize vs 8=z8 at q8 ⊢;clear q1 q9 cC;rw[fA.out,gs.out,<-OI bb] at q8;have S8:=AA (S.out.zW hG q8);have gu:=AA (Nt (j:=3) (u:=z8) (AF.below HOr.out hG) f6);have gP:=AK (S.out.below hG).yI.1;have gE:=(S.out.below hG).xs.2.2.2;obtain⟨_,_,rfl,_,_⟩:=q8.rd.shape;clear q8 hG y0 x3;go_wp2_with fail;go_roundw
       case rel=>exact⟨j+1,by omega,by go_num,gu.out,_,S8.out⟩
       case measure=>simp[intOf];omega
     .obtain rfl:j=us.length:=by omega
      rw[List.take_length] at S;have HE:=AA (show Gz k ⟨k1,(en:Int),(an:Int),(bn:Int),c1,nm⟩=({k with mem:=CZ k.mem an bn c1,zZ:=A4 (A4 k.zZ (Ar k.mem an bn) (-1)) c1 1,zW:=Gf us k.zW},0,0) from ft.out);go_wp2_with fail;go_ret;exact⟨by rw[HE.out]<;>rfl,λ_=>⟨_,_,_,_,by rw[HE.out];exact S.out.yI⟩,S.out.bel⟩
def GR(k:AN)(c:Aa):ML:=
 if c.k=2 then J4 k c
 else if c.k=3 then KB k c
 else if c.k=4 then EH k (Hy k.mem k.zZ c.a.toNat c.b (AJ k.zX c.e.toNat).zT)
 else if c.k=5 then EH k (Dm k.mem k.zZ c.a.toNat)
 else Gz k c
theorem Vg{lo g:Nat}{w:World}{m i e c:Value}{k:AN}(h:Im lo w g m i e c k)(ai:lo<=w.heap.size)(hK:DJ k)(call:Aa)(he:0<=call.e)(hn:call.e<3)(hk:call.k=2∨call.k=3∨call.k=6)(ha:0<=call.a/\call.a<12)(al:call.c<=9223372036854775807):
 Calls prog 166 #[call.on g] w (Gl lo g w (GR k call)):=by
 have S0:=ET.start h ai call;have P:GR k call=if call.k=2 then J4 k call else if call.k=3 then KB k call else if call.k=4 then EH k (Hy k.mem k.zZ call.a.toNat call.b (AJ k.zX call.e.toNat).zT) else if call.k=5 then EH k (Dm k.mem k.zZ call.a.toNat) else Gz k call:=rfl
 have dq:=λ(W:World) (hW:Below (w.alloc (.cells (call.onCells g) 126)).heap.size (w.alloc (.cells (call.onCells g) 126)) W)=>ZK (S0.below hW).yI (S0.below hW).lo hK call he hn ha al
 obtain⟨k1,e1,a1,b1,c1,nm⟩:=call;obtain⟨en,rfl⟩:∃n:Nat,e1=(n:Int):=⟨e1.toNat,by simp only at he;omega⟩
 obtain⟨an,rfl⟩:∃n:Nat,a1=(n:Int):=⟨a1.toNat,by simp only at ha;omega⟩
 have dI:en<3:=by simp only at hn;omega
 have aq:an<12:=by simp only at ha;omega
 simp only[Aa.on,Aa.onCells] at S0 P hk dq ⊢;simp only[yb] at P;obtain⟨ge,ci,e9,_,⟨⟨cU,cS⟩,cR,cQ⟩,_⟩:=S0.zX (by rw[hK.zN];omega);rw[hK.zN] at e9;obtain⟨gi,bC,e8,_,_,⟨⟨cO,cM⟩,cL,cK⟩,_⟩:=S0.zZ (by rw[hK.len];omega);rw[hK.len] at e8;obtain⟨gm,ay,e7,_,⟨cJ,cI⟩,cH,cG⟩:=S0.mems (At hK).1;subst e7 e8 e9;obtain⟨y0,y1,y2,y3,y4,y5,y6⟩:=S0.ys;obtain⟨x0,x1,x2,x3⟩:=S0.xs;obtain⟨d0,d1,d2⟩:=S0.zS (f:=an) (by rw[hK.len];exact aq);have gd:(an:Int)<12:=by omega
 obtain⟨dE,c9,fG,fH⟩:=S0.lts;have HK:=AA hK;have HS:=AA S0;clear hK h S0 ai he hn
 rcases hk with rfl|rfl|rfl
 .have HP:=AA (show GR k ⟨2,(en:Int),(an:Int),b1,c1,nm⟩=J4 k ⟨2,(en:Int),(an:Int),b1,c1,nm⟩ from P)
  have HG:=AA (show J4 k ⟨2,(en:Int),(an:Int),b1,c1,nm⟩=if(zS k.zZ an).k≠1 then(k,0,3) else if(zS k.zZ an).r≠0 then(k,0,2) else({k with zZ:=k.zZ.set an AU.zero},0,0) from rfl);clear P dq
  by_cases h1:(zS k.zZ an).k=1
  .have t1:((zS k.zZ an).k==1)=true:=by simp[h1]
   by_cases h2:(zS k.zZ an).r=0
   .have E:=AA (show GR k ⟨2,(en:Int),(an:Int),b1,c1,nm⟩=({k with zZ:=k.zZ.set an AU.zero},0,0) by rw[HP.out,HG.out,if_neg (by simp[h1]),if_neg (by simp[h2])])
    have H1:=AA h1;have H2:=AA h2;clear h1 h2;go_in;go_wp2_with fail;generalize w.alloc _=W0 at*;have CG:=AA (Ql _ k.zZ an W0 HS.out.yI.2.2.2.1.rd (At HK.out).2.1 aq H1.out H2.out);refine CG.out.mono ?_;rintro r w1 ⟨v',rfl,hO,hb⟩;have S2:=AA (HS.out.zm hb hO);have fz:=AK (HS.out.below hb).yI.1;have x1:=(HS.out.below hb).xs.2.1;have y0:=(HS.out.below hb).ys.1;obtain⟨_,_,rfl,_,_⟩:=hO.rd.shape;rw[xS] at S2;clear hO hb;go_wp2_with fail;go_ret;exact⟨by rw[E.out]<;>rfl,λ_=>⟨_,_,_,_,by rw[E.out];exact S2.out.yI⟩,S2.out.bel⟩
   .have E:=AA (show GR k ⟨2,(en:Int),(an:Int),b1,c1,nm⟩=(k,0,2) by rw[HP.out,HG.out,if_neg (by simp[h1]),if_pos h2])
    have H1:=AA h1;have H2:=AA h2;clear h1 h2;go_in;go_wp2_with fail;generalize w.alloc _=W0 at*;have CG:=AA (Sm _ k.zZ an W0 HS.out.yI.2.2.2.1.rd (At HK.out).2.1 aq H1.out H2.out);refine CG.out.mono ?_;rintro r w1 ⟨rfl,hb⟩;have S2:=AA (HS.out.below hb);go_wp2_with fail;go_ret;exact Gl.bad E.out (by decide) S2.out.bel
  .have t1:((zS k.zZ an).k==1)=false:=by simp[h1]
   have E:=AA (show GR k ⟨2,(en:Int),(an:Int),b1,c1,nm⟩=(k,0,3) by rw[HP.out,HG.out,if_pos h1]);clear h1;go_in;go_wp2_with fail;go_ret;exact Gl.bad E.out (by decide) HS.out.bel
 .have HP:=AA (show GR k ⟨3,(en:Int),(an:Int),b1,c1,nm⟩=KB k ⟨3,(en:Int),(an:Int),b1,c1,nm⟩ from P)
  have HG:=AA (show KB k ⟨3,(en:Int),(an:Int),b1,c1,nm⟩=if(zS k.zZ an).k≠1∨Be b1 0 3=false∨EA c1=false then(k,0,3) else({k with mem:=CZ k.mem an b1.toNat c1},0,0) from rfl);clear P dq;have C0:=AA (λW=>BK (OK b1 W));have C1:=AA (λW=>BK (Pc c1 W))
  by_cases h1:(zS k.zZ an).k=1
  .have t1:((zS k.zZ an).k==1)=true:=by simp[h1]
   have H1:=AA h1;clear h1;go_in;go_wp2_with fail;generalize w.alloc _=W0 at*;cases h2:Be b1 0 3
   .have E:=AA (show GR k ⟨3,(en:Int),(an:Int),b1,c1,nm⟩=(k,0,3) by rw[HP.out,HG.out,if_pos (.inr (.inl h2))])
    have T:=AA h2;clear h2;refine(C0.out _).mono ?_;rintro r w1 ⟨rfl,hb⟩;rw[T.out];have S2:=AA (HS.out.below hb);clear y0 y1 y2 y3 y4 y5 y6 x0 x1 x2 x3 d0 d1 d2;go_wp2_with fail;go_ret;exact Gl.bad E.out (by decide) S2.out.bel
   .have T:=AA h2
    have gb:=Ab.1 h2;obtain⟨bn,rfl⟩:∃n:Nat,b1=(n:Int):=⟨b1.toNat,by omega⟩
    have bY:bn<4:=by omega
    clear h2 gb;refine(C0.out _).mono ?_;rintro r W1 ⟨rfl,hb⟩;rw[T.out];have S1:=AA (HS.out.below hb);clear y0 y1 y2 y3 y4 y5 y6 x0 x1 x2 x3 d0 d1 d2 hb;obtain⟨y0,y1,y2,y3,y4,y5,y6⟩:=S1.out.ys;go_wp2_with fail;cases h3:Be c1 0 9999
    .have E:=AA (show GR k ⟨3,(en:Int),(an:Int),(bn:Int),c1,nm⟩=(k,0,3) by rw[HP.out,HG.out,if_pos (.inr (.inr h3))])
     have T3:=AA h3;clear h3;refine(C1.out _).mono ?_;rintro r w1 ⟨rfl,hb⟩;rw[T3.out];have S2:=AA (S1.out.below hb);clear y0 y1 y2 y3 y4 y5 y6;go_wp2_with fail;go_ret;exact Gl.bad E.out (by decide) S2.out.bel
    .have T3:=AA h3
     have E:=AA (show GR k ⟨3,(en:Int),(an:Int),(bn:Int),c1,nm⟩=({k with mem:=CZ k.mem an bn c1},0,0) by rw[HP.out,HG.out,if_neg (by rintro(x|x|x);(· exact x H1.out);(· rw[T.out] at x;cases x);(· rw[show EA c1=true from h3] at x;cases x)),yb]);clear h3;refine(C1.out _).mono ?_;rintro r W2 ⟨rfl,hb⟩;rw[T3.out];have S2:=AA (S1.out.below hb);clear y0 y1 y2 y3 y4 y5 y6 hb;obtain⟨y0,_,_,_,y4,y5,_⟩:=S2.out.ys;obtain⟨x0,_,_,_⟩:=S2.out.xs;obtain⟨dE,c9,_,_⟩:=S2.out.lts;obtain⟨gw,dl,Dw,f0,ga,Dj,ch,⟨⟨eh,ef⟩,ed,d9⟩,_,_,_⟩:=S2.out.mrow (At HK.out).1 (f:=an) aq;have c8:=yA _ _ Dw;have eG:(bn:Int)<4:=by omega
     clear Dj ch;go_wp2_with fail;refine AY 15 139 [.p w.heap.size 0,.p g 0,.p g 0,.p g 0,.s gm 12 ay,.i ((an:Int)),.p gm an,.s gw 4 dl,.p w.heap.size 1,.p w.heap.size 4,.i ((bn:Int)),.p w.heap.size 1,.p w.heap.size 5,.i c1,.p gw bn] (λ_ _ _=>True) ?_ ?_
     .intro i hi o ho a wx Hb Hd hG K HK
      have cW:=bc hG dE y4;have cV:=bc hG dE y5
      match i,hi with
      |0,_|2,_|3,_|5,_|8,_|9,_|11,_|12,_=>exact sP ho HK Hb Hd
      |1,_=>exact sL ho HK Hb Hd (hl:=Um (bc hG dE y0))
      |4,_=>exact sL ho HK Hb Hd (hl:=GT (bc hG c9 x0))
      |6,_|14,_=>exact sI ho HK Hb Hd (hr:=by clear Hd Hb HK;go_simp)
      |7,_=>exact sL ho HK Hb Hd (hl:=J5 (bc hG c8 Dw))
      |10,_|13,_=>exact sL ho HK Hb Hd (hl:=Fp ‹_›)
      |_+15,hq=>omega
     .intro vs wx hR hG
      have eV:(vs 13)=.int .i64 c1:=BW hR 13;have eU:(vs 14)=.pointer (some ⟨gw,bn,none⟩):=BW hR 14;clear hR;simp only[Aj,Ae,yC,yz,yy,yw,eV,eU];simp;clear eV eU;have S3:=AA (S2.out.below hG);obtain⟨fl,dk,co,_,_,Dj,ch,_,_,_,SW⟩:=S3.out.mrow (At HK.out).1 (f:=an) aq;have bN:=(hG.cell (p:=⟨gm,an,none⟩) c8).trans Dw;rw[bN] at co;have ff:gw=fl:=by simp at co;exact co.1
      subst ff;have Dv:=Dj bn bY;have fz:=ch bn;have S4:=AA (SW bn c1 bY);clear hG y0 y4 y5 x0 Dw co bN Dj ch SW;go_wp2_with fail;go_ret;exact⟨by rw[E.out]<;>rfl,λ_=>⟨_,_,_,_,by rw[E.out];exact S4.out.yI⟩,S4.out.bel⟩
  .have t1:((zS k.zZ an).k==1)=false:=by simp[h1]
   have E:=AA (show GR k ⟨3,(en:Int),(an:Int),b1,c1,nm⟩=(k,0,3) by rw[HP.out,HG.out,if_pos (.inl h1)]);clear h1;go_in;go_wp2_with fail;go_ret;exact Gl.bad E.out (by decide) HS.out.bel
 .have HP:=AA (show GR k ⟨6,(en:Int),(an:Int),b1,c1,nm⟩=Gz k ⟨6,(en:Int),(an:Int),b1,c1,nm⟩ from P)
  have gv:=AA dq;clear P dq d1 d2
  by_cases h1:(zS k.zZ an).k=1
  all_goals
   first
   |have t1:((zS k.zZ an).k==1)=true:=by simp[h1]
   |have t1:((zS k.zZ an).k==1)=false:=by simp[h1]
   clear h1;go_in;go_wp2_with fail;generalize w.alloc _=W0 at*;refine(gv.out W0 (yD _ _)).mono ?_;rintro r w1 ⟨rfl,gh,hb⟩;go_wp2_with fail;go_ret;exact⟨by rw[HP.out]<;>rfl,λh=>by rw[HP.out] at h ⊢;exact gh h,(HS.out.bel).trans hb⟩
theorem ZL{k:AN}{c:Aa}:(Gz k c).2.1=0:=by
 unfold Gz
 split
 .rfl
 .split
  .rfl
  .split<;>rfl
theorem OW{k:AN}{r:List AU×Int}:(EH k r).2.1=0:=by
 unfold EH
 split<;>rfl
theorem Vh{k:AN}{c:Aa}:(GR k c).2.1=0:=by
 unfold GR
 split
 .unfold J4
  split
  .rfl
  .split<;>rfl
 .split
  .unfold KB
   split<;>rfl
  .split
   .exact OW
   .split
    .exact OW
    .exact ZL
theorem Gl.two{lo g:Nat}{w:World}{res:ML}{r:Ending}{w':World}(h:Gl lo g W res r w')(hv:res.2.1=0)(hb:Below lo w W):∃n,r=.returned (.int .i64 n)/\JO lo g w res (.returned (.tuple #[.int .i64 0,.int .i64 n])) w':=by obtain⟨h1,h2,h3⟩:=h;exact⟨_,h1,by rw[hv],h2,hb.trans h3⟩
theorem JO.of{lo g:Nat}{w:World}{res:ML}{r:Ending}{w':World}(h:JO lo g W res r w')(hb:Below lo w W):∃v n,r=.returned (.tuple #[.int .i64 v,.int .i64 n])/\JO lo g w res (.returned (.tuple #[.int .i64 v,.int .i64 n])) w':=by obtain⟨h1,h2,h3⟩:=h;exact⟨_,_,h1,rfl,h2,hb.trans h3⟩
theorem Rm{k:AN}{c:Aa}:Gh k c=if Be c.a 0 11=false∨(zS k.zZ c.a.toNat).k=0∨(c.k=4/\Bd c.b=false) then(k,0,3) else if Fb k c.e (zS k.zZ c.a.toNat).g=false then(k,0,1) else GR k c:=rfl
theorem Rn{k:AN}{c:Aa}(h:Be c.a 0 11=false∨(zS k.zZ c.a.toNat).k=0∨(c.k=4/\Bd c.b=false)):Gh k c=(k,0,3):=Rm.trans (if_pos h)
theorem Yd{k:AN}{c:Aa}(h1:Be c.a 0 11=true)(h2:(zS k.zZ c.a.toNat).k≠0)(h3:c.k=4->Bd c.b=true):Gh k c=if Fb k c.e (zS k.zZ c.a.toNat).g=false then(k,0,1) else GR k c:=
 Rm.trans (if_neg (by rintro(x|x|⟨x,y⟩);(· rw[h1] at x;cases x);(· exact h2 x);(· rw[h3 x] at y;cases y)))
def Jk(c:Aa):Prop:=(c.k=2∨c.k=3∨c.k=6)∨c.k=1
theorem Zk{lo g:Nat}{w:World}{m i e c:Value}{k:AN}(h:Im lo w g m i e c k)(ai:lo<=w.heap.size)(hK:DJ k)(call:Aa)(he:0<=call.e)(hn:call.e<3)(b7:call.nm.size<=maxLen)(ao:Jk call)(al:call.c<=9223372036854775807):
 Calls prog 116 #[call.on g] w (JO lo g w (Ad k call)):=by
 have S0:=ET.start h ai call;obtain⟨k1,e1,a1,b1,c1,nm⟩:=call;obtain⟨en,rfl⟩:∃n:Nat,e1=(n:Int):=⟨e1.toNat,by simp only at he;omega⟩
 have dI:en<3:=by simp only at hn;omega
 simp only[Aa.on,Aa.onCells] at S0 b7 al ⊢;obtain⟨ge,ci,e9,_,⟨⟨cU,cS⟩,cR,cQ⟩,_⟩:=S0.zX (by rw[hK.zN];omega);rw[hK.zN] at e9;obtain⟨gi,bC,e8,_,_,⟨⟨cO,cM⟩,cL,cK⟩,_⟩:=S0.zZ (by rw[hK.len];omega);rw[hK.len] at e8;obtain⟨gm,ay,e7,_,⟨cJ,cI⟩,cH,cG⟩:=S0.mems (At hK).1;subst e7 e8 e9;obtain⟨y0,y1,y2,y3,y4,y5,y6⟩:=S0.ys;obtain⟨x0,x1,x2,x3⟩:=S0.xs;have HK:=AA hK;have HS:=AA S0;clear hK h S0 ai he hn;have CY:=λ(W:World)(mm ii ee cc:Value)(h:Im lo W g mm ii ee cc k)(an:Nat)=>Y1 h ⟨k1,(en:Int),(an:Int),b1,c1,nm⟩ (zS k.zZ an).g (by simp) (by rw[HK.out.zN];simp only;omega)
 simp only[Aa.on,Aa.onCells] at CY;replace CY:=AA CY;unfold Jk at ao;simp only at ao
 rcases ao with ao|ao
 .have HP:=AA (show Ad k ⟨k1,(en:Int),a1,b1,c1,nm⟩=Gh k ⟨k1,(en:Int),a1,b1,c1,nm⟩ by rcases ao with rfl|rfl|rfl<;>rfl)
  have CF:=λ(W:World)(mm ii ee cc:Value)(h:Im lo W g mm ii ee cc k)(hl:lo<=W.heap.size)(an:Nat)(ha:an<12)(_:True)=>Vg h hl HK.out ⟨k1,(en:Int),(an:Int),b1,c1,nm⟩ (by simp) (by simp only;omega) ao (by simp only;omega) al
  simp only[Aa.on,Aa.onCells] at CF;replace CF:=AA CF;have HF:=True.intro
  rcases ao with rfl|rfl|rfl
  all_goals
   go_in;go_wp2_with fail;generalize w.alloc _=W0 at*;have cF:=Wy (w1:=W0) (λW=>Es a1 W);have cT:=Wy (w1:=W0) (λW=>Ic b1 W);replace y0:=xY y0;replace y1:=xY y1;replace y2:=xY y2;replace y3:=xY y3;replace y4:=xY y4;replace y5:=xY y5;replace y6:=xY y6;replace x1:=xY x1;clear x0 x2 x3;cases bz:Be a1 0 11
   .have E:=AA (HP.out.trans (Rn (.inl bz)))
    rw[bz] at cF;have d0:=y0;have d1:=y0;refine Bo ?_
    repeat(go_big_quiet_step (first|exact cF _ _|exact cT _ _))
    refine Bn λwq bq=>?_
    clear y0 y1 y2 y3 y4 y5 y6 x1 d0 d1;go_wp2_with fail;go_ret2;exact JO.bad E.out (by decide) (HS.out.below bq).bel
   have T:=AA bz;rw[bz] at cF;obtain⟨an,rfl⟩:∃n:Nat,a1=(n:Int):=⟨a1.toNat,by have:=(Ab.1 bz).1;omega⟩
   have aq:an<12:=by have:=(Ab.1 bz).2;omega
   have gf:(an:Int)<12:=by omega
   clear bz;obtain⟨d0,d1,_⟩:=HS.out.zS (f:=an) (by rw[HK.out.len];exact aq);replace d0:=xY d0;replace d1:=xY d1
   by_cases h0:(zS k.zZ an).k=0
   .have E:=AA (HP.out.trans (Rn (.inr (.inl h0))))
    have t0:((zS k.zZ an).k==0)=true:=by simp[h0]
    clear h0;refine Bo ?_
    repeat(go_big_quiet_step (first|exact cF _ _|exact cT _ _))
    refine Bn λwq bq=>?_
    clear y0 y1 y2 y3 y4 y5 y6 x1 d0 d1;go_wp2_with fail;go_ret2;exact JO.bad E.out (by decide) (HS.out.below bq).bel
   have t0:((zS k.zZ an).k==0)=false:=by simp[h0]
   have b5:=AA (HP.out.trans (Yd T.out h0 (by simp)));clear h0;refine Bo ?_
   repeat(go_big_quiet_step (first|exact cF _ _|exact cT _ _))
   refine Bn λwq bq=>?_
   have S1:=AA (HS.out.below bq);obtain⟨W1,rfl⟩:∃W1:World,W1=wq:=⟨_,rfl⟩
   clear y0 y1 y2 y3 y4 y5 y6 x1 d0 d1 t0 cF cT bq;obtain⟨y0,y1,y2,y3,y4,y5,y6⟩:=S1.out.ys;have x1:=S1.out.xs.2.1;obtain⟨d0,d1,_⟩:=S1.out.zS (f:=an) (by rw[HK.out.len];exact aq);have CM:=UB (w1:=W1) (λW hW=>CY.out W _ _ _ _ (S1.out.below hW).yI an);replace y0:=xY y0;replace y1:=xY y1;replace y2:=xY y2;replace y3:=xY y3;replace y4:=xY y4;replace y5:=xY y5;replace y6:=xY y6;replace x1:=xY x1;replace d1:=xY d1;cases hm:Fb k (en:Int) (zS k.zZ an).g
   .have E:=AA (b5.out.trans (if_pos hm))
    rw[hm] at CM;clear hm;go_wp2_with fail;refine Bo ?_
    repeat(go_big_quiet_step (exact CM _ _))
    refine Bn λwq bq=>?_
    clear y0 y1 y2 y3 y4 y5 y6 x1 d0 d1;go_wp2_with fail;go_ret2;exact JO.bad E.out (by decide) (S1.out.below bq).bel
   have cy:=AA (b5.out.trans (if_neg (by show ¬Fb k (en:Int) (zS k.zZ an).g=false;rw[hm];decide)));rw[hm] at CM;clear hm;go_wp2_with fail;refine Bo ?_
   repeat(go_big_quiet_step (exact CM _ _))
   refine Bn λwq bq=>?_
   have S2:=AA (S1.out.below bq);obtain⟨W2,rfl⟩:∃W2:World,W2=wq:=⟨_,rfl⟩
   clear y0 y1 y2 y3 y4 y5 y6 x1 d0 d1 bq CM;obtain⟨y0,y1,y2,y3,y4,y5,y6⟩:=S2.out.ys;go_wp2_with fail;refine(CF.out W2 _ _ _ _ S2.out.yI S2.out.lo an aq HF).mono ?_;rintro r w1 hr;obtain⟨n,rfl,hE⟩:=Gl.two hr Vh S2.out.bel;have HE:=AA hE;clear hr hE y0 y1 y2 y3 y4 y5 y6;go_wp2_with fail;go_ret2;rw[cy.out];exact HE.out
 .skip
  have HP:=AA (show Ad k ⟨k1,(en:Int),a1,b1,c1,nm⟩=Ix k ⟨k1,(en:Int),a1,b1,c1,nm⟩ by subst ao;rfl);have C:=X3 HS.out.yI HS.out.lo HK.out ⟨k1,(en:Int),a1,b1,c1,nm⟩ (by simp) (by simp only;omega) b7;simp only[Aa.on,Aa.onCells] at C;subst ao;go_in;go_wp2_with fail;generalize w.alloc _=W0 at*;refine C.mono ?_;rintro r w1 hr;obtain⟨v,n,rfl,hE⟩:=JO.of hr HS.out.bel;have HE:=AA hE;clear C;clear hr hE y0 y1 y2 y3 y4 y5 y6 x0 x1 x2 x3;go_wp2_with fail;go_ret2;rw[HP.out];exact HE.out
theorem Sw{a b:ByteArray}:LC a b=true↔a.data.toList<+:b.data.toList:=by unfold LC;exact List.isPrefixOf_iff_prefix
theorem Rg{a b c:ByteArray}(h1:LC a b=true)(h2:LC b c=true):LC a c=true:=Sw.2 ((Sw.1 h1).trans (Sw.1 h2))
def PG(k:AN)(f:Nat):Prop:=(zS k.zZ f).r=1/\((∃t i,t<12/\Bd (Ax k t)=true/\i<4/\Dd f (Ar k.mem t i)=true/\(zS k.zZ t).g=gA)∨AZ k 0=(f:Int))
def Dc(k k':AN):Prop:=(∀e,e<3->Bv (A5 k' e) gA=Bv (A5 k e) gA)/\AZ k' 0=AZ k 0/\
 ∀f,f<12->(zS k.zZ f).g=gA->Ax k f≠0->AH k'.mem f=AH k.mem f/\(zS k'.zZ f).g=gA/\(PG k f->(zS k'.zZ f).r=(zS k.zZ f).r)
theorem Dc.refl(k:AN):Dc k k:=⟨λ_ _=>rfl,rfl,λ_ _ h _=>⟨rfl,h,λ_=>rfl⟩⟩
section
variable {k:AN} (h:DJ k)
include h
theorem OV{f:Nat}(hf:f<12)(ho:PG k f)(ht:t<12)(cr:Bd (Ax k t)=true)(hg:(zS k.zZ t).g≠gA):f∉named (AH k.mem t):=λhm=>by
 obtain⟨i,hi,hn⟩:=h.named_at ht hm;obtain⟨h1,h2⟩:=ho
 rcases h2 with⟨t',i',a,b,c,d,e⟩|h2
 .have:=(h.once hf h1 ht cr hi hn a b c d).1
  subst this;exact hg e
 .exact h.zb hf h1 ht cr hi hn (e:=0) (by omega) h2
theorem WB{f e:Nat}(hf:f<12)(ho:PG k f)(he:e<3)(h0:e≠0):AZ k e≠(f:Int):=λhr=>by
 obtain⟨h1,h2⟩:=ho
 rcases h2 with⟨t',i',a,b,c,d,_⟩|h2
 .exact h.zb hf h1 a b c d he hr
 .have dB:=h.refs f hf
  rw[Gt h.zN] at dB;unfold AZ at hr h2;have:e=1∨e=2:=by omega
  unfold EC at dB
  rcases this with rfl|rfl<;>simp[hr,h2] at dB<;>split at dB<;>omega
end
theorem M7{k:AN}{e:Nat}{m:List (List Int)}{i:List AU}{c:List Al}(hl:k.zX.length=3)(ha:a<3):A5 ⟨m,i,As k.zX a (BU ss),c⟩ e=if e=a then ss else A5 k e:=by
 unfold A5
 show(AJ (As k.zX a (BU ss)) e).zT=_
 rw[GK]
 by_cases h:e=a
 .rw[if_pos ⟨h,by rw[hl];exact ha⟩,if_pos h];rfl
 .rw[if_neg (λx=>h x.1),if_neg h]
theorem QG{k:AN}{e:Nat}{m:List (List Int)}{i:List AU}{c:List Al}:AZ ⟨m,i,As k.zX a (BU ss),c⟩ e=AZ k e:=by
 unfold AZ
 show(AJ (As k.zX a (BU ss)) e).root=_
 rw[GK]
 split
 .next h=>rw[h.1];rfl
 .rfl
section
variable {k:AN} (h:DJ k) {c:Aa} (he:c.e=1∨c.e=2) (ab:∀e,1<=e->e<3->Bv (A5 k e) gA=false)
include h he ab
theorem Pn{g:ByteArray}(hm:Fb k c.e g=true):g≠gA:=λe=>by have _:=h;have _:=he;have _:=ab;subst e;have:=ab c.e.toNat (by omega) (by omega);unfold Fb at hm;unfold A5 at this;rw[hm] at this;cases this
theorem Y6{g:ByteArray}(hm:Fb k c.e g=true):LC g gA=false:=by
 have _:=h;have _:=he;have _:=ab;cases hc:LC g gA
 .rfl
 .exfalso
  obtain⟨s,hs,h1⟩:=Hv.1 hm;have:=ab c.e.toNat (by omega) (by omega);have h2:Bv (A5 k c.e.toNat) gA=true:=Hv.2 ⟨s,hs,Rg h1 hc⟩;rw[h2] at this;cases this
theorem WT:Dc k (Ix k c).1:=by
 have _:=h;have _:=he;have _:=ab;unfold Ix
 split
 .exact Dc.refl k
 .split
  .exact Dc.refl k
  .split
   .exact Dc.refl k
   .next bz=>
    obtain⟨g1,g2,g3⟩:=FU bz;refine⟨λ_ _=>rfl,rfl,λf hf hg hk=>?_⟩;have au:f≠(Am k.zZ).toNat:=λe=>by unfold Ax at hk;rw[e] at hk;exact hk g2
    show AH (k.mem.set _ _) f=_/\(zS (k.zZ.set _ _) f).g=gA/\(_->(zS (k.zZ.set _ _) f).r=_)
    rw[Nw,if_neg (λx=>au x.1),Gi,if_neg (λx=>au x.1)];exact⟨rfl,hg,λ_=>rfl⟩
theorem Vi(hA:c.a.toNat<12)(hm:Fb k c.e (zS k.zZ c.a.toNat).g=true):Dc k (J4 k c).1:=by
 have _:=h;have _:=he;have _:=ab;have av:=Pn h he ab hm;unfold J4
 split
 .exact Dc.refl k
 .split
  .exact Dc.refl k
  .refine⟨λ_ _=>rfl,rfl,λf hf hg hk=>?_⟩
   have au:f≠c.a.toNat:=λe=>av (by rw[<-e];exact hg)
   show _/\(zS (k.zZ.set _ _) f).g=gA/\(_->(zS (k.zZ.set _ _) f).r=_)
   rw[Gi,if_neg (λx=>au x.1)];exact⟨rfl,hg,λ_=>rfl⟩
theorem WE(hm:Fb k c.e (zS k.zZ c.a.toNat).g=true):Dc k (KB k c).1:=by
 have _:=h;have _:=he;have _:=ab;have av:=Pn h he ab hm;unfold KB
 split
 .exact Dc.refl k
 .refine⟨λ_ _=>rfl,rfl,λf hf hg hk=>?_⟩
  have au:f≠c.a.toNat:=λe=>av (by rw[<-e];exact hg)
  show AH (CZ _ _ _ _) f=_/\_/\_
  rw[Gu,if_neg (λx=>au x.1)];exact⟨rfl,hg,λ_=>rfl⟩
theorem ME{fs:List Nat}{n:Int}(av:(zS k.zZ a).g≠gA)(f8:∀f,f<12->(zS k.zZ f).g=gA->PG k f->f∉fs):Dc k {k with zZ:=As (Bi k.zZ fs n) a (ER kind)}:=by
 have _:=h;have _:=he;have _:=ab;refine⟨λ_ _=>rfl,rfl,λf hf hg hk=>?_⟩;have au:f≠a:=λe=>av (by rw[<-e];exact hg)
 show AH k.mem f=AH k.mem f/\(zS (As (Bi k.zZ fs n) a (ER kind)) f).g=gA/\(_->(zS (As (Bi k.zZ fs n) a (ER kind)) f).r=_)
 rw[FW,if_neg (λx=>au x.1),M5 (by rw[h.len];exact hf)];refine⟨rfl,hg,λho=>?_⟩;have:=List.count_eq_zero_of_not_mem (f8 f hf hg ho)
 show(zS k.zZ f).r+n*((fs.count f:Nat):Int)=_
 rw[this];simp
theorem Mx{r:List AU×Int}(hr:r.2=0->Dc k {k with zZ:=r.1}):Dc k (EH k r).1:=by
 have _:=h;have _:=he;have _:=ab;unfold EH
 split
 .next h0=>exact hr h0
 .exact Dc.refl k
theorem Xn(hm:Fb k c.e (zS k.zZ c.a.toNat).g=true):Dc k (EH k (Hy k.mem k.zZ c.a.toNat c.b (AJ k.zX c.e.toNat).zT)).1:=by
 have _:=h;have _:=he;have _:=ab;have av:=Pn h he ab hm;refine Mx h he ab λh0=>?_
 revert h0
 unfold Hy
 split
 .intro x;cases x
 .split
  .intro x;cases x
  .next hgood=>
   split
   .intro _
    refine ME h he ab av λf hf hg _ fX=>?_
    obtain⟨w,hw,h1,h2⟩:=FM.1 fX;have:=Ln.1 (by simpa using hgood) w hw;unfold FQ at this;rw[if_pos h1,h2] at this;simp only[yp] at this;have:=this.2;rw[hg] at this;have ha:=ab c.e.toNat (by omega) (by omega);unfold A5 at ha;rw[this] at ha;cases ha
   .intro x;cases x
theorem U7(hA:c.a.toNat<12)(hm:Fb k c.e (zS k.zZ c.a.toNat).g=true):Dc k (EH k (Dm k.mem k.zZ c.a.toNat)).1:=by
 have _:=h;have _:=he;have _:=ab;have av:=Pn h he ab hm;refine Mx h he ab λh0=>?_
 revert h0
 unfold Dm
 split
 .intro x;cases x
 .next ac=>
  split
  .intro _
   have cr:Bd (Ax k c.a.toNat)=true:=by
    cases hb:Bd (Ax k c.a.toNat)
    .exact absurd (.inl hb) ac
    .rfl
   exact ME h he ab av λf hf hg ho=>OV h hf ho hA cr av
  .intro x;cases x
theorem Xx(hA:c.a.toNat<12)(hm:Fb k c.e (zS k.zZ c.a.toNat).g=true):Dc k (Gz k c).1:=by
 have _:=h;have _:=he;have _:=ab;have av:=Pn h he ab hm;unfold Gz
 split
 .exact Dc.refl k
 .next ac=>
  split
  .exact Dc.refl k
  .split
   .exact Dc.refl k
   .next hno2=>
    have cr:Bd (Ax k c.a.toNat)=true:=by
     cases hb:Bd (Ax k c.a.toNat)
     .exact absurd (.inl hb) ac
     .rfl
    have bY:c.b.toNat<4:=by
     cases hb:Be c.b 0 3
     .exact absurd (.inr (.inl hb)) ac
     .have:=Ab.1 hb;omega
    refine⟨λ_ _=>rfl,rfl,λf hf hg hk=>?_⟩;have au:f≠c.a.toNat:=λe=>av (by rw[<-e];exact hg)
    show AH (CZ _ _ _ _) f=_/\(zS (A4 (A4 k.zZ _ _) c.c 1) f).g=gA/\(_->(zS (A4 (A4 k.zZ _ _) c.c 1) f).r=_)
    rw[Gu,if_neg (λx=>au x.1),FN (by rw[Cg];exact h.len),FN h.len];refine⟨rfl,hg,λho=>?_⟩;have e1:Dd f (Ar k.mem c.a.toNat c.b.toNat)=false:=by
     cases hn:Dd f (Ar k.mem c.a.toNat c.b.toNat)
     .rfl
     .exfalso
      have c5:Bh (Ar k.mem c.a.toNat c.b.toNat)=true/\A9 (Ar k.mem c.a.toNat c.b.toNat)=f:=by simpa[Dd] using hn
      have:=Je c5.1;rw[c5.2] at this;exact OV h hf ho hA cr av this
    have e2:Dd f c.c=false:=by
     cases hn:Dd f c.c
     .rfl
     .exfalso
      have c5:Bh c.c=true/\A9 c.c=f:=by simpa[Dd] using hn
      refine hno2 ⟨c5.1,?_⟩;rw[c5.2,hg];have:=ab c.e.toNat (by omega) (by omega);exact this
    rw[e1,e2];simp[EC]
theorem WH:Dc k (Ob k c).1:=by
 have _:=h;have _:=he;have _:=ab;unfold Ob
 split
 .exact Dc.refl k
 .next ac=>
  split
  .exact Dc.refl k
  .next hno2=>
   have dI:c.e.toNat<3:=by omega
   have db:c.e.toNat≠0:=by omega
   refine⟨λe _=>?_,?_,λf hf hg hk=>⟨rfl,?_⟩⟩
   .have:A5 ⟨k.mem,k.zZ,As k.zX c.e.toNat (Dn c.a),Fz k.zW c.e⟩ e=A5 k e:=by
     unfold A5
     show(AJ (As k.zX c.e.toNat (Dn c.a)) e).zT=_
     rw[GK]
     split
     .next h=>rw[h.1];rfl
     .rfl
    show Bv (A5 ⟨k.mem,k.zZ,As k.zX c.e.toNat (Dn c.a),Fz k.zW c.e⟩ e) gA=_
    rw[this]
   .show(AJ (As k.zX c.e.toNat (Dn c.a)) 0).root=_
    rw[GK,if_neg (λx=>db x.1.symm)];rfl
   .have hl:=h.len
    show(zS (GE k.zZ (AJ k.zX c.e.toNat).root c.a) f).g=gA/\(_->(zS (GE k.zZ (AJ k.zX c.e.toNat).root c.a) f).r=_)
    rw[SV hl hf];refine⟨hg,λho=>?_⟩;have e1:decide ((AJ k.zX c.e.toNat).root=(f:Int))=false:=decide_eq_false (WB h hf ho dI db);have e2:decide (c.a=(f:Int))=false:=decide_eq_false λhx=>by
     have:BG k.zZ (BZ k.mem c.a) (AJ k.zX c.e.toNat).zT=true:=by simpa using hno2
     have:=Fu.1 this f (DY.2 ⟨by omega,.inl (by omega)⟩);rw[hg] at this;have ha:=ab c.e.toNat (by omega) (by omega);unfold A5 at ha;rw[this] at ha;cases ha
    rw[e1,e2];simp[EC]
theorem Yz{s g:ByteArray}(hc:LC s g=false):Bv (Cm ss s).1 g=Bv ss g:=by
 have _:=h;have _:=he;have _:=ab;unfold Cm
 split
 .rfl
 .split
  .rfl
  .rw[wA,Hv,Hv]
   constructor
   .rintro⟨x,hx,hxc⟩
    rcases Mf.1 hx with rfl|hx
    .rw[hc] at hxc;cases hxc
    .exact⟨x,hx,hxc⟩
   .rintro⟨x,hx,hxc⟩
    exact⟨x,Mf.2 (.inr hx),hxc⟩
theorem Xe{s g:ByteArray}(hc:LC s g=false):Bv (DB ss s) g=Bv ss g:=by
 have _:=h;have _:=he;have _:=ab;unfold DB;rw[wA,Hv,Hv];constructor
 .rintro⟨x,hx,hxc⟩
  exact⟨x,(wY.1 hx).1,hxc⟩
 .rintro⟨x,hx,hxc⟩
  refine⟨x,wY.2 ⟨hx,?_⟩,hxc⟩;cases hs:LC s x
  .rfl
  .rw[Rg hs hxc] at hc;cases hc
theorem UW:Dc k (LF k c).1:=by
 have _:=h;have _:=he;have _:=ab;unfold LF
 split
 .exact Dc.refl k
 .next ac=>
  split
  .exact Dc.refl k
  .next hm=>
   split
   .exact Dc.refl k
   .have eH:c.a.toNat<3:=by
     cases hb:Be c.a 0 2
     .exact absurd (.inl hb) ac
     .have:=Ab.1 hb;omega
    have eE:=Y6 h he ab (g:=c.nm) (by simpa using hm);refine⟨λe _=>?_,QG,λf hf hg hk=>⟨rfl,hg,λ_=>rfl⟩⟩;rw[M7 h.zN eH]
    split
    .next hea=>rw[hea];exact Yz h he ab eE
    .rfl
theorem Tg:Dc k (Jp k c).1:=by
 have _:=h;have _:=he;have _:=ab;unfold Jp
 split
 .exact Dc.refl k
 .next ac=>
  split
  .exact Dc.refl k
  .next hm=>
   split
   .exact Dc.refl k
   .have eH:c.a.toNat<3:=by
     cases hb:Be c.a 0 2
     .exact absurd (.inl hb) ac
     .have:=Ab.1 hb;omega
    have eE:=Y6 h he ab (g:=c.nm) (by simpa using hm);refine⟨λe _=>?_,QG,λf hf hg hk=>⟨rfl,hg,λ_=>rfl⟩⟩;rw[M7 h.zN eH]
    split
    .next hea=>rw[hea];exact Xe h he ab eE
    .rfl
theorem Wa{m:List (List Int)}{root:Int}(h0:0<=root)(hw:(Bu m root.toNat a).1=0):(Bu m root.toNat a).2.1∈BZ m root:=by
 have _:=h;have _:=he;have _:=ab
 revert hw
 unfold Bu
 split
 .next h1=>
  split
  .next h2=>
   intro _;exact DY.2 ⟨h0,.inr (.inr ⟨_,Je h1,Je h2⟩)⟩
  .intro x;cases x
 .intro x;cases x
theorem X6:Dc k (Qa k c).1:=by
 have _:=h;have _:=he;have _:=ab;unfold Qa;dsimp only
 split
 .exact Dc.refl k
 .next ac=>
  split
  .exact Dc.refl k
  .next hw=>
   split
   .exact Dc.refl k
   .split
    .have h0:0<=(AJ k.zX c.e.toNat).root:=by
      rcases Int.lt_or_le (AJ k.zX c.e.toNat).root 0 with hh|hh
      .exact absurd (.inr (.inl hh)) ac
      .exact hh
     have hr:=Wa h he ab (a:=c.a.toNat) h0 (by simpa using hw);have dh:=h.allow c.e.toNat (by omega) _ hr;refine⟨λ_ _=>rfl,rfl,λf hf hg hk=>?_⟩;have au:f≠(Bu k.mem (AJ k.zX c.e.toNat).root.toNat c.a.toNat).2.1:=λe=>by rw[<-e,hg,ab c.e.toNat (by omega) (by omega)] at dh;cases dh
     show AH (CZ _ _ _ _) f=_/\_/\_
     rw[Gu,if_neg (λx=>au x.1)];exact⟨rfl,hg,λ_=>rfl⟩
    .exact⟨λ_ _=>rfl,rfl,λf hf hg hk=>⟨rfl,hg,λ_=>rfl⟩⟩
theorem UH:Dc k (Ad k c).1:=by
 have _:=h;have _:=he;have _:=ab;unfold Ad
 split
 .exact WT h he ab
 .split
  .unfold Gh
   split
   .exact Dc.refl k
   .next ac=>
    split
    .exact Dc.refl k
    .next hm=>
     have c6:Fb k c.e (zS k.zZ c.a.toNat).g=true:=by simpa using hm
     have hA:c.a.toNat<12:=by
      cases hb:Be c.a 0 11
      .exact absurd (.inl hb) ac
      .have:=Ab.1 hb;omega
     split
     .exact Vi h he ab hA c6
     .split
      .exact WE h he ab c6
      .split
       .exact Xn h he ab c6
       .split
        .exact U7 h he ab hA c6
        .exact Xx h he ab hA c6
  .split
   .exact WH h he ab
   .split
    .exact UW h he ab
    .split
     .exact Tg h he ab
     .split
      .exact X6 h he ab
      .exact Dc.refl k
end
theorem Y7(h:ED p){c:Aa}(he:c.e=1∨c.e=2):ED (Nr p c).1/\∀a,a<64->Dy (Nr p c).1 a=Dy p a:=by
 have K:=UH h.k he h.alone;have fU:DJ (Ad p.zV c).1:=Mi h.k (by omega);obtain⟨k1,k2,k3⟩:=K;have dA:=h.zA;have a9:PG p.zV (AZ p.zV 0).toNat:=⟨h.yM.2,.inr (by have:=h.root;omega)⟩;have bw:∀i,i<4->PG p.zV (BJ p.low i).toNat:=λi hi=>⟨(h.lows i hi).2.2.2.2,.inl ⟨_,i,dA.1,by rw[dA.2];rfl,hi,h.zk hi,h.yM.1⟩⟩
 have ar:∀n,n<16->(AB p.zY n).w=1->PG p.zV (AB p.zY n).a.toNat:=λn hn hw=>by obtain⟨f1,f2,f3⟩:=h.zG hn hw;have hl:=h.zK (i:=n/4) (by omega);exact⟨f3.2,.inl ⟨_,n%4,hl.1,by rw[hl.2];rfl,by omega,f1,(h.lows (n/4) (by omega)).2.2.2.1⟩⟩
 have bl:=k3 _ dA.1 h.yM.1 (by rw[dA.2];decide);have cj:=λi (hi:i<4)=>k3 _ (h.zK hi).1 (h.lows i hi).2.2.2.1 (by rw[(h.zK hi).2];decide)
 have am:=λn (hn:n<16) (hw:(AB p.zY n).w=1)=>k3 _ (h.zH hn hw).1 (h.zG hn hw).2.2.1 (by rw[(h.zH hn hw).2];decide)
 have fN:∀n,n<16->Br (Nr p c).1 n=Br p n:=λn hn=>by
  unfold Br Nr Ar
  show(AH (Ad p.zV c).1.mem (BJ p.low (n/4)).toNat).getD (n%4) 0=_
  rw[(cj (n/4) (by omega)).1]
 refine⟨⟨fU,h.zD,h.zv,?_,λe h1 h2=>?_,?_,h.zt,?_,λi hi=>?_,h.zO,h.slots,λn hn=>?_,h.zR,h.zU,h.count⟩,λa ha=>?_⟩
 .exact(k1 0 (by omega)).trans h.may
 .exact(k1 e h2).trans (h.alone e h1 h2)
 .show 0<=AZ (Ad p.zV c).1 0
  rw[k2];exact h.root
 .show Kp (Ad p.zV c).1.zZ (AZ (Ad p.zV c).1 0).toNat
  rw[k2];exact⟨bl.2.1,(bl.2.2 a9).trans h.yM.2⟩
 .obtain⟨x1,x2,x3,x4⟩:=h.lows i hi
  refine⟨x1,x2,?_,(cj i hi).2.1,((cj i hi).2.2 (bw i hi)).trans x4.2⟩
  show Ar (Ad p.zV c).1.mem (AZ (Ad p.zV c).1 0).toNat i=_
  rw[k2];unfold Ar;rw[bl.1];exact x3
 .have:=h.zY n hn
  unfold KM at this ⊢;rw[fN n hn]
  rcases this with x|⟨x1,x2,x3,x4⟩|x
  .exact .inl x
  .exact .inr (.inl ⟨x1,x2,x3,(am n hn x1).2.1,((am n hn x1).2.2 (ar n hn x1)).trans x4.2⟩)
  .exact .inr (.inr x)
 .unfold Dy
  show(if(AB p.zY (a/4)).w=1 then Ar (Ad p.zV c).1.mem (AB p.zY (a/4)).a.toNat (a%4) else _)=_
  by_cases w1:(AB p.zY (a/4)).w=1
  .rw[if_pos w1,if_pos w1]
   unfold Ar;rw[(am _ (by omega) w1).1]
  .rw[if_neg w1,if_neg w1];rfl
def gB:ByteArray:=⟨#[98]⟩
def gC:ByteArray:=⟨#[99]⟩
def bT:AN:=⟨xV 12 [0,0,0,0],xV 12 ⟨0,⟨#[]⟩,0⟩,[⟨[gA],-1⟩,⟨[gB],-1⟩,⟨[gC],-1⟩],[]⟩
def J7:List Aa:=[Ah 1 0 0 0,Ah 4 0 3 0,Ah 7 0 0 0,
 Ah 1 0 0 0,Ah 4 1 2 0,Ah 6 0 0 7,Ah 1 0 0 0,Ah 4 2 2 0,Ah 6 0 1 11,Ah 1 0 0 0,Ah 4 3 2 0,Ah 6 0 2 15,Ah 1 0 0 0,Ah 4 4 2 0,Ah 6 0 3 19]
def Dx(n:Nat):AN:=(J7.take n).foldl (λk c=>(Ad k c).1) bT
def aJ:AN:=⟨[7,11,15,19]::xV 11 [0,0,0,0],⟨3,gA,1⟩::(xV 4 ⟨2,gA,1⟩++xV 7 ⟨0,⟨#[]⟩,0⟩),[⟨[gA],0⟩,⟨[gB],-1⟩,⟨[gC],-1⟩],[]⟩
theorem V8:Dx 15=aJ:=by kernel_rfl
theorem Zv:Ad (Dx 0) (Ah 1 0 0 0)=(Dx 1,0,0):=by kernel_rfl
theorem Zt:Ad (Dx 1) (Ah 4 0 3 0)=(Dx 2,0,0):=by kernel_rfl
theorem Y4:Ad (Dx 2) (Ah 7 0 0 0)=(Dx 3,0,0):=by kernel_rfl
theorem Y5:∀i,i<4->Ad (Dx (3*i+3)) (Ah 1 0 0 0)=(Dx (3*i+4),((i+1:Nat):Int),0)
 |0,_|1,_|2,_|3,_=>by kernel_rfl
 |_+4,h=>by omega
theorem Zs:∀i,i<4->Ad (Dx (3*i+4)) (Ah 4 ((i+1:Nat):Int) 2 0)=(Dx (3*i+5),0,0)
 |0,_|1,_|2,_|3,_=>by kernel_rfl
 |_+4,h=>by omega
theorem Zu:∀i,i<4->Ad (Dx (3*i+5)) (Ah 6 0 (i:Int) (Hh ((i+1:Nat):Int)))=(Dx (3*i+6),0,0)
 |0,_|1,_|2,_|3,_=>by kernel_rfl
 |_+4,h=>by omega
theorem Y3:∀n,n<=15->DJ (Dx n):=by
 have h0:DJ (Dx 0):=EZ.1 (by kernel_rfl);intro n
 induction n with
 |zero=>exact λ_=>h0
 |succ n ih=>
  intro hn;have bb:n<J7.length:=by show n<15;omega
  have e:Dx (n+1)=(Ad (Dx n) J7[n]).1:=by unfold Dx;rw[List.take_succ_eq_append_getElem bb,uz];rfl
  rw[e];have he:(J7[n]).e=0:=by
   have:∀c∈J7,c.e=0:=by
    intro c hc;simp only[J7,List.mem_cons,List.not_mem_nil,or_false] at hc
    rcases hc with h|h|h|h|h|h|h|h|h|h|h|h|h|h|h<;>(subst h;rfl)
   exact this _ (List.getElem_mem bb)
  exact Mi (ih (by omega)) (by rw[he];omega)
def Us(zU:Int):AR:=⟨aJ,xV 16 [],[1,2,3,4],xV 16 ⟨0,0,false⟩,0,zU⟩
theorem Wl{l:Int}(h1:1<=l)(h6:l<=6):ED (Us l):=by
 have h:ED (Us 1):=Dl.1 (by kernel_rfl);exact⟨h.k,h.zD,h.zv,h.may,h.alone,h.root,h.zt,h.yM,h.lows,h.zO,h.slots,λn hn=>h.zY n hn,h.zR,⟨h1,h6⟩,by
  show((Ac (xV 16 ⟨0,0,false⟩) 1:Nat):Int)<=l
  have:Ac (xV 16 ⟨0,0,false⟩) 1=0:=by kernel_rfl
  omega⟩
def Em(k:AN)(r:ML):Prop:=(r.2.2≠0->r=(k,0,r.2.2))/\0<=r.2.2/\r.2.2<=4
theorem Em.code{k:AN}{n:Int}(h0:0<=n)(h4:n<=4):Em k (k,0,n):=⟨λ_=>rfl,h0,h4⟩
theorem Em.done{k k':AN}{v:Int}:Em k (k',v,0):=⟨λh=>absurd rfl h,by show(0:Int)<=0;omega,by show(0:Int)<=4;omega⟩
theorem Em.zB{k:AN}{p:Prop} [Decidable p] {a b:ML}(ha:Em k a)(hb:Em k b):Em k (if p then a else b):=by split<;>assumption
theorem P7{k:AN}{r:List AU×Int}:Em k (EH k r):=by
 unfold EH Mw
 split
 .exact .done
 .split
  .exact .code (by omega) (by omega)
  .exact .code (by omega) (by omega)
theorem YR{k:AN}{c:Aa}:Em k (Ad k c):=by
 have c1:Em k (k,0,1):=.code (by omega) (by omega);have c2:Em k (k,0,2):=.code (by omega) (by omega);have c3:Em k (k,0,3):=.code (by omega) (by omega);have c4:Em k (k,0,4):=.code (by omega) (by omega);unfold Ad;refine .zB (.zB c3 (.zB c1 (.zB c4 .done))) (.zB ?_ (.zB ?_ (.zB ?_ (.zB ?_ (.zB ?_ c3)))))
 .unfold Gh
  refine .zB c3 (.zB c1 (.zB (.zB c3 (.zB c2 .done)) (.zB (.zB c3 .done) (.zB P7 (.zB P7 ?_)))));unfold Gz;exact .zB c3 (.zB c1 (.zB c1 .done))
 .unfold Ob
  exact .zB c3 (.zB c1 .done)
 .unfold LF
  exact .zB c3 (.zB c1 (.zB c4 .done))
 .unfold Jp
  exact .zB c3 (.zB c1 (.zB c2 .done))
 .unfold Qa
  exact .zB c3 (.zB c3 (.zB c1 (.zB .done .done)))
theorem PQ{k:AN}{c:Aa}(h:(Ad k c).2.2≠0):Ad k c=(k,0,(Ad k c).2.2):=YR.1 h
theorem PP{k:AN}{e a b c:Int}{s t:ByteArray}(h:kind≠1/\kind≠8/\kind≠9):Ad k ⟨kind,e,a,b,c,s⟩=Ad k ⟨kind,e,a,b,c,t⟩:=by unfold Ad;simp only[h.1,h.2.1,h.2.2,if_false];rfl
def NV(w:World)(res:ML)(e:Ending)(w':World):Prop:=∃m i ev c,e=.returned (.tuple #[.agg #[m,i,ev,c],.int .i64 res.2.1,.int .i64 res.2.2])/\DP w.heap.size w' m i ev c res.1/\Below w.heap.size w w'
theorem DP.lower{lo lo':Nat}{w:World}{m i e c:Value}{k:AN}(h:DP lo w m i e c k)(hl:lo'<=lo):DP lo' w m i e c k:=
 ⟨⟨_,h.1.choose_spec.lower hl⟩,h.2.1.lower hl,⟨_,h.2.2.1.choose_spec.lower hl⟩,h.2.2.2.lower hl⟩
theorem DP.yL{lo g:Nat}{w w':World}{m i e c:Value}{k:AN}{cs:Array Value}{T:Nat}{fr:Nat×Nat}(h:DP lo w m i e c k)(hg:w.grownBy w' (some g))(hB:w.heap[g]?=some (.cells cs T fr))
 (h1:29≠T:=by decide)(h2:3≠T:=by decide)(h3:92≠T:=by decide)(h4:74≠T:=by decide)(h5:9≠T:=by decide)(h6:112≠T:=by decide):DP lo w' m i e c k:=
 ⟨⟨_,h.1.choose_spec.yL hg hB h1 h2⟩,h.2.1.yL hg hB h3,⟨_,h.2.2.1.choose_spec.yL hg hB h4 h5⟩,h.2.2.2.yL hg hB h6⟩
theorem PM{w:World}{g:Nat}{a b c d e f:Value}(h:w.heap[g]?=some (.cells #[a,b,c,d,e,f] t (0,0))):w.cell? ⟨g,0,none⟩=some a/\w.cell? ⟨g,1,none⟩=some b/\w.cell? ⟨g,2,none⟩=some c/\w.cell? ⟨g,3,none⟩=some d/\w.cell? ⟨g,4,none⟩=some e/\w.cell? ⟨g,5,none⟩=some f:=
 ⟨yi w g 0 _ _ _ h,yi w g 1 _ _ _ h,yi w g 2 _ _ _ h,yi w g 3 _ _ _ h,yi w g 4 _ _ _ h,yi w g 5 _ _ _ h⟩
theorem Ao(w:World)(g:Nat)(a b c d:Value):w.grownBy ((((w.setCell ⟨g,0,none⟩ a).setCell ⟨g,1,none⟩ b).setCell ⟨g,2,none⟩ c).setCell ⟨g,3,none⟩ d) (some g):=
 An (An (An (Aq w g 0 a) 1 b) 2 c) 3 d
theorem DP.zQ{lo:Nat}{w:World}{m i e c:Value}{k:AN}(h:DP lo w m i e c k):(∃a n q,m=.slice a n q)/\(∃a n q,i=.slice a n q)/\(∃a n q,e=.slice a n q)/\∃a n q,c=.slice a n q:=by obtain⟨⟨_,h1⟩,h2,⟨_,h3⟩,h4⟩:=h;obtain⟨_,_,rfl,_,_⟩:=h1.1.rd.shape;obtain⟨_,_,rfl,_,_⟩:=h2.rd.shape;obtain⟨_,_,rfl,_,_⟩:=h3.1.rd.shape;obtain⟨_,_,rfl,_,_⟩:=h4.rd.shape;exact⟨⟨_,_,_,rfl⟩,⟨_,_,_,rfl⟩,⟨_,_,_,rfl⟩,⟨_,_,_,rfl⟩⟩
theorem Kg(w:World)(a b c:Obj):(((w.alloc a).alloc b).alloc c).heap[w.heap.size]?=some a/\(((w.alloc a).alloc b).alloc c).heap[w.heap.size+1]?=some b/\(((w.alloc a).alloc b).alloc c).heap[w.heap.size+1+1]?=some c/\Below w.heap.size w (((w.alloc a).alloc b).alloc c)/\(((w.alloc a).alloc b).alloc c).heap.size=w.heap.size+3:=by have h1:=yv w a;have h2:=yv (w.alloc a) b;have h3:=yv ((w.alloc a).alloc b) c;have h4:=AC (AC h1 (AE _ b)) (AE _ c);have h5:=AC h2 (AE _ c);simp only[World.size_alloc] at h2 h3 h5;refine⟨h4,h5,h3,(HJ w a b).trans ((AE _ c).mono (HJ w a b).size),by simp⟩
theorem Jc{w:World}{g:Nat}{m i e c m' i' e' c':Value}(h:w.heap[g]?=some (.cells #[m,i,e,c] t (0,0))):((((w.setCell ⟨g,0,none⟩ m').setCell ⟨g,1,none⟩ i').setCell ⟨g,2,none⟩ e').setCell ⟨g,3,none⟩ c').cell? ⟨g,0,none⟩=some m'/\((((w.setCell ⟨g,0,none⟩ m').setCell ⟨g,1,none⟩ i').setCell ⟨g,2,none⟩ e').setCell ⟨g,3,none⟩ c').cell? ⟨g,1,none⟩=some i'/\((((w.setCell ⟨g,0,none⟩ m').setCell ⟨g,1,none⟩ i').setCell ⟨g,2,none⟩ e').setCell ⟨g,3,none⟩ c').cell? ⟨g,2,none⟩=some e'/\((((w.setCell ⟨g,0,none⟩ m').setCell ⟨g,1,none⟩ i').setCell ⟨g,2,none⟩ e').setCell ⟨g,3,none⟩ c').cell? ⟨g,3,none⟩=some c':=AG (Cs h)
theorem VW(m i e c:Value)(k:AN)(call:Aa)(w:World)(h:Ma w m i e c k)(hk:DJ k)(he:0<=call.e)(hn:call.e<3)(b7:call.nm.size<=maxLen)(ao:Jk call)(al:call.c<=9223372036854775807):
 Calls prog 62 #[.agg #[m,i,e,c],.agg #[.int .i64 call.k,.int .i64 call.e,.int .i64 call.a,.int .i64 call.b,.int .i64 call.c,.string call.nm]] w (NV w (Ad k call)):=by
 have C:=AA (λ(lo g:Nat)(w:World)(m i e c:Value)(h:Im lo w g m i e c k)(ai:lo<=w.heap.size)=>Zk h ai hk call he hn b7 ao al);have HR:=AA h;have HK:=AA hk;have HN:=AA (@PQ k call);generalize Ad k call=res at C HN ⊢;obtain⟨kr,vr,nr⟩:=res;obtain⟨ck,ce,ca,cb,cc,nm⟩:=call;simp only[Aa.on,Aa.onCells] at C;clear he hn b7 al h hk;go_in;go_wp2_with fail;obtain⟨B0,B1,B2,dM,gI⟩:=Kg w (.cells #[m,i,e,c] 28) (.cells #[.int .i64 ck,.int .i64 ce,.int .i64 ca,.int .i64 cb,.int .i64 cc,.string nm] 55) (.cells #[.slice none 0 0,.slice none 0 0,.slice none 0 0,.slice none 0 0] 28);generalize((w.alloc _).alloc _).alloc _=W0 at*;refine(Ta m i e c k W0 (HR.out.below dM) HK.out).mono ?_;rintro r w1 ⟨m1,i1,e1,c1,rfl,O1,b1⟩;have e5:=b1.size;obtain⟨⟨ma,mn,mc,rfl⟩,⟨ia,iN,ic,rfl⟩,⟨ea,en,ec,rfl⟩,⟨qa,qn,qc,rfl⟩⟩:=O1.zQ;have N3:=yv w1 (.cells #[.slice ma mn mc,.slice ia iN ic,.slice ea en ec,.slice qa qn qc] 28);have b2:=AE w1 (.cells #[.slice ma mn mc,.slice ia iN ic,.slice ea en ec,.slice qa qn qc] 28);obtain⟨y0,y1,y2,y3,y4,y5⟩:=PM (AC (AC B1 b1) b2);have hI:=AA (show Im W0.heap.size _ w1.heap.size _ _ _ _ k from⟨N3,e5,O1.below b2⟩);have df:=AA (b1.trans (b2.mono e5));clear N3 O1 b1 b2 B1;go_wp2_with fail;refine(C.out _ _ _ _ _ _ _ hI.out (by have:=df.out.size;omega)).mono ?_;rintro r w3 ⟨rfl,eA,b3⟩;have dJ:=df.out.trans b3;have bb:w.heap.size+1+1<W0.heap.size:=by omega
 have eS:=(dJ.block _ (by omega)).trans B0;have cp:=(dJ.block _ (by omega)).trans B2;have cm:=AA (dM.trans (dJ.mono dM.size));clear y0 y1 y2 y3 y4 y5 hI df b3 B0 B2 C
 by_cases h0:nr=0
 focus
  subst h0
  have t0:((0:Int)==0)=true:=rfl;obtain⟨m',i',e',c',dP⟩:=eA rfl;obtain⟨⟨ek,ei,ej,rfl⟩,⟨eo,ep,el,rfl⟩,⟨eL,eJ,eK,rfl⟩,⟨d4,dZ,d3,rfl⟩⟩:=dP.2.2.zQ;obtain⟨x0,x1,x2,x3⟩:=dP.cells;have f7:=AK cp;obtain⟨z0,z1,z2,z3⟩:=AG cp;obtain⟨E0,E1,E2,E3⟩:=Jc (m':=.slice ek ei ej) (i':=.slice eo ep el) (e':=.slice eL eJ eK) (c':=.slice d4 dZ d3) cp;have HE:=AA (xZ E0 (xZ E1 (xZ E2 E3)));have ae:=Ao w3 (w.heap.size+1+1) (.slice ek ei ej) (.slice eo ep el) (.slice eL eJ eK) (.slice d4 dZ d3);have fp:=AA (show DP w.heap.size _ (.slice ek ei ej) (.slice eo ep el) (.slice eL eJ eK) (.slice d4 dZ d3) kr from(dP.2.2.yL ae cp).lower dM.size);have dp:=AA (AM cm.out ae (by omega) cm.out.size);clear E0 E1 E2 E3 dP eA ae eS cp HN dJ
 rotate_left
 focus
  have t0:(nr==0)=false:=by simp[h0]
  have hN:=HN.out h0;simp only[Prod.mk.injEq,and_true] at hN;obtain⟨rfl,rfl⟩:=hN;obtain⟨x0,x1,x2,x3⟩:=AG eS;clear eA;go_wp2_with fail;refine(Ta m i e c kr w3 (HR.out.below cm.out) HK.out).mono ?_;rintro r w4 ⟨m4,i4,e4,c4,rfl,O4,b4⟩;have B4:=AC cp b4;have f7:=AK B4;obtain⟨z0,z1,z2,z3⟩:=AG B4;obtain⟨E0,E1,E2,E3⟩:=Jc (m':=m4) (i':=i4) (e':=e4) (c':=c4) B4;have HE:=AA (xZ E0 (xZ E1 (xZ E2 E3)));have ae:=Ao w4 (w.heap.size+1+1) m4 i4 e4 c4;have fp:=AA (show DP w.heap.size _ m4 i4 e4 c4 kr from(O4.yL ae B4).lower cm.out.size);have dp:=AA (AM (cm.out.trans (b4.mono cm.out.size)) ae (by omega) (by have:=cm.out.size;have:=b4.size;omega));obtain⟨⟨_,_,_,rfl⟩,⟨_,_,_,rfl⟩,⟨_,_,_,rfl⟩,⟨_,_,_,rfl⟩⟩:=O4.zQ;clear E0 E1 E2 E3 O4 b4 B4 ae eS cp x0 x1 x2 x3
 rotate_left
 all_goals
  go_wp2_with fail;exact bodyPost_ret (v:=.tuple #[.agg #[_,_,_,_],_,_]) (by simp[results,Tryz.results62,go_sem,HE.out]) rfl ⟨_,_,_,_,rfl,fp.out,dp.out⟩
def Kx(w:World)(m i e c s l q:Value)(P:AR):Prop:=Ma w m i e c P.zV/\Bf w s P.swap/\Aw w l P.low/\BD 3 Cw w q P.zY
structure FG(lo:Nat)(w:World)(m i e c s l q:Value)(P:AR):Prop where
 ker:DP lo w m i e c P.zV
 swp:∃vs,Au lo w s vs P.swap
 low:AF lo w l P.low
 pgs:AQ lo 43 3 Cw w q P.zY
 apart:Fg m s
structure Gm(lo g:Nat)(w:World)(m i e c s l q:Value)(P:AR):Prop where
 yK:w.heap[g]?=some (.cells #[m,i,e,c,s,l,q,.int .i64 P.zR,.int .i64 P.zU] 32 (0,0))
 yJ:lo<=g
 own:FG lo w m i e c s l q P
section
variable {lo g:Nat} {w w':World} {m i e c s l q:Value} {P:AR}
theorem Kx.below(h:Kx w m i e c s l q P)(hb:Below w.heap.size w w'):Kx w' m i e c s l q P:=⟨h.1.below hb,h.2.1.below hb,h.2.2.1.below hb,BD.below h.2.2.2 hb⟩
theorem FG.rd(h:FG lo w m i e c s l q P):Kx w m i e c s l q P:=⟨h.ker.rd,h.swp.choose_spec.rd,h.low.rd,h.pgs.rd⟩
theorem FG.below(h:FG lo w m i e c s l q P)(hb:Below w.heap.size w w'):FG lo w' m i e c s l q P:=⟨h.ker.below hb,⟨_,h.swp.choose_spec.below hb⟩,h.low.below hb,h.pgs.below hb,h.apart⟩
theorem FG.lower{lo':Nat}(h:FG lo w m i e c s l q P)(hl:lo'<=lo):FG lo' w m i e c s l q P:=⟨h.ker.lower hl,⟨_,h.swp.choose_spec.lower hl⟩,BO h.low hl,BO h.pgs hl,h.apart⟩
theorem FG.yL{g T:Nat}{cs:Array Value}{fr:Nat×Nat}(h:FG lo w m i e c s l q P)(hg:w.grownBy w' (some g))(hB:w.heap[g]?=some (.cells cs T fr))
 (h1:29≠T:=by decide)(h2:3≠T:=by decide)(h3:92≠T:=by decide)(h4:74≠T:=by decide)(h5:9≠T:=by decide)(h6:112≠T:=by decide)(h7:43≠T:=by decide):FG lo w' m i e c s l q P:=
 ⟨h.ker.yL hg hB h1 h2 h3 h4 h5 h6,⟨_,h.swp.choose_spec.yL hg hB h1 h2⟩,Eu h.low hg hB h2,h.pgs.yL hg hB h7,h.apart⟩
theorem Gm.below(h:Gm lo g w m i e c s l q P)(hb:Below w.heap.size w w'):Gm lo g w' m i e c s l q P:=⟨AC h.yK hb,h.yJ,h.own.below hb⟩
theorem AD{a0 a1 a2 a3 a4 a5 a6 a7 a8:Value}(h:w.heap[g]?=some (.cells #[a0,a1,a2,a3,a4,a5,a6,a7,a8] t (0,0))):
 w.cell? ⟨g,0,none⟩=some a0/\w.cell? ⟨g,1,none⟩=some a1/\w.cell? ⟨g,2,none⟩=some a2/\w.cell? ⟨g,3,none⟩=some a3/\w.cell? ⟨g,4,none⟩=some a4/\w.cell? ⟨g,5,none⟩=some a5/\w.cell? ⟨g,6,none⟩=some a6/\w.cell? ⟨g,7,none⟩=some a7/\w.cell? ⟨g,8,none⟩=some a8:=
 ⟨yi w g 0 _ _ _ h,yi w g 1 _ _ _ h,yi w g 2 _ _ _ h,yi w g 3 _ _ _ h,yi w g 4 _ _ _ h,yi w g 5 _ _ _ h,yi w g 6 _ _ _ h,yi w g 7 _ _ _ h,yi w g 8 _ _ _ h⟩
theorem Gm.cells(h:Gm lo g w m i e c s l q P):w.cell? ⟨g,0,none⟩=some m/\w.cell? ⟨g,1,none⟩=some i/\w.cell? ⟨g,2,none⟩=some e/\w.cell? ⟨g,3,none⟩=some c/\w.cell? ⟨g,4,none⟩=some s/\w.cell? ⟨g,5,none⟩=some l/\w.cell? ⟨g,6,none⟩=some q/\w.cell? ⟨g,7,none⟩=some (.int .i64 P.zR)/\w.cell? ⟨g,8,none⟩=some (.int .i64 P.zU):=AD h.yK
theorem JU{a0 a1 a2 a3 a4 a5 a6 a7 a8 m' i' e' c':Value}(h:w.heap[g]?=some (.cells #[a0,a1,a2,a3,a4,a5,a6,a7,a8] t (0,0))):
 ((((w.setCell ⟨g,0,none⟩ m').setCell ⟨g,1,none⟩ i').setCell ⟨g,2,none⟩ e').setCell ⟨g,3,none⟩ c').heap[g]?=some (.cells #[m',i',e',c',a4,a5,a6,a7,a8] t (0,0)):=by
 have h0:=ym w g 0 _ t m' h;have h1:=ym _ g 1 _ t i' h0;have h2:=ym _ g 2 _ t e' h1;have h3:=ym _ g 3 _ t c' h2;simpa using h3
theorem Gm.put{m' i' e' c':Value}{k':AN}{B:Nat}{w1:World}(h:Gm lo g w m i e c s l q P)(hb:Below w.heap.size w w1)(hB:w.heap.size<=B)(ai:lo<=w.heap.size)(O:DP B w1 m' i' e' c' k'):
 Gm lo g ((((w1.setCell ⟨g,0,none⟩ m').setCell ⟨g,1,none⟩ i').setCell ⟨g,2,none⟩ e').setCell ⟨g,3,none⟩ c') m' i' e' c' s l q {P with zV:=k'}:=by
 have h':=h.below hb;have ae:=Ao w1 g m' i' e' c';have O':=O.yL ae h'.yK;have F:=h'.own.yL ae h'.yK;refine⟨JU h'.yK,h.yJ,⟨O'.lower (yB ai hB),F.swp,F.low,F.pgs,λb df bB=>?_⟩⟩;obtain⟨vs,r1⟩:=O.1;obtain⟨us,r2⟩:=h.own.swp;have:=(yq r1.1 b df).1;have:=(yq r2.1 b bB).2;omega
end
def JP(lo:Nat)(b:Bool)(v:Value)(w:World)(k:AN):Prop:=∃q,v=.pointer (some ⟨q,0,none⟩)/\lo<=q/\if b=true then ∃m i e c,w.heap[q]?=some (.cells #[m,i,e,c] 28 (0,0))/\DP lo w m i e c k else w.heap[q]?=some (.cells #[.slice none 0 0,.slice none 0 0,.slice none 0 0,.slice none 0 0] 28 (0,0))
theorem JP.below{lo:Nat}{b:Bool}{w w':World}{k:AN}(h:JP lo b v w k)(hb:Below w.heap.size w w'):JP lo b v w' k:=by
 obtain⟨q,h0,h1,h2⟩:=h;refine⟨q,h0,h1,?_⟩;cases b
 .exact AC h2 hb
 .obtain⟨m,i,e,c,h3,h4⟩:=h2
  exact⟨m,i,e,c,AC h3 hb,h4.below hb⟩
def L3(lo:Nat)(v:Value)(w:World)(k:AN)(x y:Int):Prop:=∃m i e c,v=.tuple #[.agg #[m,i,e,c],.int .i64 x,.int .i64 y]/\DP lo w m i e c k
def Ga(lo:Nat)(v:Value)(w:World)(k:AN):Prop:=∃m i e c,v=.agg #[m,i,e,c]/\DP lo w m i e c k
theorem L3.below{lo:Nat}{w w':World}{k:AN}{x y:Int}(h:L3 lo v w k x y)(hb:Below w.heap.size w w'):L3 lo v w' k x y:=by obtain⟨m,i,e,c,h1,h2⟩:=h;exact⟨m,i,e,c,h1,h2.below hb⟩
theorem Ga.below{lo:Nat}{w w':World}{k:AN}(h:Ga lo v w k)(hb:Below w.heap.size w w'):Ga lo v w' k:=by obtain⟨m,i,e,c,h1,h2⟩:=h;exact⟨m,i,e,c,h1,h2.below hb⟩
theorem L3.yL{lo g:Nat}{w w':World}{k:AN}{x y:Int}{cs:Array Value}{fr:Nat×Nat}(h:L3 lo v w k x y)(hg:w.grownBy w' (some g))(hB:w.heap[g]?=some (.cells cs 28 fr)):L3 lo v w' k x y:=by obtain⟨m,i,e,c,h1,h2⟩:=h;exact⟨m,i,e,c,h1,h2.yL hg hB⟩
theorem Ga.yL{lo g:Nat}{w w':World}{k:AN}{cs:Array Value}{fr:Nat×Nat}(h:Ga lo v w k)(hg:w.grownBy w' (some g))(hB:w.heap[g]?=some (.cells cs 28 fr)):Ga lo v w' k:=by obtain⟨m,i,e,c,h1,h2⟩:=h;exact⟨m,i,e,c,h1,h2.yL hg hB⟩
def ZZ(lo g:Nat)(w:World)(s l q:Value)(P:AR)(call:Aa)(r:Ending)(w':World):Prop:=
 r=.returned (.int .i64 (Ad P.zV call).2.1)/\(∃m i e c,Gm lo g w' m i e c s l q {P with zV:=(Ad P.zV call).1}/\DP w.heap.size w' m i e c (Ad P.zV call).1)/\Below lo w w'/\w.grownBy w' (some g)
theorem Lu{lo g:Nat}{w:World}{mv iv ev cv sv lv qv:Value}{P:AR}(h:Gm lo g w mv iv ev cv sv lv qv P)(ai:lo<=w.heap.size)(hK:DJ P.zV)(call:Aa)(he:0<=call.e)(hn:call.e<3)(b7:call.nm.size<=maxLen)(ao:Jk call)(al:call.c<=9223372036854775807):
 Calls prog 29 #[.pointer (some ⟨g,0,none⟩),.agg #[.int .i64 call.k,.int .i64 call.e,.int .i64 call.a,.int .i64 call.b,.int .i64 call.c,.string call.nm]] w (ZZ lo g w sv lv qv P call):=by
 have b0:=AE w (.cells #[.int .i64 call.k,.int .i64 call.e,.int .i64 call.a,.int .i64 call.b,.int .i64 call.c,.string call.nm] 55);have N0:=yv w (.cells #[.int .i64 call.k,.int .i64 call.e,.int .i64 call.a,.int .i64 call.b,.int .i64 call.c,.string call.nm] 55);have CC:=λW (hW:Below (w.alloc (.cells #[.int .i64 call.k,.int .i64 call.e,.int .i64 call.a,.int .i64 call.b,.int .i64 call.c,.string call.nm] 55)).heap.size (w.alloc (.cells #[.int .i64 call.k,.int .i64 call.e,.int .i64 call.a,.int .i64 call.b,.int .i64 call.c,.string call.nm] 55)) W)=>VW mv iv ev cv P.zV call W ((h.own.ker.rd.below b0).below hW) hK he hn b7 ao al
 unfold ZZ;have HI:=AA (h.below b0);have Hb:=AA (b0.mono ai);have cf:w.heap.size<(w.alloc (.cells #[.int .i64 call.k,.int .i64 call.e,.int .i64 call.a,.int .i64 call.b,.int .i64 call.c,.string call.nm] 55)).heap.size:=by simp
 generalize Ad P.zV call=res at CC ⊢;obtain⟨kr,vr,nr⟩:=res;obtain⟨ck,ce,ca,cb,cc,nm⟩:=call;dsimp only at*;go_in;go_wp2_with fail;generalize w.alloc _=W0 at*;obtain⟨x0,x1,x2,x3,_⟩:=HI.out.cells;obtain⟨y0,y1,y2,y3,y4,y5⟩:=PM N0;have dG:=AW HI.out.yK;have CC:=AA CC;clear N0;refine EB 14 23 (λix=>ix==11) [.p g 0,.p g 0,.p g 0,.a #[mv,iv,ev,cv],.a #[.int .i64 ck,.int .i64 ce,.int .i64 ca,.int .i64 cb,.int .i64 cc,.string nm],.z,.z,.z,.i vr,.i nr,.z,.z,.i vr,.i nr] (λll ix vv ww=>match ix with
  |5|6=>L3 W0.heap.size vv ww kr vr nr
  |7=>Ga W0.heap.size vv ww kr
  |10=>JP W0.heap.size (ll 11) vv ww kr
  |_=>True) (λll ww=>Below W0.heap.size W0 ww) ?_ ?_ ?_ ?_ ?_ ?_
 .exact A8 (yD _ _) 1
 .intro j hj ll i vv wz dT hi hS gg gN bA hz
  match j,hj with
  |5,_|6,_=>exact(L3.below hz bA)
  |7,_=>exact(Ga.below hz bA)
  |10,_=>exact(JP.below (by rw[GH (by rintro rfl;cases hS)];exact hz) bA)
  |0,_|1,_|2,_|3,_|4,_|8,_|9,_|11,_|12,_|13,_=>exact hz
 .intro ll i wz dT hi hS gg bA hg
  exact hg.trans (bA.mono hg.size)
 .intro i hi hS o ho a wx Hb ll Hd HL hG K HK
  have cY:=bc hG dG x0;have cX:=bc hG dG x1;have dx:=bc hG dG x2;have cW:=bc hG dG x3;have cV:=bc hG cf y0;have dw:=bc hG cf y1;have dv:=bc hG cf y2;have du:=bc hG cf y3;have dt:=bc hG cf y4;have ds:=bc hG cf y5
  match i,hi,hS with
  |0,_,_|1,_,_|2,_,_|12,_,_|13,_,_=>exact Wg ho HK Hb Hd HL
  |3,_,_=>exact Nl ho HK Hb Hd HL (hl:=Np ‹_› ‹_› ‹_› ‹_›)
  |4,_,_=>exact Nl ho HK Hb Hd HL (hl:=bS ‹_› ‹_› ‹_› ‹_› ‹_› ‹_›)
  |5,_,_=>exact bv ho HK Hb Hd HL (CC.out _ hG) (by rintro r w_ ⟨m',i',e',c',rfl,hO,bB⟩;exact⟨_,rfl,⟨m',i',e',c',rfl,hO.lower hG.size⟩,bB⟩)
  |11,_,hs=>cases hs
  |6,_,_=>clear cY cX dx cW cV dw dv du dt ds;obtain rfl:=yF ho;have d5:L3 W0.heap.size (a.tmps[14]?.getD undef) wx kr vr nr:=DV Hd HL 5;have dW:=Ba HL 11;clear Hd Hb;refine yE ?_;go_simp;exact HK.out _ _ d5 (yD _ _)
  |7,_,_=>clear cY cX dx cW cV dw dv du dt ds;obtain rfl:=yF ho;have d6:L3 W0.heap.size (a.tmps[8]?.getD undef) wx kr vr nr:=DV Hd HL 6;have dW:=Ba HL 11;clear Hd Hb;obtain⟨m',i',e',c',d6,hO⟩:=d6;refine yE ?_;go_simp;exact HK.out _ _ ⟨_,_,_,_,rfl,hO⟩ (yD _ _)
  |8,_,_|9,_,_=>clear cY cX dx cW cV dw dv du dt ds;obtain rfl:=yF ho;have d6:L3 W0.heap.size (a.tmps[8]?.getD undef) wx kr vr nr:=DV Hd HL 6;clear Hd Hb;obtain⟨m',i',e',c',d6,hO⟩:=d6;refine yE ?_;go_simp;exact HK.out _ _ rfl (yD _ _)
  |10,_,_=>clear cY cX dx cW cV dw dv du dt ds;obtain rfl:=yF ho;have dW:=Ba HL 11;clear Hd Hb;refine yE ?_;go_simp;exact HK.out _ _ ⟨_,rfl,hG.size,by rw[GH (by decide),dW];exact yv _ _⟩ (AE _ _)
 .intro i hi hS o ho a wx Hb ll Hd HL hG K HK
  match i,hi,hS with
  |0,_,hs|1,_,hs|2,_,hs|3,_,hs|4,_,hs|5,_,hs|6,_,hs|7,_,hs|8,_,hs|9,_,hs|10,_,hs|12,_,hs|13,_,hs=>cases hs
  |11,_,_=>
   obtain rfl:=yF ho;have gk:JP W0.heap.size (ll 11) (a.tmps[5]?.getD undef) wx kr:=DV Hd HL 10;have d7:Ga W0.heap.size (a.tmps[15]?.getD undef) wx kr:=DV Hd HL 7;clear Hd Hb;obtain⟨qb,gj,ex,bp⟩:=gk;rw[HL.out.1] at bp;replace bp:wx.heap[qb]?=some (.cells #[.slice none 0 0,.slice none 0 0,.slice none 0 0,.slice none 0 0] 28 (0,0)):=bp;obtain⟨m',i',e',c',d7,hO⟩:=d7;obtain⟨⟨va,vn,vc,rfl⟩,⟨wa,wn,wc,rfl⟩,⟨xa,xn,xc,rfl⟩,⟨ya,yn,yc,rfl⟩⟩:=hO.zQ;obtain⟨c0,gl,c2,c3⟩:=AG bp;have fq:=AK bp;have ae:=AA (Ao wx qb (.slice va vn vc) (.slice wa wn wc) (.slice xa xn xc) (.slice ya yn yc));have gD:=AA gj;have Hq:=AA bp;have HO:=AA hO;clear bp hO;refine yE ?_;go_simp;exact HK.out undef _ trivial (AM hG ae.out ex hG.size) (λj gJ fV fW hu=>match j,fV with
    |0,_|1,_|2,_|3,_|4,_|8,_|9,_|11,_|12,_|13,_=>hu
    |5,_|6,_=>L3.yL hu ae.out Hq.out
    |7,_=>Ga.yL hu ae.out Hq.out
    |10,_=>⟨qb,gD.out,ex,by rw[Gk];exact⟨_,_,_,_,Cs Hq.out,HO.out.yL ae.out Hq.out⟩⟩)
 .intro vs wx ll bi hR hG
  have cC:JP W0.heap.size (ll 11) (vs 10) wx kr:=BW hR 10;have eW:(vs 12)=.int .i64 vr:=BW hR 12;clear hR;simp only[De,Bb,yC,yz,yy,yw,eW];simp;generalize vs 10=z10 at cC ⊢;clear eW;obtain⟨qb,rfl,ex,bp⟩:=cC;rw[bi 11 (by decide),if_pos rfl] at bp;obtain⟨m',i',e',c',fa,hO⟩:=bp;clear bi;obtain⟨⟨ma,mn,mc,rfl⟩,⟨ia,iN,ic,rfl⟩,⟨ea,en,ec,rfl⟩,⟨qa,qn,qc,rfl⟩⟩:=hO.zQ;obtain⟨c0,gl,c2,c3⟩:=AG fa;have dO:=HI.out.below hG;have fg:=AK dO.yK;obtain⟨z0,z1,z2,z3,_⟩:=dO.cells;have R:=AA (HI.out.put hG (Nat.le_refl _) (yB ai (by omega)) hO);have R2:=AA ((hO.yL (Ao wx g (.slice ma mn mc) (.slice ia iN ic) (.slice ea en ec) (.slice qa qn qc)) dO.yK).lower (Nat.le_of_lt cf));have B:=AA (AM (Hb.out.trans (hG.mono (yB ai (by omega)))) (Ao wx g (.slice ma mn mc) (.slice ia iN ic) (.slice ea en ec) (.slice qa qn qc)) HI.out.yJ (yB ai (yB (by omega) hG.size)));have R3:=AA (AP ⟨b0.os,b0.tape,b0.output,b0.size,λk hk _=>b0.block k hk⟩ (AP ⟨hG.os,hG.tape,hG.output,hG.size,λk hk _=>hG.block k hk⟩ (Ao wx g (.slice ma mn mc) (.slice ia iN ic) (.slice ea en ec) (.slice qa qn qc))));clear dO hO fa x0 x1 x2 x3 y0 y1 y2 y3 y4 y5;go_wp2_with fail;go_ret;exact⟨rfl,⟨_,_,_,_,R.out,R2.out⟩,B.out,R3.out⟩
end Go.Proofs.YtpdjjjdkhedibaaGreatDoor
