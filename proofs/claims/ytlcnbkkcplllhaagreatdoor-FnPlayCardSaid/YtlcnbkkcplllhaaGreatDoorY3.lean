/-
  Packed:24 texts.
-/
import Derived.Test.YtlcnbkkcplllhaaGreatDoorY1
import Derived.Test.YtlcnbkkcplllhaaGreatDoorY2
import Derived.Deep.DeepCutAuto
import Derived.Deep.CutBlock
import Derived.Lib.Strings
import Derived.WalkKit
set_option linter.unusedVariables false
set_option linter.unusedSimpArgs false
set_option maxHeartbeats 16000000
set_option maxRecDepth 100000
open Go Go.Proofs.YtlcnbkkcplllhaaGreatDoor
open And renaming intro->yj
open Bool renaming and_eq_true->yC,eq_iff_iff->wL,or_eq_true->xL,true_and->wv
open Go.Exit renaming inBlock->xS
open Go.Proofs.Tryz renaming results150->uP,results190->rW,results191->uQ
open Go.RowKit.Below renaming refl->yN
open Go.Value renaming int->yl,slice->xv
open Go.Value.slice renaming injEq->xQ
open Go.World renaming block_lt_of_cell?->yK,ownsRow_nil->xo
open Go.World.ownsRow renaming lt->yE
open Go renaming bodyPost_ret->yB,cell_of_row->yx,cell_regrown->yv,heap_alloc_new->yy,heap_setCell_same->yA
open Int renaming toNat_natCast->yq
open List renaming all_eq_false->wZ,all_eq_true->ym,contains_iff_mem->uA,countP_cons->xE,filter_append->wE,filter_cons->vP,filter_nil->vo,foldl_append->tU,foldl_cons->yJ,foldl_nil->yH,getElem?_eq_some_iff->yD,getElem?_set->vE,length_append->yz,length_map->uJ,length_set->yi,length_singleton->xP,mem_append->wI,mem_filter->wQ,mem_of_getElem?->yw,mem_range->yh,mem_singleton->xy,range->yL,range_succ->xj,replicate->xZ
open List.range renaming loop->yI
open Nat renaming eq_zero_or_pos->wJ,le_add_right->wt,le_refl->yF,le_trans->yM,lt_of_lt_of_le->yt,not_lt_zero->xU,zero_le->yu
open Go renaming World->Ω,Value->Φ,Calls->Ξ,undef->Θ
open Go.RowKit renaming Below->Γ
variable {a f j n q:Nat} {p:AR} {r:List Int} {kind:Int} {w' w1 w2:Ω} {v:Φ} {t:Bool} {ss:List ByteArray}
namespace Go.Proofs.YtlcnbkkcplllhaaGreatDoor
open Go.Proofs.Tryz
variable{T b0 ex g lo:Nat}
theorem SV:EP g 0=false:=by simp[EP,Bx]
theorem UZ{f:Int}(h0:0<=f)(L:f<=11)(g:Nat):EP g (Ii f)=decide (g=f.toNat):=by
 obtain⟨x,y,_⟩:=IT h0 L;unfold EP;rw[x,y,wv]
 by_cases e:f.toNat=g
 .simp[e]
 have:¬g=f.toNat:=λh=>e h.symm
 simp[e,this]
theorem Dz.zq (h:Dz p){n i:Nat}(R:n<16)(hw:(AD p.XY n).w=1)(D:i<4):(Bf p.low i).toNat≠(AD p.XY n).a.toNat:=λe=>by have L:=h.zU D;have K:=h.zR R hw;rw[e] at L;omega
theorem Dz.zf (h:Dz p){n:Nat}(R:n<16)(hw:(AD p.XY n).w=1):(Ab p.Ve 0).toNat≠(AD p.XY n).a.toNat:=λe=>by have L:=h.zK;have K:=h.zR R hw;rw[e] at L;omega
theorem Dz.zh (h:Dz p){i:Nat}(D:i<4):(Ab p.Ve 0).toNat≠(Bf p.low i).toNat:=λe=>by have L:=h.zK;have K:=h.zU D;rw[e] at L;omega
theorem dw{m:Nat}(L:n/4=m/4)(K:n%4=m%4):n=m:=ω
theorem Dz.tab_ne (h:Dz p){n m:Nat}(R:n<16)(hm:m<16)(bP:m≠n):¬((Bf p.low (m/4)).toNat=(Bf p.low (n/4)).toNat/\m%4=n%4):=λ⟨e1,e2⟩=>bP (dw (h.ze ω ω e1) e2)
theorem Dz.rowl (h:Dz p){f:Nat}(hf:f<12):(AJ p.Ve.mem f).length=4:=h.k.row hf
theorem Dz.meml (h:Dz p):p.Ve.mem.length=12:=(Ak.1 h.k.mem).1
variable{k:AQ}
variable{FV b:Int}
theorem F6 (h:Dg k){kind a c:Int}:Dg (Ad k (Ah kind a b c)).1:=OR h ⟨Int.le_refl 0,(ψ:(0:Int)<=2)⟩
theorem cU (h:Dz p){n:Nat}(R:n<16)(hw:(AD p.XY n).w=1):JK (Eu p n).Ve.ZJ g=if g=(AD p.XY n).a.toNat then AW.zero else JK p.Ve.ZJ g:=by
 rw[Po h R hw];have fk:=h.zR R hw;obtain⟨f1,f2,f3⟩:=h.zQ R hw
 show JK ((BI (BI p.Ve.ZJ (Aw p.Ve.mem (Bf p.low (n/4)).toNat (n%4)) (-1)) 0 1).set _ AW.zero) g=_
 rw[IP,Cy,Cy]
 by_cases e:g=(AD p.XY n).a.toNat
 .rw[if_pos ⟨e,by rw[h.k.len];exact fk.1⟩,if_pos e]
 rw[if_neg (λh=>e h.1),if_neg e,GE (by rw[Cy];exact h.k.len),GE h.k.len]
 have e1:EP g (Aw p.Ve.mem (Bf p.low (n/4)).toNat (n%4))=false:=by
  rcases h.XY n R with⟨a,_⟩|⟨_,b,c,_⟩|⟨a,_⟩
  .omega
  .have c':Aw p.Ve.mem (Bf p.low (n/4)).toNat (n%4)=Ii (AD p.XY n).a:=c
   rw[c',UZ b.1 b.2];exact decide_eq_false e
  omega
 rw[e1,SV];simp[Eg]
theorem fE (h:Dz p){n:Nat}(R:n<16)(hw:(AD p.XY n).w=1){f i:Nat}:Aw (Eu p n).Ve.mem f i=if f=(Bf p.low (n/4)).toNat/\i=n%4 then 0 else Aw p.Ve.mem f i:=by rw[Po h R hw];have hl:=h.zU (i:=n/4) ω;exact TE (by rw[h.meml];exact hl.1) (by rw[h.rowl hl.1];omega)
theorem Se (h:Dz p){n:Nat}(R:n<16)(hw:(AD p.XY n).w=1)(e:Nat):Ab (Eu p n).Ve e=Ab p.Ve e/\BM (Eu p n).Ve e=BM p.Ve e:=by rw[Po h R hw];exact⟨rfl,rfl⟩
theorem Ln{s:List (List Int)}{k:Nat}(hk:k<s.length):AJ (s.set k r) j=if j=k then r else AJ s j:=by
 rw[Pu]
 by_cases e:j=k
 .rw[if_pos ⟨e,hk⟩,if_pos e]
 rw[if_neg (λh=>e h.1),if_neg e]
variable{ZJ:List AW}
theorem dk (hf:f<ZJ.length)(h:(JK ZJ f).k=0):0<=Ao ZJ:=by unfold Ao;rw[if_pos (LU.2 ⟨_,Dl (d:=AW.zero) hf,by unfold JK at h;simpa using h⟩)];omega
theorem VZ (h:Dz p){n:Nat}(R:n<16)(hw:(AD p.XY n).w=1):
 Dz (Eu p n)/\(∀a,a<64->Gh (Eu p n) a=Gh p a)/\Al (Eu p n).XY 1+1=Al p.XY 1/\0<=Ao (Eu p n).Ve.ZJ:=by
 have fd:=h.slot R ω;obtain⟨f1,f2,f3⟩:=h.zQ R hw;have fk:=h.zR R hw;have hM:=λg=>cU h R hw (g:=g)
 have gu:=λf i=>fE h R hw (f:=f) (i:=i)
 have lk:(Eu p n).XY=p.XY.set n ⟨2,Bt p.swap,false⟩:=rfl;have nF:(Eu p n).swap=p.swap.set (Bt p.swap).toNat (AJ p.Ve.mem (AD p.XY n).a.toNat):=rfl;have mu:(Eu p n).low=p.low:=rfl;have kp:∀m,AD (Eu p n).XY m=if m=n then⟨2,Bt p.swap,false⟩ else AD p.XY m:=λm=>by
  rw[lk,EQ]
  by_cases e:m=n
  .rw[if_pos ⟨e,by rw[h.zY];exact R⟩,if_pos e]
  rw[if_neg (λh=>e h.1),if_neg e]
 have g9:∀s,AJ (Eu p n).swap s=if s=(Bt p.swap).toNat then AJ p.Ve.mem (AD p.XY n).a.toNat else AJ p.swap s:=λs=>by rw[nF,Ln (by rw[h.zN];exact fd.2.1)]
 have gv:EW (AJ p.Ve.mem (AD p.XY n).a.toNat)=true:=(Ak.1 h.k.mem).2 _ fk.1;have iT:AJ p.Ve.mem (AD p.XY n).a.toNat≠[]:=λe=>by have:=(BG.1 gv).1;rw[e] at this;simp at this
 have jr:Al (Eu p n).XY 1+1=Al p.XY 1:=by
  have:=Pa (l:=p.XY) (n:=n) (y:=⟨2,Bt p.swap,false⟩) (w:=1) (by rw[h.zY];exact R);rw[lk];have e1:Eg (Pg 1 (AD p.XY n))=1:=by simp[Pg,hw,Eg]
  have e2:Eg (Pg 1 ⟨2,Bt p.swap,false⟩)=0:=by simp[Pg,Eg]
  omega
 have df:∀g,g≠(AD p.XY n).a.toNat->Lz p.Ve.ZJ g->Lz (Eu p n).Ve.ZJ g:=λg hg hm=>by unfold Lz;rw[hM g,if_neg hg];exact hm
 have lj:=(Se h R hw 0).1;have hL:Dg (Eu p n).Ve:=F6 (F6 h.k);refine⟨⟨hL,?_,?_,?_,?_,?_,?_,?_,?_,?_,?_,?_,h.FV,h.U4,?_⟩,?_,jr,?_⟩
 .rw[nF,yi];exact h.zN
 .intro s hs
  rw[g9 s]
  by_cases e:s=(Bt p.swap).toNat
  .rw[if_pos e];exact .inr gv
  rw[if_neg e];exact h.zF s hs
 .rw[(Se h R hw 0).2];exact h.may
 .intro e L K
  rw[(Se h R hw e).2];exact h.alone e L K
 .rw[lj];exact h.root
 .exact h.zD
 .rw[lj];exact df _ (h.zf R hw) h.yW
 .intro i D
  obtain⟨a,b,c,d⟩:=h.lows i D;refine⟨a,b,?_,df _ (h.zq R hw D) d⟩;rw[lj,gu,if_neg (λe=>h.zh (i:=n/4) ω e.1)];exact c
 .rw[lk,yi];exact h.zY
 .intro s hs
  have L:=Ow (l:=p.XY) (n:=n) (s:=s) (y:=⟨2,Bt p.swap,false⟩) (by rw[h.zY];exact R);have e1:Eg (DZ s (AD p.XY n))=0:=by simp[DZ,hw,Eg]
  have K:=h.slots s hs;rw[g9 s,lk]
  by_cases e:s=(Bt p.swap).toNat
  .rw[if_pos e]
   have e2:Eg (DZ s ⟨2,Bt p.swap,false⟩)=1:=by
    have:Bt p.swap=(s:Int):=ω;simp[DZ,this,Eg]
   rw[if_neg (by rw[Jz];exact iT)];rw[e,fd.2.2] at K;rw[<-e] at K;simp at K;omega
  rw[if_neg e]
  have e2:Eg (DZ s ⟨2,Bt p.swap,false⟩)=0:=by
   have:¬Bt p.swap=(s:Int):=ω;simp[DZ,this,Eg]
  omega
 .intro m hm
  have kl:Ce (Eu p n) m=if m=n then 0 else Ce p m:=by
   unfold Ce;rw[mu,gu]
   by_cases e:m=n
   .subst e;rw[if_pos ⟨rfl,rfl⟩,if_pos rfl]
   rw[if_neg (h.tab_ne R hm e),if_neg e]
  unfold LT;rw[kp m,kl]
  by_cases e:m=n
  .simp only[if_pos e]
   refine .inr (.inr ⟨χ,⟨fd.1,by have:=fd.2.1;show Bt p.swap<=15;omega⟩,?_,χ,χ⟩);rw[g9,if_pos rfl];exact iT
  simp only[if_neg e]
  rcases h.XY m hm with x|⟨z,x2,x3,x4⟩|⟨z,x2,x3,x4,x5⟩
  .exact .inl x
  .refine .inr (.inl ⟨z,x2,x3,df _ (λe'=>e (h.zl hm R z hw e')) x4⟩)
  refine .inr (.inr ⟨z,x2,?_,x4,x5⟩)
  rw[g9,if_neg]
  .exact x3
  intro e'
  rw[e'] at x3;exact x3 fd.2.2
 .have:=h.count
  show(Al (Eu p n).XY 1:Int)<=p.U4
  omega
 .intro a ha
  unfold Gh;rw[kp (a/4)]
  by_cases e:a/4=n
  .subst e
   rw[if_pos rfl,if_neg (ψ:¬(2:Int)=1),if_pos (show(2:Int)=2 from rfl),if_pos hw];unfold Aw;rw[g9,if_pos rfl]
  rw[if_neg e]
  by_cases w1:(AD p.XY (a/4)).w=1
  .rw[if_pos w1,if_pos w1,gu,if_neg (λe'=>h.zq (i:=n/4) (n:=a/4) ω w1 ω e'.1.symm)]
  rw[if_neg w1,if_neg w1]
  by_cases w2:(AD p.XY (a/4)).w=2
  .rw[if_pos w2,if_pos w2]
   unfold Aw;rw[g9,if_neg]
   rcases h.XY (a/4) ω with⟨x,_⟩|⟨x,_⟩|⟨z,x2,x3,x4,x5⟩
   .omega
   .omega
   intro e'
   rw[e'] at x3;exact x3 fd.2.2
  rw[if_neg w2,if_neg w2]
 have bs:(Eu p n).Ve.ZJ.length=12:=hL.len
 exact dk (f:=(AD p.XY n).a.toNat) (by rw[bs];exact fk.1) (by rw[hM,if_pos rfl];rfl)
theorem set4{x:List Int}(hx:x.length=4)(h:r.length=4):(((x.set 0 (r.getD 0 0)).set 1 (r.getD 1 0)).set 2 (r.getD 2 0)).set 3 (r.getD 3 0)=r:=by
 match x,hx,r,h with
 | [_,_,_,_],_,[a,b,c,d],_=>rfl
theorem Un{m:List (List Int)}{i:Nat}{w:Int}:Cs m f i w=m.set f ((AJ m f).set i w):=Ou
theorem Pw{m:List (List Int)}{i:Nat}{w:Int}(hf:f<m.length):Cs (m.set f r) f i w=m.set f (r.set i w):=by rw[Un,Ln hf,if_pos rfl,List.set_set]
theorem cY (hm:Ci (BM k 0) gA=true){f:Int}(h0:0<=f)(L:f<=11)(hl:k.mem.length=12)(hk:A5 k f.toNat=1)(hg:(JK k.ZJ f.toNat).g=gA)(nL:(AJ k.mem f.toNat).length=4){ws:List Int}(hw:EW ws=true):
 Wy k f ws= {k with mem:=k.mem.set f.toNat ws}:=by
 obtain⟨o8,o7⟩:=BG.1 hw;have ok:∀i,i<4->EJ (ws.getD i 0)=true:=λi D=>Aa.2 (o7 _ (Dl ω))
 have hf:f.toNat<k.mem.length:=by rw[hl];omega
 have st:∀(k':AQ)(i:Nat),k'.ZJ=k.ZJ->k'.XX=k.XX->i<4->(Ad k' (Ah 3 f (i:Nat) (ws.getD i 0))).1= {k' with mem:=Cs k'.mem f.toNat i (ws.getD i 0)}:=λk' i e1 e2 D=>by
  have jk:Ci (BM k' 0) gA=true:=by unfold BM;rw[e2];exact hm
  rw[aC jk h0 L (by unfold A5;rw[e1];exact hk) (by rw[e1];exact hg) D (ok i D)]
 have e:(yL 4)=[0,1,2,3]:=rfl;unfold Wy;rw[e];simp only[yJ,yH];rw[st k 0 rfl rfl ω];rw[st {k with mem:=Cs k.mem f.toNat 0 (ws.getD 0 0)} 1 rfl rfl ω];rw[st {k with mem:=Cs (Cs k.mem f.toNat 0 (ws.getD 0 0)) f.toNat 1 (ws.getD 1 0)} 2 rfl rfl ω];rw[st {k with mem:=Cs (Cs (Cs k.mem f.toNat 0 (ws.getD 0 0)) f.toNat 1 (ws.getD 1 0)) f.toNat 2 (ws.getD 2 0)} 3 rfl rfl ω]
 congr 1
 show Cs (Cs (Cs (Cs k.mem f.toNat 0 _) f.toNat 1 _) f.toNat 2 _) f.toNat 3 _=_
 rw[Un (m:=k.mem),Pw hf,Pw hf,Pw hf,set4 nL o8]
def Ik(k:AQ)(f t b:Nat)(row:List Int):AQ:=JL {k with ZJ:=k.ZJ.set f ⟨1,gA,0⟩,mem:=k.mem.set f row} t b (Ii f)
theorem Xy (h:Dz p){n:Nat}(R:n<16)(hw:(AD p.XY n).w≠1)(hf:0<=Ao p.Ve.ZJ):
 Qi p n=({p with Ve:=Ik p.Ve (Ao p.Ve.ZJ).toNat (Bf p.low (n/4)).toNat (n%4) (if(AD p.XY n).w=2 then AJ p.swap (AD p.XY n).a.toNat else[0,0,0,0]),swap:=if(AD p.XY n).w=2 then p.swap.set (AD p.XY n).a.toNat [] else p.swap,XY:=p.XY.set n ⟨1,Ao p.Ve.ZJ,true⟩},true)/\
 Dg (Ik p.Ve (Ao p.Ve.ZJ).toNat (Bf p.low (n/4)).toNat (n%4) (if(AD p.XY n).w=2 then AJ p.swap (AD p.XY n).a.toNat else[0,0,0,0])):=by
 obtain⟨g1,g2,g3⟩:=GO (ZJ:=p.Ve.ZJ) ω;have bs:=h.k.len;rw[bs] at g1;have hl:=h.lows (n/4) ω;have kw:=h.zU (i:=n/4) ω;have ku:=h.meml;have bP:(Bf p.low (n/4)).toNat≠(Ao p.Ve.ZJ).toNat:=λe=>by have:=kw.2;unfold A5 at this;rw[e,g2] at this;omega
 have e1:=NF (k:=p.Ve) h.may hf (a:=0) (b:=0) (c:=0);have jm:Dg (Ad p.Ve (Ah 1 0 0 0)).1:=F6 h.k;rw[e1] at jm;have ej:∀g,JK (p.Ve.ZJ.set (Ao p.Ve.ZJ).toNat ⟨1,gA,0⟩) g=if g=(Ao p.Ve.ZJ).toNat then⟨1,gA,0⟩ else JK p.Ve.ZJ g:=λg=>by
  rw[IP,bs]
  by_cases e:g=(Ao p.Ve.ZJ).toNat
  .rw[if_pos ⟨e,g1⟩,if_pos e]
  rw[if_neg (λh=>e h.1),if_neg e]
 have e2:(if(AD p.XY n).w=2 then Wy {p.Ve with ZJ:=p.Ve.ZJ.set (Ao p.Ve.ZJ).toNat ⟨1,gA,0⟩,mem:=p.Ve.mem.set (Ao p.Ve.ZJ).toNat [0,0,0,0]} (Ao p.Ve.ZJ) (AJ p.swap (AD p.XY n).a.toNat) else {p.Ve with ZJ:=p.Ve.ZJ.set (Ao p.Ve.ZJ).toNat ⟨1,gA,0⟩,mem:=p.Ve.mem.set (Ao p.Ve.ZJ).toNat [0,0,0,0]})=
  {p.Ve with ZJ:=p.Ve.ZJ.set (Ao p.Ve.ZJ).toNat ⟨1,gA,0⟩,mem:=p.Ve.mem.set (Ao p.Ve.ZJ).toNat (if(AD p.XY n).w=2 then AJ p.swap (AD p.XY n).a.toNat else[0,0,0,0])}:=by
  by_cases w2:(AD p.XY n).w=2
  .rw[if_pos w2,if_pos w2]
   have iD:EW (AJ p.swap (AD p.XY n).a.toNat)=true:=by
    rcases h.XY n R with⟨x,_⟩|⟨x,_⟩|⟨z,x2,x3,x4,x5⟩
    .omega
    .omega
    rcases h.zF (AD p.XY n).a.toNat ω with x|x
    .exact absurd x x3
    exact x
   rw[cY (k:= {p.Ve with ZJ:=p.Ve.ZJ.set (Ao p.Ve.ZJ).toNat ⟨1,gA,0⟩,mem:=p.Ve.mem.set (Ao p.Ve.ZJ).toNat [0,0,0,0]}) h.may hf ω (by show(p.Ve.mem.set _ _).length=12;rw[yi];exact ku) (by unfold A5;rw[ej,if_pos rfl]) (by rw[ej,if_pos rfl]) (by show(AJ (p.Ve.mem.set _ _) _).length=4;rw[Ln ω,if_pos rfl];rfl) iD]
   show AQ.mk _ _ _ _=AQ.mk _ _ _ _
   rw[List.set_set]
  rw[if_neg w2,if_neg w2]
 have iD:EW (if(AD p.XY n).w=2 then AJ p.swap (AD p.XY n).a.toNat else[0,0,0,0])=true:=by
  by_cases w2:(AD p.XY n).w=2
  .rw[if_pos w2]
   rcases h.XY n R with⟨x,_⟩|⟨x,_⟩|⟨z,x2,x3,x4,x5⟩
   .omega
   .omega
   rcases h.zF (AD p.XY n).a.toNat ω with x|x
   .exact absurd x x3
   exact x
  rw[if_neg w2];rfl
 generalize hR:(if(AD p.XY n).w=2 then AJ p.swap (AD p.XY n).a.toNat else[0,0,0,0])=row at e2 iD ⊢;have nW:Dg {p.Ve with ZJ:=p.Ve.ZJ.set (Ao p.Ve.ZJ).toNat ⟨1,gA,0⟩,mem:=p.Ve.mem.set (Ao p.Ve.ZJ).toNat row}:=by have:=Dg.data h.k g1 (.inl g2) iD (x:=⟨1,gA,0⟩) (.inr ⟨ψ,ψ,ψ⟩) (.inr rfl) (by rw[Dg.zC h.k g1 g2]) (.inr (Dg.zC h.k g1 g2)) h.k.XU h.k.trans;exact this
 have e3:=XF nW h.may h.alone hl.1 hl.2.1 (by unfold A5;rw[ej,if_neg bP];exact kw.2) (by rw[ej,if_neg bP];exact hl.2.2.2.1) (b:=n%4) ω (w:=Ii (Ao p.Ve.ZJ)) (.inr ⟨_,hf,ω,rfl,by unfold A5;rw[ej,if_pos rfl],by rw[ej,if_pos rfl]⟩);have e4:((Ao p.Ve.ZJ).toNat:Int)=Ao p.Ve.ZJ:=ω;have jT:=F6 nW (kind:=6) (a:=Bf p.low (n/4)) (b:=((n%4:Nat):Int)) (c:=Ii (Ao p.Ve.ZJ));rw[e3] at jT;refine⟨?_,by unfold Ik;rw[e4];exact jT⟩;unfold Qi;rw[e1];simp only;rw[if_neg χ,e2];unfold JN;rw[e3];unfold Ik;rw[e4]
theorem Dz.tab_zero (h:Dz p){n:Nat}(R:n<16)(hw:(AD p.XY n).w≠1):Ce p n=0:=by
 rcases h.XY n R with⟨_,_,_,x⟩|⟨x,_⟩|⟨_,_,_,_,x⟩
 .exact x
 .exact absurd x hw
 exact x
theorem VK (h:Dz p){n:Nat}(R:n<16)(hw:(AD p.XY n).w≠1)(hf:0<=Ao p.Ve.ZJ)(hc:(Al p.XY 1:Int)+1<=p.U4):
 Dz (Qi p n).1/\(Qi p n).2=true/\(∀a,a<64->Gh (Qi p n).1 a=Gh p a)/\Al (Qi p n).1.XY 1=Al p.XY 1+1/\(Qi p n).1.XY=p.XY.set n ⟨1,Ao p.Ve.ZJ,true⟩:=by
 obtain⟨ej,hL⟩:=Xy h R hw hf;obtain⟨g1,g2,g3⟩:=GO (ZJ:=p.Ve.ZJ) ω;have bs:=h.k.len;rw[bs] at g1;generalize hR:(if(AD p.XY n).w=2 then AJ p.swap (AD p.XY n).a.toNat else[0,0,0,0])=row at ej hL;generalize hS:(if(AD p.XY n).w=2 then p.swap.set (AD p.XY n).a.toNat [] else p.swap)=sw at ej;have ku:=h.meml;have hl:=h.lows (n/4) ω;have kw:=h.zU (i:=n/4) ω;have l3:∀g,A5 p.Ve g≠0->g≠(Ao p.Ve.ZJ).toNat:=λg hg e=>by unfold A5 at hg;rw[e] at hg;exact hg g2
 have km:(Ab p.Ve 0).toNat≠(Ao p.Ve.ZJ).toNat:=l3 _ (by rw[h.zK.2];decide);have hD:∀i,i<4->(Bf p.low i).toNat≠(Ao p.Ve.ZJ).toNat:=λi D=>l3 _ (by rw[(h.zU D).2];decide)
 have kF:∀m,m<16->(AD p.XY m).w=1->(AD p.XY m).a.toNat≠(Ao p.Ve.ZJ).toNat:=λm hm pi=>l3 _ (by rw[(h.zR hm pi).2];decide)
 have gv:EW row=true:=by
  rw[<-hR]
  by_cases w2:(AD p.XY n).w=2
  .rw[if_pos w2]
   rcases h.XY n R with⟨x,_⟩|⟨x,_⟩|⟨z,x2,x3,x4,x5⟩
   .omega
   .omega
   rcases h.zF (AD p.XY n).a.toNat ω with x|x
   .exact absurd x x3
   exact x
  rw[if_neg w2];rfl
 have nL:=(BG.1 gv).1;have e0:Aw (p.Ve.mem.set (Ao p.Ve.ZJ).toNat row) (Bf p.low (n/4)).toNat (n%4)=0:=by unfold Aw;rw[Ln ω,if_neg (hD _ ω)];exact h.tab_zero R hw
 have e4:((Ao p.Ve.ZJ).toNat:Int)=Ao p.Ve.ZJ:=ω;have gu:∀f i,Aw (Ik p.Ve (Ao p.Ve.ZJ).toNat (Bf p.low (n/4)).toNat (n%4) row).mem f i=if f=(Bf p.low (n/4)).toNat/\i=n%4 then Ii (Ao p.Ve.ZJ) else if f=(Ao p.Ve.ZJ).toNat then row.getD i 0 else Aw p.Ve.mem f i:=λf i=>by
  unfold Ik JL
  show Aw (Cs (p.Ve.mem.set (Ao p.Ve.ZJ).toNat row) _ _ _) f i=_
  rw[TE (by rw[yi,ku];exact kw.1) (by rw[Ln ω,if_neg (hD _ ω),h.rowl kw.1];omega),e4]
  congr 1
  unfold Aw;rw[Ln ω]
  by_cases e:f=(Ao p.Ve.ZJ).toNat
  .rw[if_pos e,if_pos e]
  rw[if_neg e,if_neg e]
 have hM:∀g,JK (Ik p.Ve (Ao p.Ve.ZJ).toNat (Bf p.low (n/4)).toNat (n%4) row).ZJ g=if g=(Ao p.Ve.ZJ).toNat then⟨1,gA,1⟩ else JK p.Ve.ZJ g:=λg=>by
  unfold Ik JL
  show JK (BI (BI (p.Ve.ZJ.set (Ao p.Ve.ZJ).toNat ⟨1,gA,0⟩) (Aw (p.Ve.mem.set (Ao p.Ve.ZJ).toNat row) _ _) (-1)) (Ii _) 1) g=_
  rw[GE (by rw[Cy,yi];exact bs),GE (by rw[yi];exact bs),e0,SV,e4,UZ hf ω,IP,bs]
  by_cases e:g=(Ao p.Ve.ZJ).toNat
  .rw[if_pos ⟨e,g1⟩,if_pos e]
   simp[Eg,e]
  rw[if_neg (λh=>e h.1),if_neg e]
  simp[Eg,e]
 have kp:∀m,AD (p.XY.set n ⟨1,Ao p.Ve.ZJ,true⟩) m=if m=n then⟨1,Ao p.Ve.ZJ,true⟩ else AD p.XY m:=λm=>by
  rw[EQ]
  by_cases e:m=n
  .rw[if_pos ⟨e,by rw[h.zY];exact R⟩,if_pos e]
  rw[if_neg (λh=>e h.1),if_neg e]
 have jr:Al (p.XY.set n ⟨1,Ao p.Ve.ZJ,true⟩) 1=Al p.XY 1+1:=by
  have:=Pa (l:=p.XY) (n:=n) (y:=⟨1,Ao p.Ve.ZJ,true⟩) (w:=1) (by rw[h.zY];exact R);have e1:Eg (Pg 1 (AD p.XY n))=0:=by simp[Pg,hw,Eg]
  have e2:Eg (Pg 1 ⟨1,Ao p.Ve.ZJ,true⟩)=1:=by simp[Pg,Eg]
  omega
 have df:∀g,g≠(Ao p.Ve.ZJ).toNat->Lz p.Ve.ZJ g->Lz (Ik p.Ve (Ao p.Ve.ZJ).toNat (Bf p.low (n/4)).toNat (n%4) row).ZJ g:=λg hg hm=>by unfold Lz;rw[hM g,if_neg hg];exact hm
 have pj:Lz (Ik p.Ve (Ao p.Ve.ZJ).toNat (Bf p.low (n/4)).toNat (n%4) row).ZJ (Ao p.Ve.ZJ).toNat:=by unfold Lz;rw[hM,if_pos rfl];exact⟨rfl,rfl⟩
 have g9:∀s,AJ sw s=if(AD p.XY n).w=2/\s=(AD p.XY n).a.toNat then[] else AJ p.swap s:=λs=>by
  rw[<-hS]
  by_cases w2:(AD p.XY n).w=2
  .rcases h.XY n R with⟨x,_⟩|⟨x,_⟩|⟨z,x2,x3,x4,x5⟩
   .omega
   .omega
   rw[if_pos w2,Ln (by rw[h.zN];omega)]
   by_cases e:s=(AD p.XY n).a.toNat
   .rw[if_pos e,if_pos ⟨w2,e⟩]
   rw[if_neg e,if_neg (λh=>e h.2)]
  rw[if_neg w2,if_neg (λh=>w2 h.1)]
 have mp:sw.length=16:=by
  rw[<-hS]
  split
  .rw[yi];exact h.zN
  exact h.zN
 rw[ej];have gq:∀m,m<16->m≠n->(AD p.XY m).w=2->¬((AD p.XY n).w=2/\(AD p.XY m).a.toNat=(AD p.XY n).a.toNat):=by
  rintro m hm bP m2 ⟨n2,e⟩;have r1:0<=(AD p.XY m).a/\(AD p.XY m).a<=15:=by
   rcases h.XY m hm with⟨x,_⟩|⟨x,_⟩|⟨z,x2,x3,x4,x5⟩
   .omega
   .omega
   exact x2
  have r2:0<=(AD p.XY n).a/\(AD p.XY n).a<=15:=by
   rcases h.XY n R with⟨x,_⟩|⟨x,_⟩|⟨z,x2,x3,x4,x5⟩
   .omega
   .omega
   exact x2
  have hs:=h.slots (AD p.XY n).a.toNat ω;have L:=Ow (l:=p.XY) (n:=n) (s:=(AD p.XY n).a.toNat) (y:=⟨0,0,false⟩) (by rw[h.zY];exact R);have K:=Ow (l:=p.XY.set n ⟨0,0,false⟩) (n:=m) (s:=(AD p.XY n).a.toNat) (y:=⟨0,0,false⟩) (by rw[yi,h.zY];exact hm);rw[EQ,if_neg (λh=>bP h.1)] at K;have b1:Eg (DZ (AD p.XY n).a.toNat (AD p.XY n))=1:=by
   have:(AD p.XY n).a=(((AD p.XY n).a.toNat:Nat):Int):=ω;unfold DZ;rw[decide_eq_true n2,decide_eq_true this];rfl
  have b2:Eg (DZ (AD p.XY n).a.toNat (AD p.XY m))=1:=by
   have:(AD p.XY m).a=(((AD p.XY n).a.toNat:Nat):Int):=ω;unfold DZ;rw[decide_eq_true m2,decide_eq_true this];rfl
  have b3:Eg (DZ (AD p.XY n).a.toNat ⟨0,0,false⟩)=0:=by simp[DZ,Eg]
  split at hs<;>omega
 refine⟨⟨hL,mp,?_,h.may,h.alone,h.root,h.zD,df _ km h.yW,?_,?_,?_,?_,h.FV,h.U4,?_⟩,rfl,?_,jr,rfl⟩
 .intro s hs
  rw[g9 s]
  split
  .exact .inl rfl
  exact h.zF s hs
 .intro i D
  obtain⟨a,b,c,d⟩:=h.lows i D;refine⟨a,b,?_,df _ (hD i D) d⟩
  show Aw (Ik p.Ve _ _ _ row).mem (Ab p.Ve 0).toNat i=_
  rw[gu,if_neg (λe=>h.zh (i:=n/4) ω e.1),if_neg km];exact c
 .show(p.XY.set n _).length=16
  rw[yi];exact h.zY
 .intro s hs
  have L:=Ow (l:=p.XY) (n:=n) (s:=s) (y:=⟨1,Ao p.Ve.ZJ,true⟩) (by rw[h.zY];exact R);have e2:Eg (DZ s ⟨1,Ao p.Ve.ZJ,true⟩)=0:=by simp[DZ,Eg]
  have K:=h.slots s hs
  show Cq (p.XY.set n _) s=if(AJ sw s).isEmpty then 0 else 1
  rw[g9 s]
  by_cases e:(AD p.XY n).w=2/\s=(AD p.XY n).a.toNat
  .rw[if_pos e]
   have a0:0<=(AD p.XY n).a/\AJ p.swap (AD p.XY n).a.toNat≠[]:=by
    rcases h.XY n R with⟨x,_⟩|⟨x,_⟩|⟨z,x2,x3,x4,x5⟩
    .omega
    .omega
    exact⟨x2.1,x3⟩
   have e1:Eg (DZ s (AD p.XY n))=1:=by
    have:(AD p.XY n).a=(s:Int):=ω;unfold DZ;rw[decide_eq_true e.1,decide_eq_true this];rfl
   rw[if_neg (by rw[Jz,e.2];exact a0.2)] at K;simp;omega
  rw[if_neg e]
  have e1:Eg (DZ s (AD p.XY n))=0:=by
   unfold DZ
   by_cases w2:(AD p.XY n).w=2
   .have:¬(AD p.XY n).a=(s:Int):=λh=>e ⟨w2,ω⟩
    rw[decide_eq_false this];simp[Eg]
   rw[decide_eq_false w2];simp[Eg]
  omega
 .intro m hm
  have kl:Ce {p with Ve:=Ik p.Ve (Ao p.Ve.ZJ).toNat (Bf p.low (n/4)).toNat (n%4) row,swap:=sw,XY:=p.XY.set n ⟨1,Ao p.Ve.ZJ,true⟩} m=if m=n then Ii (Ao p.Ve.ZJ) else Ce p m:=by
   unfold Ce
   show Aw (Ik p.Ve _ _ _ row).mem (Bf p.low (m/4)).toNat (m%4)=_
   rw[gu]
   by_cases e:m=n
   .subst e;rw[if_pos ⟨rfl,rfl⟩,if_pos rfl]
   rw[if_neg (h.tab_ne R hm e),if_neg (hD _ ω),if_neg e]
  unfold LT;rw[kl]
  show(AD (p.XY.set n _) m).w=0/\(AD (p.XY.set n _) m).a=0/\(AD (p.XY.set n _) m).u=false/\_∨(AD (p.XY.set n _) m).w=1/\_/\_=Ii (AD (p.XY.set n _) m).a/\Lz _ (AD (p.XY.set n _) m).a.toNat∨(AD (p.XY.set n _) m).w=2/\_/\AJ sw (AD (p.XY.set n _) m).a.toNat≠[]/\(AD (p.XY.set n _) m).u=false/\_
  rw[kp m]
  by_cases e:m=n
  .simp only[if_pos e]
   exact .inr (.inl ⟨χ,⟨hf,by show Ao p.Ve.ZJ<=11;omega⟩,χ,pj⟩)
  simp only[if_neg e]
  rcases h.XY m hm with x|⟨z,x2,x3,x4⟩|⟨z,x2,x3,x4,x5⟩
  .exact .inl x
  .exact .inr (.inl ⟨z,x2,x3,df _ (kF m hm z) x4⟩)
  refine .inr (.inr ⟨z,x2,?_,x4,x5⟩)
  rw[g9,if_neg (gq m hm e z)];exact x3
 .show(Al (p.XY.set n _) 1:Int)<=p.U4
  omega
 intro a ha
 unfold Gh
 show(if(AD (p.XY.set n _) (a/4)).w=1 then Aw (Ik p.Ve _ _ _ row).mem (AD (p.XY.set n _) (a/4)).a.toNat (a%4) else if(AD (p.XY.set n _) (a/4)).w=2 then Aw sw (AD (p.XY.set n _) (a/4)).a.toNat (a%4) else 0)=_
 rw[kp (a/4)]
 by_cases e:a/4=n
 .subst e
  rw[if_pos rfl,if_pos (show(1:Int)=1 from rfl),gu,if_neg (λe'=>hD (a/4/4) ω e'.1.symm),if_pos rfl,if_neg hw,<-hR]
  by_cases w2:(AD p.XY (a/4)).w=2
  .rw[if_pos w2,if_pos w2];rfl
  rw[if_neg w2,if_neg w2]
  have:a%4=0∨a%4=1∨a%4=2∨a%4=3:=ω;rcases this with h|h|h|h<;>rw[h]<;>rfl
 rw[if_neg e]
 by_cases w1:(AD p.XY (a/4)).w=1
 .rw[if_pos w1,if_pos w1,gu,if_neg (λe'=>h.zq (i:=n/4) (n:=a/4) ω w1 ω e'.1.symm),if_neg (kF _ ω w1)]
 rw[if_neg w1,if_neg w1]
 by_cases w2:(AD p.XY (a/4)).w=2
 .rw[if_pos w2,if_pos w2]
  unfold Aw;rw[g9,if_neg (gq _ ω e w2)]
 rw[if_neg w2,if_neg w2]
def yV(FV:Int)(i:Nat):Nat:=((i:Int) - FV).toNat+(if(i:Int)<FV then((i:Int)+16 - FV).toNat else 0)
theorem WQ (h0:0<=FV):yV FV FV.toNat=0:=by
 unfold yV
 split<;>omega
theorem Rl (h0:0<=FV)(L:FV<=15){i:Nat}(D:i<16):yV FV i<16:=by
 unfold yV
 split<;>omega
theorem OV (h0:0<=FV)(L:FV<=15){i:Nat}(D:i<16)(bP:FV.toNat≠i):yV (FO FV) i+1=yV FV i:=by
 have e:FO FV=if FV=15 then 0 else FV+1:=by
  unfold FO
  split<;>omega
 rw[e];unfold yV
 split
 .subst_vars
  split<;>split<;>omega
 split<;>split<;>omega
theorem Rk (h0:0<=FV)(L:FV<=15):yV (FO FV) FV.toNat=15:=by
 have e:FO FV=if FV=15 then 0 else FV+1:=by
  unfold FO
  split<;>omega
 rw[e];unfold yV
 split
 .subst_vars
  split<;>omega
 split<;>omega
theorem Mu (h0:0<=FV)(L:FV<=15):0<=FO FV/\FO FV<=15:=by unfold FO;omega
variable{XY:List Bz}
theorem KX{i:Nat}:(AD (XY.set j (Oz (AD XY j))) i).w=(AD XY i).w/\(AD (XY.set j (Oz (AD XY j))) i).a=(AD XY i).a/\
 ((AD (XY.set j (Oz (AD XY j))) i).u=true->(AD XY i).u=true)/\(i≠j->AD (XY.set j (Oz (AD XY j))) i=AD XY i):=by
 rw[EQ]
 by_cases e:i=j/\j<XY.length
 .rw[if_pos e]
  obtain⟨rfl,_⟩:=e;exact⟨rfl,rfl,(λh=>by cases h),λh=>absurd rfl h⟩
 rw[if_neg e]
 exact⟨rfl,rfl,λh=>h,λ_=>rfl⟩
structure Dd(a b:List Bz):Prop where
 len:b.length=a.length
 w:∀i,(AD b i).w=(AD a i).w
 at':∀i,(AD b i).a=(AD a i).a
 u:∀i,(AD b i).u=true->(AD a i).u=true
theorem Dd.refl (a:List Bz):Dd a a:=⟨rfl,λ_=>rfl,λ_=>rfl,λ_ h=>h⟩
theorem Dd.step{a b:List Bz}(h:Dd (a.set j (Oz (AD a j))) b):Dd a b:=
 ⟨by rw[h.len,yi],λi=>(h.w i).trans KX.1,λi=>(h.at' i).trans KX.2.1,λi D=>KX.2.2.1 (h.u i D)⟩
theorem JP:∀(n:Nat)(XY:List Bz)(FV:Int),Dd XY (Ct n XY FV).1
 |0,XY,FV=>Dd.refl _
 |n+1,XY,FV=>by
  unfold Ct
  split
  .exact Dd.refl _
  exact(JP n _ _).step
theorem Kn:∀(n:Nat)(XY:List Bz)(FV:Int),0<=FV->FV<=15->0<=(Ct n XY FV).2.1/\(Ct n XY FV).2.1<=15
 |0,XY,FV,h0,L=>⟨h0,L⟩
 |n+1,XY,FV,h0,L=>by
  have:=Mu h0 L;unfold Ct
  split
  .exact this
  exact Kn n _ _ this.1 this.2
theorem Jg:∀(n:Nat)(XY:List Bz)(FV:Int),0<=FV->FV<=15->XY.length=16->∀i,i<16->(AD XY i).w=1->
 ((AD XY i).u=false/\yV FV i+1<=n)∨yV FV i+17<=n->∃m,(Ct n XY FV).2.2=some m
 |0,XY,FV,h0,L,hl,i,D,hw,h=>ω
 |n+1,XY,FV,h0,L,hl,i,D,hw,h=>by
  unfold Ct
  split
  .exact⟨_,rfl⟩
  next bX=>
  have R:=Mu h0 L;have hu:=KX (XY:=XY) (j:=FV.toNat) (i:=i);refine Jg n _ _ R.1 R.2 (by rw[yi];exact hl) i D (hu.1.trans hw) ?_
  by_cases e:FV.toNat=i
  .subst e
   rw[Rk h0 L];left
   rcases h with⟨h,_⟩|h
   .exact absurd ⟨hw,h⟩ bX
   refine⟨?_,ω⟩
   rw[EQ,if_pos ⟨rfl,ω⟩];rfl
  have hf:=OV h0 L D e
  rw[hu.2.2.2 (λh=>e h.symm)]
  rcases h with⟨h,h'⟩|h
  .exact .inl ⟨h,ω⟩
  exact .inr ω
theorem Ic:∀(n:Nat)(XY:List Bz)(FV:Int),0<=FV->FV<=15->∀m,(Ct n XY FV).2.2=some m->m<16/\(AD XY m).w=1
 |0,XY,FV,h0,L,m,h=>by cases h
 |n+1,XY,FV,h0,L,m,h=>by
  unfold Ct at h
  split at h
  .next hy=>
   cases h;exact⟨ω,hy.1⟩
  have R:=Mu h0 L
  have:=Ic n _ _ R.1 R.2 m h;exact⟨this.1,KX.1.symm.trans this.2⟩
theorem PB:∀(n:Nat)(XY:List Bz)(FV:Int),0<=FV->FV<=15->∀i,i<16->(AD XY i).w=1->(AD XY i).u=false->∀m,(Ct n XY FV).2.2=some m->
 yV FV m<=yV FV i/\(AD XY m).u=false
 |0,XY,FV,h0,L,i,D,hw,hu,m,h=>by cases h
 |n+1,XY,FV,h0,L,i,D,hw,hu,m,h=>by
  unfold Ct at h
  split at h
  .next hy=>
   cases h;rw[WQ h0];exact⟨yu _,hy.2⟩
  next bX=>
  have R:=Mu h0 L;have e:FV.toNat≠i:=λe=>bX (by rw[e];exact⟨hw,hu⟩)
  have pb:=KX (XY:=XY) (j:=FV.toNat) (i:=i);have n3:=pb.2.2.2 (λh=>e h.symm);have:=PB n _ _ R.1 R.2 i D (by rw[n3];exact hw) (by rw[n3];exact hu) m h;have hm:=Ic n _ _ R.1 R.2 m h;have hf:=OV h0 L D e;have kG:=Rl h0 L D;have em:FV.toNat≠m:=λe'=>by subst e';rw[Rk h0 L] at this;omega
  have qm:=OV h0 L hm.1 em;refine⟨ω,?_⟩;rw[<-KX.2.2.2 (λh=>em h.symm)];exact this.2
theorem J6{w:Int}:0<Al XY w↔∃i,i<XY.length/\(AD XY i).w=w:=by
 unfold Al;rw[List.countP_pos_iff];constructor
 .rintro⟨x,hx,h⟩
  obtain⟨i,D,rfl⟩:=Im (d:=⟨0,0,false⟩) hx;exact⟨i,D,of_decide_eq_true (p:=(AD XY i).w=w) h⟩
 rintro⟨i,D,h⟩
 refine⟨XY.getD i ⟨0,0,false⟩,Dl D,?_⟩;exact decide_eq_true (p:=(AD XY i).w=w) h
theorem JW{q:Bz->Bool}:∀{a b:List Bz},b.length=a.length->(∀i,q (AD b i)=q (AD a i))->b.countP q=a.countP q
 | [],[],_,_=>rfl
 |x::a,y::b,hl,h=>by
  rw[xE,xE,JW (by simpa using hl) (λi=>by simpa[AD] using h (i+1))];have:=h 0;simp only[AD,List.getD_cons_zero] at this;rw[this]
theorem Dd.count{a b:List Bz}(h:Dd a b)(w:Int):Al b w=Al a w:=JW h.len λi=>by unfold Pg;rw[h.w i]
theorem Dd.slots{a b:List Bz}(h:Dd a b)(s:Nat):Cq b s=Cq a s:=JW h.len λi=>by unfold DZ;rw[h.w i,h.at' i]
theorem Dd.word{b:List Bz}(h:Dd p.XY b)(FV:Int)(a:Nat):Gh {p with XY:=b,FV:=FV} a=Gh p a:=by
 unfold Gh
 show(if(AD b (a/4)).w=1 then _ else if(AD b (a/4)).w=2 then _ else _)=_
 rw[h.w,h.at']
theorem Dd.ok{b:List Bz}(h:Dd p.XY b)(hp:Dz p)(h0:0<=FV)(L:FV<=15):Dz {p with XY:=b,FV:=FV}:=by
 refine⟨hp.k,hp.zN,hp.zF,hp.may,hp.alone,hp.root,hp.zD,hp.yW,hp.lows,h.len.trans hp.zY,λs hs=>(h.slots s).trans (hp.slots s hs),λn R=>?_,⟨h0,L⟩,hp.U4,?_⟩
 .have e:Ce {p with XY:=b,FV:=FV} n=Ce p n:=rfl
  unfold LT;rw[e]
  show((AD b n).w=0/\(AD b n).a=0/\(AD b n).u=false/\_)∨((AD b n).w=1/\_/\_=Ii (AD b n).a/\Lz _ (AD b n).a.toNat)∨((AD b n).w=2/\_/\AJ p.swap (AD b n).a.toNat≠[]/\(AD b n).u=false/\_)
  rw[h.w,h.at'];have hu:=h.u n;have un:(AD p.XY n).u=false->(AD b n).u=false:=λx=>by
   cases O:(AD b n).u
   .rfl
   rw[hu O] at x;cases x
  rcases hp.XY n R with⟨z,x2,x3,x4⟩|x|⟨z,x2,x3,x4,x5⟩
  .exact .inl ⟨z,x2,un x3,x4⟩
  .exact .inr (.inl x)
  exact .inr (.inr ⟨z,x2,x3,un x4,x5⟩)
 show(Al b 1:Int)<=p.U4
 rw[h.count];exact hp.count
theorem JI{m:Nat}:(AD (F5 XY n) m).w=(AD XY m).w/\(AD (F5 XY n) m).a=(AD XY m).a/\(m≠n->(AD (F5 XY n) m)=AD XY m):=by
 unfold F5;rw[EQ]
 by_cases e:m=n/\n<XY.length
 .rw[if_pos e]
  obtain⟨rfl,_⟩:=e;exact⟨rfl,rfl,λh=>absurd rfl h⟩
 rw[if_neg e]
 exact⟨rfl,rfl,λ_=>rfl⟩
theorem fM (h:Dz p){n:Nat}(R:n<16)(hw:(AD p.XY n).w=1):Dz {p with XY:=F5 p.XY n}:=by
 have bs:(F5 p.XY n).length=p.XY.length:=by unfold F5;rw[yi]
 refine⟨h.k,h.zN,h.zF,h.may,h.alone,h.root,h.zD,h.yW,h.lows,bs.trans h.zY,λs hs=>?_,λm hm=>?_,h.FV,h.U4,?_⟩
 .have:Cq (F5 p.XY n) s=Cq p.XY s:=JW bs λi=>by unfold DZ;rw[JI.1,JI.2.1]
  rw[this];exact h.slots s hs
 .have e:Ce {p with XY:=F5 p.XY n} m=Ce p m:=rfl
  unfold LT;rw[e]
  show((AD (F5 p.XY n) m).w=0/\(AD (F5 p.XY n) m).a=0/\(AD (F5 p.XY n) m).u=false/\_)∨((AD (F5 p.XY n) m).w=1/\_/\_=Ii (AD (F5 p.XY n) m).a/\Lz _ (AD (F5 p.XY n) m).a.toNat)∨((AD (F5 p.XY n) m).w=2/\_/\AJ p.swap (AD (F5 p.XY n) m).a.toNat≠[]/\(AD (F5 p.XY n) m).u=false/\_)
  rw[JI.1,JI.2.1]
  rcases h.XY m hm with⟨z,x2,x3,x4⟩|x|⟨z,x2,x3,x4,x5⟩
  .rw[JI.2.2 (λe=>by subst e;omega)]
   exact .inl ⟨z,x2,x3,x4⟩
  .exact .inr (.inl x)
  rw[JI.2.2 (λe=>by subst e;omega)]
  exact .inr (.inr ⟨z,x2,x3,x4,x5⟩)
 have:Al (F5 p.XY n) 1=Al p.XY 1:=JW bs λi=>by unfold Pg;rw[JI.1]
 show(Al (F5 p.XY n) 1:Int)<=p.U4
 rw[this];exact h.count
structure dX(p q:AR)(n:Nat):Prop where
 ok:Dz q
 w:(AD q.XY n).w=1
 u:(AD q.XY n).u=true
 words:∀a,a<64->Gh q a=Gh p a
 U4:q.U4=p.U4
 one:∃m,(m=n∨((AD p.XY m).w=1/\(AD q.XY m).w=2/\(Ao p.Ve.ZJ<0∨(Al p.XY 1:Int)=p.U4)))/\∀i,i<16->i≠n->i≠m->(AD q.XY i).w=(AD p.XY i).w/\(AD q.XY i).a=(AD p.XY i).a
 used:∀i,i<16->(AD p.XY i).w=1->(AD p.XY i).u=true->(AD q.XY i).w=2->∀j,j<16->(AD p.XY j).w=1->(AD p.XY j).u=true
theorem XJ (h:Dz p){n:Nat}(R:n<16):(Br p n).2=false↔(Ao p.Ve.ZJ<0/\Al p.XY 1=0):=by
 by_cases hw:(AD p.XY n).w=1
 .unfold Br
  rw[if_pos hw];have:=J6.2 ⟨n,by rw[h.zY];exact R,hw⟩;constructor
  .intro x;cases x
  intro x;omega
 by_cases bX:Ao p.Ve.ZJ<0/\Al p.XY 1=0
 .unfold Br
  rw[if_neg hw,if_pos bX];exact⟨λ_=>bX,λ_=>rfl⟩
 refine⟨λx=>?_,λx=>absurd x bX⟩
 exfalso;unfold Br at x;rw[if_neg hw,if_neg bX] at x
 by_cases hf:JZ p=true
 .rw[if_pos hf] at x
  have hc:0<Al p.XY 1:=by
   rcases wJ (Al p.XY 1) with h0|h0
   .exfalso
    unfold JZ at hf;simp only[xL,decide_eq_true_eq] at hf;have:=h.U4
    rcases hf with hf|hf
    .exact bX ⟨hf,h0⟩
    omega
   exact h0
  obtain⟨i,D,mw⟩:=J6.1 hc;rw[h.zY] at D;obtain⟨m,hm⟩:=Jg 32 p.XY p.FV h.FV.1 h.FV.2 h.zY i D mw (.inr (by have:=Rl h.FV.1 h.FV.2 D;omega));have hU:=JP 32 p.XY p.FV;have hH:=Kn 32 p.XY p.FV h.FV.1 h.FV.2;have hI:=Ic 32 p.XY p.FV h.FV.1 h.FV.2 m hm
  revert x hU hH hI hm
  generalize Ct 32 p.XY p.FV=r;obtain⟨pg,hd,o⟩:=r;intro x hm hU hH hI;cases hm;have h':=hU.ok h hH.1 hH.2;have X:=VZ h' hI.1 ((hU.w m).trans hI.2);have lm:n≠m:=λe=>hw (by rw[e];exact hI.2)
  have gM:(AD (Eu {p with XY:=pg,FV:=hd} m).XY n).w≠1:=by
   show(AD (pg.set m _) n).w≠1
   rw[EQ,if_neg (λh=>lm h.1),hU.w];exact hw
  have mz:(Al (Eu {p with XY:=pg,FV:=hd} m).XY 1:Int)+1<=(Eu {p with XY:=pg,FV:=hd} m).U4:=by
   have L:Al (Eu {p with XY:=pg,FV:=hd} m).XY 1+1=Al pg 1:=X.2.2.1;have K:Al pg 1=Al p.XY 1:=hU.count 1;have h3:=h.count
   show _<=p.U4
   omega
  have:=(VK X.1 R gM X.2.2.2 mz).2.1;have x':(Qi (Eu {p with XY:=pg,FV:=hd} m) n).2=false:=x;rw[this] at x';cases x'
 rw[if_neg hf] at x
 unfold JZ at hf;simp only[xL,decide_eq_true_eq,not_or] at hf;have:=h.count;have:=(VK h R hw ω ω).2.1;rw[this] at x;cases x
theorem GW (h:Dz p){n:Nat}(R:n<16)(bX:(Br p n).2=false):(Br p n).1=p:=by
 have L:=(XJ h R).1 bX
 by_cases hw:(AD p.XY n).w=1
 .unfold Br at bX
  rw[if_pos hw] at bX;cases bX
 unfold Br
 rw[if_neg hw,if_pos L]
theorem TQ (h:Dz p){n:Nat}(hw:(AD p.XY n).w=1):Br p n=({p with XY:=F5 p.XY n},true):=by unfold Br;rw[if_pos hw]
theorem TS (h:Dz p){n:Nat}(R:n<16)(hy:(Br p n).2=true):dX p (Br p n).1 n:=by
 by_cases hw:(AD p.XY n).w=1
 .rw[TQ h hw]
  refine⟨fM h R hw,JI.1.trans hw,?_,λa _=>?_,rfl,⟨n,.inl rfl,λi _ _ _=>⟨JI.1,JI.2.1⟩⟩,λi _ D _ pu=>?_⟩
  .show(AD (F5 p.XY n) n).u=true
   unfold F5;rw[EQ,if_pos ⟨rfl,by rw[h.zY];exact R⟩]
  .unfold Gh
   show(if(AD (F5 p.XY n) (a/4)).w=1 then _ else if(AD (F5 p.XY n) (a/4)).w=2 then _ else _)=_
   rw[JI.1,JI.2.1]
  have:(AD (F5 p.XY n) i).w=2:=pu
  rw[JI.1,D] at this;cases this
 have bX:¬(Ao p.Ve.ZJ<0/\Al p.XY 1=0):=λe=>by
  rw[(XJ h R).2 e] at hy;cases hy
 by_cases hf:JZ p=true
 .have ob:Ao p.Ve.ZJ<0∨(Al p.XY 1:Int)=p.U4:=by
   unfold JZ at hf;simpa using hf
  have hc:0<Al p.XY 1:=by
   rcases wJ (Al p.XY 1) with h0|h0
   .exfalso
    have:=h.U4
    rcases ob with hf|hf
    .exact bX ⟨hf,h0⟩
    omega
   exact h0
  obtain⟨i,D,mw⟩:=J6.1 hc;rw[h.zY] at D;obtain⟨m,hm⟩:=Jg 32 p.XY p.FV h.FV.1 h.FV.2 h.zY i D mw (.inr (by have:=Rl h.FV.1 h.FV.2 D;omega));have hU:=JP 32 p.XY p.FV;have hH:=Kn 32 p.XY p.FV h.FV.1 h.FV.2;have hI:=Ic 32 p.XY p.FV h.FV.1 h.FV.2 m hm;have mJ:=λi L K h3=>PB 32 p.XY p.FV h.FV.1 h.FV.2 i L K h3 m hm
  have e:Br p n=Qi (Eu {p with XY:=(Ct 32 p.XY p.FV).1,FV:=(Ct 32 p.XY p.FV).2.1} m) n:=by
   unfold Br;rw[if_neg hw,if_neg bX,if_pos hf]
   revert hm
   generalize Ct 32 p.XY p.FV=r;obtain⟨pg,hd,o⟩:=r;intro hm;cases hm;rfl
  rw[e];clear e hy
  revert hU hH
  generalize(Ct 32 p.XY p.FV).1=pg;generalize(Ct 32 p.XY p.FV).2.1=hd;intro hU hH;have h':=hU.ok h hH.1 hH.2;have X:=VZ h' hI.1 ((hU.w m).trans hI.2);have lm:n≠m:=λe=>hw (by rw[e];exact hI.2)
  have nP:∀j,AD (Eu {p with XY:=pg,FV:=hd} m).XY j=if j=m then⟨2,Bt p.swap,false⟩ else AD pg j:=λj=>by
   show AD (pg.set m _) j=_
   rw[EQ]
   by_cases e:j=m
   .rw[if_pos ⟨e,by rw[hU.len,h.zY];exact hI.1⟩,if_pos e]
   rw[if_neg (λh=>e h.1),if_neg e]
  have gM:(AD (Eu {p with XY:=pg,FV:=hd} m).XY n).w≠1:=by rw[nP,if_neg lm,hU.w];exact hw
  have mz:(Al (Eu {p with XY:=pg,FV:=hd} m).XY 1:Int)+1<=(Eu {p with XY:=pg,FV:=hd} m).U4:=by
   have L:Al (Eu {p with XY:=pg,FV:=hd} m).XY 1+1=Al pg 1:=X.2.2.1;have K:=hU.count 1;have h3:=h.count
   show _<=p.U4
   omega
  obtain⟨i1,i2,i3,i4,i5⟩:=VK X.1 R gM X.2.2.2 mz;have ij:∀j,AD (Qi (Eu {p with XY:=pg,FV:=hd} m) n).1.XY j=if j=n then⟨1,Ao (Eu {p with XY:=pg,FV:=hd} m).Ve.ZJ,true⟩ else if j=m then⟨2,Bt p.swap,false⟩ else AD pg j:=λj=>by
   rw[i5,EQ]
   by_cases e:j=n
   .rw[if_pos ⟨e,by rw[X.1.zY];exact R⟩,if_pos e]
   rw[if_neg (λh=>e h.1),if_neg e,nP]
  refine⟨i1,?_,?_,λa ha=>?_,?_,⟨m,.inr ⟨hI.2,?_,ob⟩,λj hj L K=>?_⟩,λj hj mv ky gV=>?_⟩
  .rw[ij,if_pos rfl]
  .rw[ij,if_pos rfl]
  .rw[i3 a ha,X.2.1 a ha,hU.word]
  .rw[(Xy X.1 R gM X.2.2.2).1];rfl
  .rw[ij,if_neg (λe=>lm e.symm),if_pos rfl]
  .rw[ij,if_neg L,if_neg K]
   exact⟨hU.w j,hU.at' j⟩
  rw[ij] at gV
  by_cases e1:j=n
  .rw[if_pos e1] at gV;cases gV
  rw[if_neg e1] at gV
  by_cases e2:j=m
  .subst e2
   intro x hx o0;cases o6:(AD p.XY x).u
   .rw[(mJ x hx o0 o6).2] at ky
    cases ky
   rfl
  rw[if_neg e2,hU.w,mv] at gV
  cases gV
 have e:Br p n=Qi p n:=by
  unfold Br;rw[if_neg hw,if_neg bX,if_neg hf]
 rw[e];unfold JZ at hf;simp only[xL,decide_eq_true_eq,not_or] at hf;have:=h.count;have gh:(Al p.XY 1:Int)+1<=p.U4:=ω;have oa:0<=Ao p.Ve.ZJ:=ω;obtain⟨i1,i2,i3,i4,i5⟩:=VK h R hw oa gh;have ij:∀j,AD (Qi p n).1.XY j=if j=n then⟨1,Ao p.Ve.ZJ,true⟩ else AD p.XY j:=λj=>by
  rw[i5,EQ]
  by_cases e:j=n
  .rw[if_pos ⟨e,by rw[h.zY];exact R⟩,if_pos e]
  rw[if_neg (λh=>e h.1),if_neg e]
 refine⟨i1,?_,?_,i3,?_,⟨n,.inl rfl,λj hj L _=>?_⟩,λj hj mv ky gV=>?_⟩
 .rw[ij,if_pos rfl]
 .rw[ij,if_pos rfl]
 .rw[(Xy h R hw oa).1]
 .rw[ij,if_neg L];exact⟨rfl,rfl⟩
 rw[ij] at gV
 by_cases e1:j=n
 .rw[if_pos e1] at gV;cases gV
 rw[if_neg e1,mv] at gV
 cases gV
theorem Dz.walk (h:Dz p){a:Nat}(ha:a<64)(hw:(AD p.XY (a/4)).w=1):Cd p.Ve.mem (Ab p.Ve 0).toNat a=(0,(AD p.XY (a/4)).a.toNat,true):=by
 obtain⟨l0,l1,l2,_⟩:=h.lows (a/16) ω;obtain⟨z,x2,x3⟩:=IT l0 l1
 rcases h.XY (a/4) ω with⟨y,_⟩|⟨_,b,c,_⟩|⟨y,_⟩
 .omega
 .obtain⟨y1,y2,y3⟩:=IT b.1 b.2
  have e1:a/4/4=a/16:=ω;have c':Aw p.Ve.mem (Bf p.low (a/16)).toNat (a/4%4)=Ii (AD p.XY (a/4)).a:=by rw[<-e1];exact c
  unfold Cd;rw[l2,if_pos z,x2,c',if_pos y1,y2,x3,y3];rfl
 omega
theorem dI (hk:kind=10∨kind=11){a:Int}:Ad k (Ah kind a b 0)=PA k (Ah kind a b 0):=by
 unfold Ad;rw[if_neg (show ¬(Ah kind a b 0).k=1 by show ¬kind=1;omega),if_neg (by rw[show Bo (Ah kind a b 0).k 2 6=false from VJ.2 (by show kind<2∨6<kind;omega)];simp),if_neg (show ¬(Ah kind a b 0).k=7 by show ¬kind=7;omega),
  if_neg (show ¬(Ah kind a b 0).k=8 by show ¬kind=8;omega),if_neg (show ¬(Ah kind a b 0).k=9 by show ¬kind=9;omega),if_pos (show(Ah kind a b 0).k=10∨(Ah kind a b 0).k=11 from hk)]
def Km(c:List Ag)(e p:Int)(f:Nat)(w:Bool):List Ag:=if H5 c e p<0 then Jo c ⟨e,p,f,w⟩ else c
variable{c:AV}
theorem ZE:PA k c=
 if Bo c.a 0 63=false∨(AI k.XX c.e.toNat).root<0∨(c.k=11/\EJ c.b=false) then(k,0,3)
 else if(Cd k.mem (AI k.XX c.e.toNat).root.toNat c.a.toNat).1≠0 then(k,0,3)
 else if c.k=11/\(Cd k.mem (AI k.XX c.e.toNat).root.toNat c.a.toNat).2.2=false then(k,0,1)
 else if c.k=11 then({k with mem:=Cs k.mem (Cd k.mem (AI k.XX c.e.toNat).root.toNat c.a.toNat).2.1 (c.a%4).toNat c.b,XU:=Km k.XU c.e (c.a/4) (Cd k.mem (AI k.XX c.e.toNat).root.toNat c.a.toNat).2.1 (Cd k.mem (AI k.XX c.e.toNat).root.toNat c.a.toNat).2.2},0,0)
 else({k with XU:=Km k.XU c.e (c.a/4) (Cd k.mem (AI k.XX c.e.toNat).root.toNat c.a.toNat).2.1 (Cd k.mem (AI k.XX c.e.toNat).root.toNat c.a.toNat).2.2},Aw k.mem (Cd k.mem (AI k.XX c.e.toNat).root.toNat c.a.toNat).2.1 (c.a%4).toNat,0):=rfl
theorem Zr (h:Dz p){a:Nat}(ha:a<64)(hw:(AD p.XY (a/4)).w=1):
 Ad p.Ve (Ah 10 (a:Int) 0 0)=({p.Ve with XU:=Km p.Ve.XU 0 ((a/4:Nat):Int) (AD p.XY (a/4)).a.toNat true},Aw p.Ve.mem (AD p.XY (a/4)).a.toNat (a%4),0):=by
 rw[dI (.inl rfl)];have mi:=h.walk ha hw;have hr:=h.root;unfold PA;have e0:(AI p.Ve.XX (Ah 10 (a:Int) 0 0).e.toNat).root=Ab p.Ve 0:=rfl;have e1:(Ah 10 (a:Int) 0 0).a.toNat=a:=rfl;have e2:(Ah 10 (a:Int) 0 0).a/4=((a/4:Nat):Int):=by show(a:Int)/4=_;omega
 have e3:((Ah 10 (a:Int) 0 0).a%4).toNat=a%4:=by show((a:Int)%4).toNat=_;omega
 simp only[e0,e1,e2,e3,mi];rw[if_neg,if_neg ψ,if_neg,if_neg]
 .rfl
 .show ¬(10:Int)=11;decide
 .rintro⟨_,x⟩;cases x
 rintro(x|x|⟨x,_⟩)
 .rw[show Bo (Ah 10 (a:Int) 0 0).a 0 63=true from Aa.2 ⟨by show(0:Int)<=(a:Int);omega,by show(a:Int)<=63;omega⟩] at x;cases x
 .omega
 exact absurd (show(10:Int)=11 from x) ψ
theorem Yi (h:Dz p){a:Nat}(ha:a<64)(hw:(AD p.XY (a/4)).w=1){w:Int}(gu:EJ w=true):
 Ad p.Ve (Ah 11 (a:Int) w 0)=({p.Ve with mem:=Cs p.Ve.mem (AD p.XY (a/4)).a.toNat (a%4) w,XU:=Km p.Ve.XU 0 ((a/4:Nat):Int) (AD p.XY (a/4)).a.toNat true},0,0):=by
 rw[dI (.inr rfl)];have mi:=h.walk ha hw;have hr:=h.root;unfold PA;have e0:(AI p.Ve.XX (Ah 11 (a:Int) w 0).e.toNat).root=Ab p.Ve 0:=rfl;have e1:(Ah 11 (a:Int) w 0).a.toNat=a:=rfl;have e2:(Ah 11 (a:Int) w 0).a/4=((a/4:Nat):Int):=by show(a:Int)/4=_;omega
 have e3:((Ah 11 (a:Int) w 0).a%4).toNat=a%4:=by show((a:Int)%4).toNat=_;omega
 simp only[e0,e1,e2,e3,mi];rw[if_neg,if_neg ψ,if_neg,if_pos]
 .rfl
 .rfl
 .rintro⟨_,x⟩;cases x
 rintro(x|x|⟨_,x⟩)
 .rw[show Bo (Ah 11 (a:Int) w 0).a 0 63=true from Aa.2 ⟨by show(0:Int)<=(a:Int);omega,by show(a:Int)<=63;omega⟩] at x;cases x
 .omega
 rw[show EJ (Ah 11 (a:Int) w 0).b=true from gu] at x;cases x
theorem Dz.XU (h:Dz p){c:List Ag}(hk:Dg {p.Ve with XU:=c}):Dz {p with Ve:= {p.Ve with XU:=c}}:=
 ⟨hk,h.zN,h.zF,h.may,h.alone,h.root,h.zD,h.yW,h.lows,h.zY,h.slots,λn R=>h.XY n R,h.FV,h.U4,h.count⟩
theorem dn (h:Dz p){a:Nat}(ha:a<64)(hy:(Br p (a/4)).2=true):
 (IW p a).2.2=true/\(IW p a).2.1=Gh p a/\Dz (IW p a).1/\∀b,b<64->Gh (IW p a).1 b=Gh p b:=by
 have T:=TS h (n:=a/4) ω hy;have hd:=Zr T.ok ha T.w;have hk:=F6 (k:=(Br p (a/4)).1.Ve) T.ok.k (kind:=10) (a:=(a:Int)) (b:=0) (c:=0);rw[hd] at hk;unfold IW;simp only[hy,if_true,hd];refine⟨trivial,?_,T.ok.XU hk,λb O=>?_⟩
 .rw[<-T.words a ha]
  unfold Gh;rw[if_pos T.w]
 rw[<-T.words b O];rfl
theorem VX (h:Dz p){a:Nat}(ha:a<64)(hy:(Br p (a/4)).2=false):IW p a=(p,0,false):=by have:=GW h (n:=a/4) ω hy;unfold IW;simp[hy,this]
theorem TH (h:Dz p){a:Nat}(ha:a<64){w:Int}(hy:(Br p (a/4)).2=false):Gg p a w=(p,false):=by have:=GW h (n:=a/4) ω hy;unfold Gg;simp[hy,this]
theorem da{b:Nat}(L:a/4=b/4)(K:a%4=b%4):a=b:=ω
theorem Dz.put (h:Dz p){a:Nat}(ha:a<64)(hw:(AD p.XY (a/4)).w=1){w:Int}{c:List Ag}(hk:Dg {p.Ve with mem:=Cs p.Ve.mem (AD p.XY (a/4)).a.toNat (a%4) w,XU:=c}):
 Dz {p with Ve:= {p.Ve with mem:=Cs p.Ve.mem (AD p.XY (a/4)).a.toNat (a%4) w,XU:=c}}/\
 ∀b,b<64->Gh {p with Ve:= {p.Ve with mem:=Cs p.Ve.mem (AD p.XY (a/4)).a.toNat (a%4) w,XU:=c}} b=if b=a then w else Gh p b:=by
 have fk:=h.zR (n:=a/4) ω hw;have lu:∀f i,Aw (Cs p.Ve.mem (AD p.XY (a/4)).a.toNat (a%4) w) f i=if f=(AD p.XY (a/4)).a.toNat/\i=a%4 then w else Aw p.Ve.mem f i:=λf i=>TE (by rw[h.meml];exact fk.1) (by rw[h.rowl fk.1];omega)
 refine⟨⟨hk,h.zN,h.zF,h.may,h.alone,h.root,h.zD,h.yW,λi D=>?_,h.zY,h.slots,λn R=>?_,h.FV,h.U4,h.count⟩,λb O=>?_⟩
 .obtain⟨z,x2,x3,x4⟩:=h.lows i D
  refine⟨z,x2,?_,x4⟩
  show Aw (Cs p.Ve.mem _ _ w) (Ab p.Ve 0).toNat i=_
  rw[lu,if_neg (λe=>h.zf (n:=a/4) ω hw e.1)];exact x3
 .have e:Ce {p with Ve:= {p.Ve with mem:=Cs p.Ve.mem (AD p.XY (a/4)).a.toNat (a%4) w,XU:=c}} n=Ce p n:=by
   unfold Ce
   show Aw (Cs p.Ve.mem _ _ w) (Bf p.low (n/4)).toNat (n%4)=_
   rw[lu,if_neg (λe=>h.zq (n:=a/4) (i:=n/4) ω hw ω e.1)]
  have:=h.XY n R;unfold LT at this ⊢;rw[e];exact this
 unfold Gh
 show(if(AD p.XY (b/4)).w=1 then Aw (Cs p.Ve.mem _ _ w) (AD p.XY (b/4)).a.toNat (b%4) else if(AD p.XY (b/4)).w=2 then _ else _)=_
 by_cases e:b=a
 .subst e
  rw[if_pos hw,if_pos rfl,lu,if_pos ⟨rfl,rfl⟩]
 rw[if_neg e]
 by_cases w1:(AD p.XY (b/4)).w=1
 .rw[if_pos w1,if_pos w1,lu,if_neg]
  rintro⟨x,y⟩;exact e (da (h.zl ω ω w1 hw x) y)
 rw[if_neg w1,if_neg w1]
theorem dD (h:Dz p){a:Nat}(ha:a<64){w:Int}(gu:EJ w=true)(hy:(Br p (a/4)).2=true):
 (Gg p a w).2=true/\Dz (Gg p a w).1/\(∀b,b<64->Gh (Gg p a w).1 b=if b=a then w else Gh p b)/\(AD (Gg p a w).1.XY (a/4)).w=1:=by
 have T:=TS h (n:=a/4) ω hy;have hd:=Yi T.ok ha T.w gu;have hk:=F6 (k:=(Br p (a/4)).1.Ve) T.ok.k (kind:=11) (a:=(a:Int)) (b:=w) (c:=0);rw[hd] at hk;have P:=T.ok.put ha T.w (w:=w) hk;unfold Gg;simp only[hy,if_true,hd];refine⟨trivial,P.1,λb O=>?_,T.w⟩;rw[<-T.words b O];exact P.2 b O
theorem SN (h:Dz p){a:Nat}(ha:a<64):Dz (IW p a).1:=by
 cases hy:(Br p (a/4)).2
 .rw[VX h ha hy];exact h
 exact(dn h ha hy).2.2.1
theorem M9 (h:Dz p){a:Nat}(ha:a<64){w:Int}(gu:EJ w=true):Dz (Gg p a w).1:=by
 cases hy:(Br p (a/4)).2
 .rw[TH h ha hy];exact h
 exact(dD h ha gu hy).2.1
theorem LJ (h:Dz p){n:Nat}(R:n<16):Dz (Br p n).1:=by
 cases hy:(Br p n).2
 .rw[GW h R hy];exact h
 exact(TS h R hy).ok
def Cl(k:AQ)(c:AV)(kind:Int):Int:=
 if Bo c.a 0 11=false∨(JK k.ZJ c.a.toNat).k=0 then 3
 else if Ci (AI k.XX c.e.toNat).PQ (JK k.ZJ c.a.toNat).g=false then 1
 else if(0<kind/\(JK k.ZJ c.a.toNat).k≠kind)∨(kind=0/\Bp (JK k.ZJ c.a.toNat).k=false) then 3
 else 0
theorem Ke (L:2<=c.k)(K:c.k<=6):Ad k c=IN k c:=by unfold Ad;rw[if_neg ω,if_pos (Aa.2 ⟨L,K⟩)]
theorem Xe (h:c.k=2):Ad k c=if Cl k c 1=0 then(if(JK k.ZJ c.a.toNat).r≠0 then(k,0,2) else({k with ZJ:=k.ZJ.set c.a.toNat AW.zero},0,0)) else(k,0,Cl k c 1):=by
 rw[Ke ω ω];unfold IN Cl K4 Fg;rw[h]
 by_cases a1:Bo c.a 0 11=false∨(JK k.ZJ c.a.toNat).k=0
 .rw[if_pos a1,if_pos (by rcases a1 with a1|a1<;>simp[a1])];rfl
 have h7:=not_or.1 a1
 rw[if_neg a1,if_neg (by simp[h7.1,h7.2])];cases Ci (AI k.XX c.e.toNat).PQ (JK k.ZJ c.a.toNat).g
 .rfl
 by_cases a2:(JK k.ZJ c.a.toNat).k=1
 .simp[a2]
 simp[a2]
theorem Xf (h:c.k=3):Ad k c=if Cl k c 1=0 then(if Bo c.b 0 3=false∨EJ c.c=false then(k,0,3) else({k with mem:=Cs k.mem c.a.toNat c.b.toNat c.c},0,0)) else(k,0,Cl k c 1):=by
 rw[Ke ω ω];unfold IN Cl LD Fg;rw[h]
 by_cases a1:Bo c.a 0 11=false∨(JK k.ZJ c.a.toNat).k=0
 .rw[if_pos a1,if_pos (by rcases a1 with a1|a1<;>simp[a1])];rfl
 have h7:=not_or.1 a1
 rw[if_neg a1,if_neg (by simp[h7.1,h7.2])];cases Ci (AI k.XX c.e.toNat).PQ (JK k.ZJ c.a.toNat).g
 .rfl
 by_cases a2:(JK k.ZJ c.a.toNat).k=1
 .simp[a2]
 simp[a2]
theorem ZP (h:c.k=4∨c.k=5):Ad k c=if Bo c.a 0 11=false∨(JK k.ZJ c.a.toNat).k=0∨(c.k=4/\Bp c.b=false) then(k,0,3)
 else if Fg k c.e (JK k.ZJ c.a.toNat).g=false then(k,0,1)
 else EG k (if c.k=4 then GV k.mem k.ZJ c.a.toNat c.b (AI k.XX c.e.toNat).PQ else DT k.mem k.ZJ c.a.toNat):=by
 rw[Ke ω ω];unfold IN
 rcases h with h|h<;>simp[h]
def dB(k:AQ)(c:AV):Nm:=
 if Bo c.b 0 3=false∨EV k c=false then(k,0,3)
 else if(GX k c.a.toNat).all (λe=>BO k.ZJ (Du k c.c) (AI k.XX e).PQ)=false then(k,0,1)
 else if Bx c.c=true/\Fg k c.e (JK k.ZJ (BQ c.c)).g=false then(k,0,1)
 else({k with mem:=Cs k.mem c.a.toNat c.b.toNat c.c,ZJ:=BI (BI k.ZJ (Aw k.mem c.a.toNat c.b.toNat) (-1)) c.c 1,XU:=(GX k c.a.toNat).foldl (λc e=>Gb c (e:Nat)) k.XU},0,0)
theorem ZQ (h:c.k=6):Ad k c=if Cl k c 0=0 then dB k c else(k,0,Cl k c 0):=by
 rw[Ke ω ω];unfold IN Cl If dB Fg;rw[h]
 by_cases a1:Bo c.a 0 11=false∨(JK k.ZJ c.a.toNat).k=0
 .rw[if_pos a1,if_pos (by rcases a1 with a1|a1<;>simp[a1])];rfl
 have h7:=not_or.1 a1
 rw[if_neg a1,if_neg (by simp[h7.1,h7.2])];cases Ci (AI k.XX c.e.toNat).PQ (JK k.ZJ c.a.toNat).g
 .rfl
 cases a2:Bp (JK k.ZJ c.a.toNat).k<;>simp
theorem KN (h:Cl k c kind=0):Bo c.a 0 11=true/\(JK k.ZJ c.a.toNat).k≠0/\Ci (AI k.XX c.e.toNat).PQ (JK k.ZJ c.a.toNat).g=true/\(0<kind->(JK k.ZJ c.a.toNat).k=kind)/\(kind=0->Bp (JK k.ZJ c.a.toNat).k=true):=by
 unfold Cl at h
 by_cases a1:Bo c.a 0 11=false∨(JK k.ZJ c.a.toNat).k=0
 .rw[if_pos a1] at h;cases h
 rw[if_neg a1] at h
 have h7:=not_or.1 a1;cases hm:Ci (AI k.XX c.e.toNat).PQ (JK k.ZJ c.a.toNat).g
 .rw[hm] at h;cases h
 rw[hm,if_neg χ] at h
 by_cases a2:(0<kind/\(JK k.ZJ c.a.toNat).k≠kind)∨(kind=0/\Bp (JK k.ZJ c.a.toNat).k=false)
 .rw[if_pos a2] at h;cases h
 have oo:=not_or.1 a2
 refine⟨by simpa using h7.1,h7.2,rfl,λh0=>?_,λh0=>?_⟩
 .exact Classical.byContradiction λhx=>oo.1 ⟨h0,hx⟩
 cases ht:Bp (JK k.ZJ c.a.toNat).k
 .exact absurd ⟨h0,ht⟩ oo.2
 rfl
def GF(ZJ:List AW)(old:Int):List AW:=if 0<=old then An ZJ old.toNat (JD (-1)) else ZJ
def KV(ZJ:List AW)(new:Int):List AW:=if 0<=new then An ZJ new.toNat (JD 1) else ZJ
theorem XE:Lt k c=
 if c.a≠ -1/\(Bo c.a 0 11=false∨(JK k.ZJ c.a.toNat).k≠3) then(k,0,3)
 else if BO k.ZJ (Bi k.mem c.a) (AI k.XX c.e.toNat).PQ=false then(k,0,1)
 else({k with ZJ:=KV (GF k.ZJ (AI k.XX c.e.toNat).root) c.a,XX:=An k.XX c.e.toNat (ET c.a),XU:=Gb k.XU c.e},0,0):=rfl
theorem Xg (h:c.k=7):Ad k c=Lt k c:=by unfold Ad;rw[if_neg ω,if_neg (by rw[h];decide),if_pos h]
theorem WD (h:c.k=8):Ad k c=Ft k c:=by unfold Ad;rw[if_neg ω,if_neg (by rw[h];decide),if_neg ω,if_pos h]
theorem VA (h:c.k=9):Ad k c=EX k c:=by unfold Ad;rw[if_neg ω,if_neg (by rw[h];decide),if_neg ω,if_neg ω,if_pos h]
theorem ZR (h:c.k=10∨c.k=11):Ad k c=PA k c:=by unfold Ad;rw[if_neg ω,if_neg (by rcases h with h|h<;>rw[h]<;>decide),if_neg ω,if_neg ω,if_neg ω,if_pos h]
theorem WC (h:Dg k){e p:Nat}{j:Nat}(hj:j<k.XU.length)(hs:BR (e:Int) (p:Int) (AU k.XU j)=true){a:Nat}(ha:a/4=p):
 ∃fr:Nat,fr<12/\AU k.XU j=⟨(e:Int),(p:Int),(fr:Int),(AU k.XU j).w⟩/\Cd k.mem (AI k.XX e).root.toNat a=(0,fr,(AU k.XU j).w):=by
 have hx:AU k.XU j∈k.XU:=yw (A9 hj);have ht:=h.trans _ hx;have hc:=(FB.1 h.XU).1 _ hx;generalize AU k.XU j=x at*;obtain⟨xe,xp,xf,xw⟩:=x;simp only[BR,yC,decide_eq_true_eq] at hs;obtain⟨rfl,rfl⟩:=hs;simp only[Cc,yC,Aa] at hc;obtain⟨_,h0,qw⟩:=hc;obtain⟨fr,rfl⟩:∃fr:Nat,xf=(fr:Int):=⟨xf.toNat,ω⟩
 refine⟨fr,ω,rfl,?_⟩;simp only[DJ,yC,decide_eq_true_eq,yq] at ht;have e1:Cd k.mem (AI k.XX e).root.toNat a=Cd k.mem (AI k.XX e).root.toNat (4*p):=by unfold Cd;rw[(ω:4*p/16=a/16),(ω:4*p/4%4=a/4%4)]
 rw[e1];exact ht.2
open Go.RowKit
variable{cv d e ev i iv m u v' x x1 y y0:Φ}
variable{W W' w w0 wr ww:Ω}
theorem KK{a b c f:Φ}(h:w.heap[g]?=some (.cells #[a,b,c,d,e,f] T (0,0))):w.cell? g=some a/\w.cell? (g,1)=some b/\w.cell? (g,2)=some c/\w.cell? (g,3)=some d/\w.cell? (g,4)=some e/\w.cell? (g,5)=some f:=
 ⟨yx _ _ 0 _ _ _ h,yx _ _ 1 _ _ _ h,yx _ _ 2 _ _ _ h,yx _ _ 3 _ _ _ h,yx _ _ 4 _ _ _ h,yx _ _ 5 _ _ _ h⟩
theorem Lc (m iv ev cv:Φ)(k:AQ)(kk e a b c:Int)(nm:ByteArray)(kind:Int)(w:Ω)(h:Nk w m iv ev cv k)(hk:Dg k)(he:0<=e/\e<3)(kx:kind=0∨kind=1):
 Ξ prog 234 #[.agg #[m,iv,ev,cv],.agg #[kk,e,a,b,c,nm],.int .i64 kind] w λr w'=>r=.returned (.int .i64 (Cl k ⟨kk,e,a,b,c,nm⟩ kind))/\Γ w w w':=by
 obtain⟨N0,N1,ar,iC⟩:=LF w (.cells #[m,iv,ev,cv] 28) (.cells #[kk,e,a,b,c,nm] 34);obtain⟨x0,z,x2,x3⟩:=AH N0;obtain⟨V,y1,y2,y3,y4,y5⟩:=KK N1;have gT:=AY N0;have gU:=AY N1
 by_cases ha:Bo a 0 11=true
 .obtain⟨Z,rfl⟩:∃Z:Nat,a=(Z:Int):=⟨a.toNat,by have:=(Aa.1 ha).1;omega⟩
  obtain⟨en,rfl⟩:∃en:Nat,e=(en:Int):=⟨e.toNat,ω⟩
  have bA:Z<12:=by have:=(Aa.1 ha).2;omega
  have bw:en<3:=ω;have hl:=(A4.1 (Ap hk).2.1).1;have FC:=AA (show Cl k ⟨kk,(en:Int),(Z:Int),b,c,nm⟩ kind=if(JK k.ZJ Z).k=0 then 3 else if Ci (AI k.XX en).PQ (JK k.ZJ Z).g=false then 1
   else if(0<kind/\(JK k.ZJ Z).k≠kind)∨(kind=0/\Bp (JK k.ZJ Z).k=false) then 3 else 0 by unfold Cl;simp[ha])
  have nG:=Cg (Ap hk).2.1 _ (yw (Cj (ω:Z<k.ZJ.length)));have CM:=AA (λW (hW:Γ _ _ W)=>KQ m iv ev cv k en (JK k.ZJ Z).g W ((h.2.2.1.below ar).below hW) hk bw nG);obtain⟨ai,ci,rfl,_,_,HI⟩:=BN.open Az ψ (BN.below h.2.1 ar);obtain⟨bi,au,rfl,gy,D0,D1,_⟩:=HI.zZ (ω:Z<k.ZJ.length);have a7:(Z:Int)<k.ZJ.length:=ω;have HA:=AA ha;have ph:¬(Z:Int)<0:=ω;clear h hk N0 N1 HI ha hl nG he;generalize hW0:(w.alloc _).alloc _=W0 at x0 z x2 x3 V y1 y2 y3 y4 y5 D0 D1 gT gU gy CM ar;generalize(JK k.ZJ Z).g=gd at D1 CM FC;generalize(JK k.ZJ Z).k=kd at D0 FC;generalize Ci (AI k.XX en).PQ gd=mb at CM FC
  by_cases e0:kd=0
  .have t0:(kd==0)=true:=by simp[e0]
   have hn:=AA (show Cl k ⟨kk,(en:Int),(Z:Int),b,c,nm⟩ kind=3 by rw[FC.u,if_pos e0]);clear e0;go_in;go_wp2_with (refine(Ed _ _).mono ?_;rintro r w2 ⟨rfl,rfl⟩;rw[HA.u]);go_ret;exact⟨DI hn.symm,ar⟩
  have t0:(kd==0)=false:=by simp[e0]
  have lJ:=AA (show Cl k ⟨kk,(en:Int),(Z:Int),b,c,nm⟩ kind=if mb=false then 1
   else if(0<kind/\kd≠kind)∨(kind=0/\Bp kd=false) then 3 else 0 by rw[FC.u,if_neg e0])
  clear e0 FC;go_in;go_wp2_with fail;refine(Ed _ _).mono ?_;rintro r w2 ⟨rfl,rfl⟩;rw[HA.u];go_wp2_with fail;refine Ac 11 64 [.a #[m,.slice (some ⟨bi,au,none⟩) k.ZJ.length ci,ev,cv],.p (w.heap.size+1) 1,.i ((en:Int)),.p w.heap.size 1,.v (.slice (some ⟨bi,au,none⟩) k.ZJ.length ci),.p (w.heap.size+1) 2,.i ((Z:Int)),.p bi (au+Z*3),.p bi (au+Z*3+1),.t gd,.b mb] (λ_ _ _=>True) ?_ ?_
  .intro i D o X a N Y H J h2 A
   have a6:=bc J gT x0;have ay:=bc J gT z;have az:=bc J gT x2;have br:=bc J gT x3;have ei:=bc J gU y1;have ie:=bc J gU y2;have jf:=bc J gy D1
   match i,D with
   |0,_=>exact sL X A Y H (hl:=Pi ‹_› ‹_› ‹_› ‹_›)
   |1,_|3,_|5,_|8,_=>exact sP X A Y H
   |2,_|6,_=>exact sL X A Y H (hl:=F7 ‹_›)
   |4,_=>exact sL X A Y H (hl:=Gi ‹_›)
   |7,_=>exact sI X A Y H (hr:=by clear H Y A;go_simp)
   |9,_=>exact sL X A Y H (hl:=Zq ‹_›)
   |10,_=>exact sD X A Y H (CM _ J)
  intro E N hR J
  have id:(E 10)=.bool mb:=Be hR 10;clear hR;simp only[Aj,Ae,yL,yI,yJ,yH,id];simp;clear id;have qF:=(J.cell (p:=⟨bi,au+Z*3,none⟩) gy).trans D0;have nj:=(J.cell (p:=⟨w,1,none⟩) gT).trans z;have nb:=(J.cell (p:=⟨w.heap.size+1,2,none⟩) gU).trans y2;have f8:=ar.trans (J.mono ar.size);clear D0 D1 x0 z x2 x3 V y1 y2 y3 y4 y5 J CM;cases mb
  .have hn:=AA (show Cl k ⟨kk,(en:Int),(Z:Int),b,c,nm⟩ kind=1 by rw[lJ.u];rfl)
   go_wp2;go_ret;exact⟨DI hn.symm,f8⟩
  rcases kx with rfl|rfl
  .have hn:=AA (show Cl k ⟨kk,(en:Int),(Z:Int),b,c,nm⟩ 0=if Bp kd=false then 3 else 0 by rw[lJ.u];simp)
   go_wp2_with fail;refine(GQ _ _).mono ?_;rintro r w2 ⟨rfl,rfl⟩;generalize Bp kd=tb at hn;cases tb
   .go_wp2
    go_ret;exact⟨DI hn.symm,f8⟩
   go_wp2
   go_ret;exact⟨DI hn.symm,f8⟩
  by_cases e1:kd=1
  .have t1:(kd !=1)=false:=by simp[e1]
   have hn:=AA (show Cl k ⟨kk,(en:Int),(Z:Int),b,c,nm⟩ 1=0 by rw[lJ.u];simp[e1]);clear e1;go_wp2;go_ret;exact⟨DI hn.symm,f8⟩
  have t1:(kd !=1)=true:=by simp[e1]
  have hn:=AA (show Cl k ⟨kk,(en:Int),(Z:Int),b,c,nm⟩ 1=3 by rw[lJ.u];simp[e1]);clear e1;go_wp2;go_ret;exact⟨DI hn.symm,f8⟩
 have mH:Bo a 0 11=false:=by simpa using ha
 have hn:=AA (show Cl k ⟨kk,e,a,b,c,nm⟩ kind=3 by unfold Cl;simp[mH]);have HA:=AA mH;clear ha mH h hk;go_in;go_wp2_with (refine(Ed _ _).mono ?_;rintro r w2 ⟨rfl,rfl⟩;rw[HA.u]);go_ret;exact⟨DI hn.symm,ar⟩
def Ng(w0:Ω)(g:Nat)(m i e c:Φ)(k:AQ)(qs:List (Φ×Int))(wr:Ω):Prop:=
 wr.heap[g]?=some (.cells #[m,i,e,c] 28 (0,0))/\(∃E,Ay w0 wr m E k.mem)/\AP w0.heap.size 115 3 Au wr i k.ZJ/\Dh w0 wr e qs (k.XX.take qs.length)/\AP w0.heap.size 125 4 AZ wr c k.XU/\Γ w0 w0 wr/\w0.heap.size<=g
def Ly(lo:Nat)(T:Nat)(W:Ω)(y0:Φ):Prop:=∃g,y0=.slice (some ⟨g,0,none⟩) 0 0/\lo<=g/\W.heap[g]?=some (.cells #[] T (0,0))
theorem Ly.below (h:Ly lo T W y0)(O:Γ W W W'):Ly lo T W' y0:=by obtain⟨g,h0,L,K⟩:=h;exact⟨g,h0,L,AB K O⟩
def XW(lo:Nat)(r:Int)(ts:List ByteArray)(W:Ω)(y0:Φ):Prop:=∃u,y0=.agg #[u,r]/\AP lo 9 1 A0 W u ts
variable{ts:List ByteArray}
theorem XW.below{r:Int}(h:XW lo r ts W y0)(O:Γ W W W'):XW lo r ts W' y0:=by obtain⟨u,h0,L⟩:=h;exact⟨u,h0,L.below O⟩
def ZH(lo:Nat)(r:Int)(ts:List ByteArray)(W:Ω)(y0:Φ):Prop:=∃g u,y0=.slice (some ⟨g,0,none⟩) 1 1/\lo<=g/\W.heap[g]?=some (.cells #[u,r] 81 (0,0))/\AP lo 9 1 A0 W u ts
theorem ZH.below{r:Int}(h:ZH lo r ts W y0)(O:Γ W W W'):ZH lo r ts W' y0:=by obtain⟨g,u,h0,L,K,h3⟩:=h;exact⟨g,u,h0,L,AB K O,h3.below O⟩
theorem dy{a b:Φ}(h:w.heap[g]?=some (.cells #[a,b] T (0,0))):Rd w (.slice g 1 1) 2 1 [a,b]:=by
 have h0:=yx _ _ 0 _ _ _ h;have L:=yx _ _ 1 _ _ _ h;refine⟨_,_,rfl,yF _,ζ,rfl,nofun,λ_=>⟨g,0,rfl,λj hj=>?_⟩⟩;rw[Nat.zero_add]
 match j,hj with
 |0,_=>exact h0
 |1,_=>exact L
 |_+2,hj=>exact absurd hj ω
def Iz(lo:Nat)(w:Ω)(v:Φ)(k:AQ):Prop:=∃m i e c,v=.agg #[m,i,e,c]/\(∃E,Ay lo w m E k.mem)/\AP lo 115 3 Au w i k.ZJ/\Dh lo w e [] []/\AP lo 125 4 AZ w c k.XU
theorem Iz.below (h:Iz lo w v k)(O:Γ w w w'):Iz lo w' v k:=by obtain⟨m,i,e,c,h0,⟨E,L⟩,K,h3,h4⟩:=h;exact⟨m,i,e,c,h0,⟨E,L.below O⟩,K.below O,h3.below O,h4.below O⟩
def eY(w:Ω)(row:Option Nat):Prop:=∀q,row=some q->∃j4,w.heap[q]?=some (.cells j4 81 (0,0))
variable{E:List Φ}
variable{row:Option Nat}
theorem fI{nd:List (List Int)}(o:Ay lo w1 v E nd)(K:w1.grownBy w2 row)(hr:eY w1 row):Ay lo w2 v E nd:=by
 cases row with
 |none=>exact o.below (Below.zE K)
 |some q=>obtain⟨j4,hc⟩:=hr q rfl;exact o.yV K hc
theorem eO{α:Type}{e sz:Nat}{cs:α->List Φ}{xs:List α}(o:AP lo e sz cs w1 v xs)(K:w1.grownBy w2 row)(hr:eY w1 row)(he:e≠81):AP lo e sz cs w2 v xs:=by
 cases row with
 |none=>exact o.below (Below.zE K)
 |some q=>obtain⟨j4,hc⟩:=hr q rfl;exact o.yV K hc he
theorem Ng.yU{c:Φ}{qs:List (Φ×Int)}(h:Ng w0 g m i e c k qs wr)(O:Γ wr wr w1)(K:w1.grownBy w2 e.ownBlock):w2.heap[g]?=some (.cells #[m,i,e,c] 28 (0,0)):=by
 have mK:=AB h.1 O;exact(K.block g (AY mK) λe'=>DH (h.2.2.2.1.1.below O) mK ψ e'.symm).trans mK
theorem Ng.step{c:Φ}{qs:List (Φ×Int)}{e:FF}(h:Ng w0 g m i ev c k qs wr)(O:Γ wr wr w1)(hu:AP wr.heap.size 9 1 A0 w1 u e.PQ)(he:k.XX[qs.length]?=some e)
 (L:w2.ownsRow w0.heap.size 81 2 v' (qs.length+1) (Cb FR qs++[u,.int .i64 e.root]))(K:w1.grownBy w2 ev.ownBlock):Ng w0 g m i v' c k (qs++[(u,e.root)]) (w2.setCell (g,2) v'):=by
 have kQ:=h.yU O K;obtain⟨hB,⟨E,o1⟩,o2,o3,o4,iJ,hg⟩:=h;have P:=Dh.push o3 O iJ.size (yF _) hu L K;have hr:eY w1 ev.ownBlock:=λq hq=>BB (o3.1.below O) q hq
 have bt:=At w2 g 2 v';have ht:k.XX.take (qs++[(u,e.root)]).length=k.XX.take qs.length++[⟨e.PQ,e.root⟩]:=by rw[yz,xP,DQ he]
 refine⟨?_,⟨E,(fI (o1.below O) K hr).yV bt kQ⟩,(eO (o2.below O) K hr ψ).yV bt kQ,?_,(eO (o4.below O) K hr ψ).yV bt kQ,?_,hg⟩
 .have:=yA w2 g 2 _ 28 v' kQ
  simpa using this
 .rw[ht]
  exact P.yV bt kQ
 exact((iJ.trans (O.mono iJ.size)).grown K (iJ.trans (O.mono iJ.size)).size (λq hq=>((o3.1.below O).lt q hq).1)).setCell hg _
theorem ML (m i e c:Φ)(k:AQ)(w:Ω)(h:Nk w m i e c k)(hk:Dg k):Ξ prog 76 #[.agg #[m,i,e,c]] w (Qk w k):=by
 obtain⟨L,K,h3,h4⟩:=h;have ku:=(Ak.1 (Ap hk).1).1;have iU:=(A4.1 (Ap hk).2.1).1;have mA:k.XU.length<=4:=by have:=hk.XU;simp only[Bl,yC,decide_eq_true_eq] at this;exact this.2
 have nK:∀f,f<k.mem.length->(AJ k.mem f).length<=100:=λf hf=>by have:=(BG.1 ((Ak.1 (Ap hk).1).2 f ω)).1;omega
 obtain⟨N0,N1,ar,iC⟩:=LF w (.cells #[m,i,e,c] 28) (.cells #[ι,ι,ι,ι] 28);obtain⟨x0,z,x2,x3⟩:=AH N0;have f4:=AY N0;have C1:=AA (λW (hW:Γ _ _ W)=>Ns m k.mem W ((L.below ar).below hW) ω nK);have RI:=AA (BN.below K ar);have RC:=AA (BN.below h4 ar);obtain⟨am,cm,rfl,_⟩:=L.open;obtain⟨ai,ci,rfl,_,_⟩:=K.shape;obtain⟨ae,ce,rfl,mB,iI,gz⟩:=(h3.below ar).open;obtain⟨ac,cc,rfl,_,_⟩:=h4.shape;have HE:=AA gz;have Hk:=AA hk;have jC:=AA hk.zX;have pt:k.ZJ.length<=100:=ω;generalize hW0:(w.alloc _).alloc _=W0 at*;clear L K h3 h4 hk ku iU nK gz;go_in;go_wp2_with fail;refine BD 14 46 [.p w.heap.size 0,.v (.slice am k.mem.length cm),.z,.z,.p w.heap.size 1,.v (.slice ai k.ZJ.length ci),.z,.z,.z,.p w.heap.size 3,.v (.slice ac k.XU.length cc),.z,.z,.z] (λix vv ww=>match ix with
  |2=>∃gR,Ay W0 ww vv gR k.mem
  |3=>Ly W0.heap.size 115 ww vv
  |6=>AP W0.heap.size 115 3 Au ww vv k.ZJ
  |7=>Dh W0 ww vv [] []
  |8=>Ly W0.heap.size 125 ww vv
  |11=>AP W0.heap.size 125 4 AZ ww vv k.XU
  |12=>Iz W0 ww vv k
  |13=>LP W0 ww vv
  |_=>True) ?_ ?_ ?_
 .intro i D o X a N Y H J h2 A
  match i,D with
  |0,_|4,_|9,_=>exact sP X A Y H
  |1,_=>exact sL X A Y H (hl:=GR (bc J f4 x0))
  |2,_=>exact sC X A Y H (C1 _ J) (by rintro e w_ ⟨v',gR,rfl,hO,aq⟩;exact⟨_,rfl,⟨gR,hO.lower J.size⟩,aq⟩)
  |5,_=>exact sL X A Y H (hl:=Gi (bc J f4 z))
  |10,_=>exact sL X A Y H (hl:=YF (bc J f4 x3))
  |3,_|8,_=>obtain rfl:=yP X;clear H Y;refine yO ?_;go_simp;exact A _ _ ⟨_,rfl,J.size,yy _ _⟩ (AG _ _)
  |6,_=>obtain rfl:=yP X;have d3:Ly W0.heap.size 115 N (a.tmps[8]?.getD Θ):=Bd H 3;have d5:(a.tmps[10]?.getD Θ)=.slice ai k.ZJ.length ci:=Bd H 5;clear H Y;refine yO ?_;obtain⟨g_,kX,kW,kV⟩:=d3;obtain⟨v7,w4,g7,r1,r2,_⟩:=ED (lo:=W0.heap.size) (w:=N) (t:=24) (ty:=24) 115 _ 3 32 underlying24 Tryz.zO rfl ψ kV kW (BN.below RI J) (Fx _) ω;refine Bv rfl (Bs kX) (Bs d5) g7 ?_;exact A _ _ r1 r2
  |7,_=>obtain rfl:=yP X;clear H Y;refine yO ?_;go_simp;exact A _ _ ⟨AP.lower (Cn FR _ _ _) J.size,GY.nil,Dk.nil⟩ (AG _ _)
  |11,_=>obtain rfl:=yP X;have d8:Ly W0.heap.size 125 N (a.tmps[13]?.getD Θ):=Bd H 8;have iL:(a.tmps[15]?.getD Θ)=.slice ac k.XU.length cc:=Bd H 10;clear H Y;refine yO ?_;obtain⟨g_,kX,kW,kV⟩:=d8;obtain⟨v7,w4,g7,r1,r2,_⟩:=ED (lo:=W0.heap.size) (w:=N) (t:=26) (ty:=26) 125 _ 4 32 underlying26 Tryz.zP rfl ψ kV kW (BN.below RC J) (Ki _) ω;refine Bv rfl (Bs kX) (Bs iL) g7 ?_;exact A _ _ r1 r2
  |12,_=>
   obtain rfl:=yP X;have d2:∃gR,Ay W0 N (a.tmps[7]?.getD Θ) gR k.mem:=Bd H 2
   have d6:AP W0.heap.size 115 3 Au N (a.tmps[11]?.getD Θ) k.ZJ:=Bd H 6;have d7:Dh W0 N (a.tmps[12]?.getD Θ) [] []:=Bd H 7;have gj:AP W0.heap.size 125 4 AZ N (a.tmps[16]?.getD Θ) k.XU:=Bd H 11;clear H Y;generalize e7:a.tmps[7]?.getD Θ=m' at d2;generalize e11:a.tmps[11]?.getD Θ=i' at d6;generalize e12:a.tmps[12]?.getD Θ=e' at d7;generalize e16:a.tmps[16]?.getD Θ=c' at gj;have W:dv (Iz W0 N (.agg #[m',i',e',c']) k):=AA ⟨m',i',e',c',rfl,d2,d6,d7,gj⟩;obtain⟨_,d2⟩:=d2;obtain⟨_,_,rfl,_,_⟩:=d2.1.rd.shape;obtain⟨_,_,rfl,_,_⟩:=d6.rd.shape;obtain⟨_,_,rfl,_,_⟩:=d7.1.rd.shape;obtain⟨_,_,rfl,_,_⟩:=gj.rd.shape;clear d2 d6 d7 gj;refine yO ?_;go_simp;exact A _ _ W (yN _ _)
  |13,_=>obtain rfl:=yP X;clear H Y;refine yO ?_;go_simp;exact A _ _ ⟨_,rfl,J.size,yy _ _⟩ (AG _ _)
 .intro i D vv wz c7 bf hz
  match i,D with
  |2,_=>exact(by obtain⟨gR,h'⟩:=hz;exact⟨gR,h'.below bf⟩)
  |3,_|8,_=>exact(Ly.below hz bf)
  |6,_|11,_=>exact(AP.below hz bf)
  |7,_=>exact(Dh.below hz bf)
  |12,_=>exact(Iz.below hz bf)
  |13,_=>exact(LP.below hz bf)
  |0,_|1,_|4,_|5,_|9,_|10,_=>exact hz
 intro E N hR J
 have g4:Iz W0 N (E 12) k:=Be hR 12;have gK:LP W0 N (E 13):=Be hR 13;obtain⟨g,gK,hg,hB⟩:=gK;clear hR;simp only[Aj,Ae,yL,yI,yJ,yH,gK];simp;generalize E 12=z12 at g4 ⊢;clear gK;obtain⟨m',i',e',c',rfl,⟨gR,o1⟩,o2,o3,o4⟩:=g4;have bt:=Ar (Ar (Ar (At N g 0 m') 1 i') 2 e') 3 c';have St:Ng W0 g m' i' e' c' k [] ((((N.setCell g m').setCell (g,1) i').setCell (g,2) e').setCell (g,3) c'):=
  ⟨DP hB,⟨gR,o1.yV bt hB⟩,o2.yV bt hB,o3.yV bt hB,o4.yV bt hB,(((J.setCell hg _).setCell hg _).setCell hg _).setCell hg _,hg⟩
 obtain⟨pa,pc,rfl,_,_⟩:=o1.1.rd.shape;obtain⟨qa,qc,rfl,_,_⟩:=o2.rd.shape;obtain⟨ea,ec,oh,_,_⟩:=o3.1.rd.shape;rw[List.length_nil] at oh;subst oh;obtain⟨ra,rc,rfl,_,_⟩:=o4.rd.shape;obtain⟨b0,b1,b2,b3⟩:=AH hB;have gW:=AK hB;have pY:=AA N0;have pX:=AA N1;have pP:=AA hW0;have pN:=AA iC;clear o1 o2 o3 o4 J hB bt x0 z x2 x3 N0 N1 hW0 iC RI RC C1;go_wp2_with fail;clear b0 b1 b2 b3 gW;go_loopw [4] (λix wr=>∃(qs:List (Φ×Int)) (ev:Φ),qs.length<=3/\ix=.int .i64 qs.length/\Ng W0 g (.slice pa gR.length pc) (.slice qa k.ZJ.length qc) ev (.slice ra k.XU.length rc) k qs wr) (λix _=>3 - (intOf ix).toNat)
 exact⟨[],_,χ,rfl,St⟩
 clear St;obtain⟨qs,ev,hq,rfl,St⟩:=hrel;have jB:=jC.u;have li:=(AH ((St.2.2.2.2.2.1.block _ f4).trans pY.u)).2.2.1;have kv:=yt f4 St.2.2.2.2.2.1.size;have y2:=(AH St.1).2.2.1;have jl:=AY St.1;obtain⟨ea,ec,rfl,qo,pC⟩:=St.2.2.2.1.1.rd.shape
 by_cases bm:qs.length<3
 .have kn:qs.length<k.XX.length:=ω
  obtain⟨be,ez,ua,uc,rfl,iH,D0,D1,hR⟩:=(HE.below (St.2.2.2.2.2.1)) qs.length kn;have pk:(qs.length:Int)<k.XX.length:=ω;have RS:=AA hR;have qj:=Rv Hk bm;have lH:=AA St;have pQ:=AA jB;have ng:=li;clear St hR jB li;go_wp2_with fail;refine BD 18 46 [.p g 2,.v (.slice ea qs.length ec),.z,.p w.heap.size 2,.v (.slice (some ⟨be,ez,none⟩) k.XX.length ce),.i ((qs.length:Int)),.p be (ez+qs.length*2),.p be (ez+qs.length*2),.v (.slice ua (AI k.XX qs.length).PQ.length uc),.z,.p w.heap.size 2,.v (.slice (some ⟨be,ez,none⟩) k.XX.length ce),.i ((qs.length:Int)),.p be (ez+qs.length*2),.p be (ez+qs.length*2+1),.i ((AI k.XX qs.length).root),.z,.z] (λix vv ww=>match ix with
   |2=>Ly wr.heap.size 9 ww vv
   |9=>AP wr.heap.size 9 1 A0 ww vv (AI k.XX qs.length).PQ
   |16=>XW wr (AI k.XX qs.length).root (AI k.XX qs.length).PQ ww vv
   |17=>ZH wr (AI k.XX qs.length).root (AI k.XX qs.length).PQ ww vv
   |_=>True) ?_ ?_ ?_
  .intro i D o X a N Y H J h2 A
   have a6:=bc J jl y2;have ay:=bc J kv ng;have az:=bc J iH D0;have br:=bc J iH D1
   match i,D with
   |0,_|3,_|5,_|7,_|10,_|12,_|14,_=>exact sP X A Y H
   |1,_|4,_|11,_=>exact sL X A Y H (hl:=Ph ‹_›)
   |6,_|13,_=>exact sI X A Y H (hr:=by clear H Y A;go_simp)
   |8,_=>exact sL X A Y H (hl:=Kt ‹_›)
   |15,_=>exact sL X A Y H (hl:=F7 ‹_›)
   |2,_=>clear a6 ay az br;obtain rfl:=yP X;clear H Y;refine yO ?_;go_simp;exact A _ _ ⟨_,rfl,J.size,yy _ _⟩ (AG _ _)
   |9,_=>clear a6 ay az br;obtain rfl:=yP X;have d2:Ly wr.heap.size 9 N (a.tmps[27]?.getD Θ):=Bd H 2;have d8:(a.tmps[33]?.getD Θ)=.slice ua (AI k.XX qs.length).PQ.length uc:=Bd H 8;clear H Y;refine yO ?_;obtain⟨g_,kX,kW,kV⟩:=d2;obtain⟨v7,w4,g7,r1,r2,_⟩:=ED (lo:=wr.heap.size) (w:=N) (t:=79) (ty:=79) 9 _ 1 16 underlying79 Tryz.zT rfl ψ kV kW (BN.below RS J) (IX _) ω;refine Bv rfl (Bs kX) (Bs d8) g7 ?_;exact A _ _ r1 r2
   |16,_=>clear a6 ay az br;obtain rfl:=yP X;have d9:AP wr.heap.size 9 1 A0 N (a.tmps[34]?.getD Θ) (AI k.XX qs.length).PQ:=Bd H 9;have gY:(a.tmps[40]?.getD Θ)=.int .i64 ((AI k.XX qs.length).root):=Bd H 15;clear H Y;generalize e34:a.tmps[34]?.getD Θ=u at d9;have W:dv (XW wr (AI k.XX qs.length).root (AI k.XX qs.length).PQ N (.agg #[u,.int .i64 (AI k.XX qs.length).root])):=AA ⟨u,rfl,d9⟩;obtain⟨_,_,rfl,_,_⟩:=d9.rd.shape;clear d9;refine yO ?_;go_simp;exact A _ _ W (yN _ _)
   |17,_=>clear a6 ay az br;obtain rfl:=yP X;have kU:XW wr (AI k.XX qs.length).root (AI k.XX qs.length).PQ N (a.tmps[41]?.getD Θ):=Bd H 16;clear H Y;obtain⟨u,kU,d9⟩:=kU;have HD:=AA d9;obtain⟨_,_,rfl,_,_⟩:=d9.rd.shape;clear d9;refine yO ?_;go_simp;exact A _ _ ⟨_,_,rfl,J.size,yy _ _,HD.below (AG _ _)⟩ (AG _ _)
   |_+18,hq=>omega
  .intro i D vv wz c7 bf hz
   match i,D with
   |2,_=>exact(Ly.below hz bf)
   |9,_=>exact(AP.below hz bf)
   |16,_=>exact(XW.below hz bf)
   |17,_=>exact(ZH.below hz bf)
   |0,_|1,_|3,_|4,_|5,_|6,_|7,_|8,_|10,_|11,_|12,_|13,_|14,_|15,_=>exact hz
   |_+18,hq=>omega
  intro E N hR J
  have q1:(E 1)=.slice ea qs.length ec:=Be hR 1;have kb:ZH wr (AI k.XX qs.length).root (AI k.XX qs.length).PQ N (E 17):=Be hR 17;clear hR;simp only[Aj,Ae,yL,yI,yJ,yH,q1];simp;generalize E 17=z17 at kb ⊢;clear q1;obtain⟨gb,u,rfl,_,jW,hu⟩:=kb;have iJ:=lH.2.2.2.2.2.1;have nb:=(J.cell (p:=⟨g,2,none⟩) jl).trans y2;have pm:=yt jl J.size;have Q:=AA (dy jW);have HU:=AA hu;have hb:=AA (lH.2.2.2.1.1.below J);have HG:=AA J;have od:=(iJ.trans (J.mono iJ.size)).size;obtain⟨_,_,rfl,_,_⟩:=hu.rd.shape;clear jW hu J D0 D1 y2 iJ;go_wp2_with (at_builtin;go_must (refine Bm (lo:=W0.heap.size) (n:=qs.length) (xs:=Cb FR qs) (m:=1) rfl rfl 81 (.agg #[ι,θ]) 2 32 underlying25 Tryz.zd rfl ψ rfl hb rfl Q (by simp[Value.oneCell']) μ ω od ?_;intro o' w9 k1 k2 k3 k4;have S:=AA (lH.step HG HU (show k.XX[qs.length]?=some (AI k.XX qs.length) by unfold AI;exact A9 kn) k1 k2);have lz:=lH.yU HG k2;have z2:=(AH lz).2.2.1;have qy:=AK lz;have jS:=AY lz;obtain⟨_,_,rfl,_,_⟩:=(Rd.of_owns k1).shape;clear k1 k2 k3 k4 lz nb));go_roundw;exact⟨_,_,by rw[yz,xP];omega,by rw[yz,xP];go_num,S.u⟩;simp[intOf];omega
 have e3:qs.length=3:=ω;obtain⟨hB,⟨oM,o1⟩,o2,o3,o4,al,_⟩:=St;have o5:Dh W0 wr (.slice ea qs.length ec) qs k.XX:=by have:=o3;rwa [List.take_of_length_le ω] at this
 have iX:=(al.block _ (by have:=pN.u;omega)).trans pX.u;have S:=AA (show ∀w',wr.grownBy w' (some (w.heap.size+1))->Qk w k (.returned (.agg #[_,_,(.slice ea qs.length ec),_])) w' from λw' kE=>⟨_,_,_,_,rfl,⟨⟨oM,(o1.yV kE iX).lower ar.size⟩,(o2.yV kE iX).lower ar.size,⟨qs,(o5.yV kE iX).lower ar.size⟩,(o4.yV kE iX).lower ar.size⟩,(ar.trans (al.mono ar.size)).grown kE (ar.trans (al.mono ar.size)).size (λk hk=>by cases hk;omega)⟩)
 obtain⟨E0,E1,E2,E3⟩:=AH (DP (m':=.slice pa gR.length pc) (i':=.slice qa k.ZJ.length qc) (e':=.slice ea qs.length ec) (c':=.slice ra k.XU.length rc) iX);have HE:=AA (yj E0 (yj E1 (yj E2 E3)));have bt:wr.grownBy ((((wr.setCell (w.heap.size+1,0) (.slice pa gR.length pc)).setCell (w.heap.size+1,1) (.slice qa k.ZJ.length qc)).setCell (w.heap.size+1,2) (.slice ea qs.length ec)).setCell (w.heap.size+1,3) (.slice ra k.XU.length rc)) (some (w.heap.size+1)):=Ar (Ar (Ar (At wr (w.heap.size+1) 0 _) 1 _) 2 _) 3 _;obtain⟨b0,b1,b2,b3⟩:=AH hB;obtain⟨c0,c1,c2,c3⟩:=AH iX;have gW:=AK iX;have ms:¬(qs.length:Int)<k.XX.length:=ω;have ng:=li;clear hB iX o1 o2 o3 o4 o5 E0 E1 E2 E3 e3 li jB;go_wp2_with fail;exact yB (v:=.agg #[_,_,_,_]) (by simp[results,Tryz.results76,go_sem,HE.u]) rfl (S _ bt)
theorem Tl (m iv ev cv:Φ)(k:AQ)(kk b c:Int)(en Z:Nat)(nm:ByteArray)(w:Ω)(h:Nk w m iv ev cv k)(hk:Dg k)(bw:en<3)(bA:Z<12)(hL:kk=4->Bp b=true):
 Ξ prog 236 #[.agg #[m,iv,ev,cv],.agg #[kk,en,Z,b,c,nm]] w (Nj (if kk=4 then GV k.mem k.ZJ Z b (AI k.XX en).PQ else DT k.mem k.ZJ Z) w):=by
 obtain⟨N0,N1,ar,iC⟩:=LF w (.cells #[m,iv,ev,cv] 28) (.cells #[kk,en,Z,b,c,nm] 34);obtain⟨x0,z,x2,x3⟩:=AH N0;obtain⟨V,y1,y2,y3,y4,y5⟩:=KK N1;have gT:=AY N0;have gU:=AY N1;have gx:=(Ap hk).1;have f7:=(Ap hk).2.1;have hm:=h.1.below ar;have D:=BN.below h.2.1 ar;obtain⟨ae,ce,rfl,_,_,HE⟩:=(h.2.2.1.below ar).open;have gX:en<k.XX.length:=by rw[hk.zX];exact bw
 obtain⟨be,ez,ua,uc,rfl,iH,D0,_,hR⟩:=HE en gX;have pB:(en:Int)<k.XX.length:=ω;have ph:¬(en:Int)<0:=ω;have C1:=λ(h4:kk=4)=>λW (hW:Γ _ _ W)=>Tw m iv _ k.mem k.ZJ Z b (AI k.XX en).PQ W (hm.below hW) gx (BN.below D hW) f7 bA (hL h4) (BN.below hR hW) (JF hk bw) (hk.PQ en bw)
 have C2:=AA (λW (hW:Γ _ _ W)=>Qj m iv k.mem k.ZJ Z W (hm.below hW) gx (BN.below D hW) f7 bA);obtain⟨am,cm,rfl,_⟩:=hm.open;obtain⟨ai,ci,rfl,_,_⟩:=D.shape;generalize hW0:(w.alloc _).alloc _=W0 at*
 by_cases h4:kk=4
 .rw[if_pos h4]
  have CP:=AA (C1 h4);subst h4;generalize GV k.mem k.ZJ Z b (AI k.XX en).PQ=res at*;clear h hk N0 N1 HE hm D hR C1 C2 gx f7 hL iC;go_in;go_wp2_with fail;refine BD 18 36 [.p w.heap.size 0,.v (.slice am k.mem.length cm),.p w.heap.size 1,.v (.slice ai k.ZJ.length ci),.p (w.heap.size+1) 2,.i ((Z:Int)),.p (w.heap.size+1) 3,.i b,.p w.heap.size 2,.v (.slice (some ⟨be,ez,none⟩) k.XX.length ce),.p (w.heap.size+1) 1,.i ((en:Int)),.p be (ez+en*2),.p be (ez+en*2),.v (.slice ua (AI k.XX en).PQ.length uc),.z,.z,.i (res.2)] (λix vv ww=>match ix with
   |15=>∃v',vv=.tuple #[v',res.2]/\AP W0.heap.size 115 3 Au ww v' res.1
   |16=>AP W0.heap.size 115 3 Au ww vv res.1
   |_=>True) ?_ ?_ ?_
  .intro i D o X a N Y H J h2 A
   have az:=bc J gU y2;have br:=bc J gU y3;have ie:=bc J gU y1
   match i,D with
   |0,_|2,_|4,_|6,_|8,_|10,_|13,_=>exact sP X A Y H
   |1,_=>exact sL X A Y H (hl:=GR (bc J gT x0))
   |3,_=>exact sL X A Y H (hl:=Gi (bc J gT z))
   |5,_|7,_|11,_=>exact sL X A Y H (hl:=F7 ‹_›)
   |9,_=>exact sL X A Y H (hl:=Ph (bc J gT x2))
   |12,_=>exact sI X A Y H (hr:=by clear H Y A;go_simp)
   |14,_=>exact sL X A Y H (hl:=Kt (bc J iH D0))
   |15,_=>exact sC X A Y H (CP _ J) (by rintro e w_ ⟨v',rfl,hO,aq⟩;exact⟨_,rfl,⟨_,rfl,hO.lower J.size⟩,aq⟩)
   |16,_=>
    clear az br ie;obtain rfl:=yP X;have gY:∃v',(a.tmps[24]?.getD Θ)=.tuple #[v',res.2]/\AP W0.heap.size 115 3 Au N v' res.1:=Bd H 15
    clear H Y;obtain⟨v',gY,hO⟩:=gY;refine yO ?_;go_simp;exact A _ _ hO (yN _ _)
   |17,_=>
    clear az br ie;obtain rfl:=yP X;have gY:∃v',(a.tmps[24]?.getD Θ)=.tuple #[v',res.2]/\AP W0.heap.size 115 3 Au N v' res.1:=Bd H 15
    clear H Y;obtain⟨v',gY,hO⟩:=gY;refine yO ?_;go_simp;exact A _ _ rfl (yN _ _)
   |_+18,hq=>omega
  .intro i D vv wz c7 bf hz
   match i,D with
   |15,_=>exact(by obtain⟨v',h0,L⟩:=hz;exact⟨v',h0,AP.below L bf⟩)
   |16,_=>exact(AP.below hz bf)
   |0,_|1,_|2,_|3,_|4,_|5,_|6,_|7,_|8,_|9,_|10,_|11,_|12,_|13,_|14,_|17,_=>exact hz
   |_+18,hq=>omega
  intro E N hR J
  have i9:AP W0.heap.size 115 3 Au N (E 16) res.1:=Be hR 16;have kb:(E 17)=.int .i64 (res.2):=Be hR 17;clear hR;simp only[Aj,Ae,yL,yI,yJ,yH,kb];simp;generalize E 16=z16 at i9 ⊢;clear kb;have Q:=AA i9;have f8:=ar.trans (J.mono ar.size);obtain⟨_,_,rfl,_,_⟩:=i9.rd.shape;clear i9 J;go_wp2;go_ret2;exact⟨_,rfl,Q.lower ar.size,f8⟩
 rw[if_neg h4]
 have t4:(kk==4)=false:=by simp[h4]
 generalize DT k.mem k.ZJ Z=res at*;clear h hk N0 N1 HE hm D hR C1 gx f7 hL iC h4;go_in;go_wp2_with (refine(C2 _ (yN _ _)).mono ?_;rintro r w2 ⟨v',rfl,hO,b2⟩;have HO:=AA hO;have f8:=ar.trans (b2.mono ar.size);obtain⟨_,_,rfl,_,_⟩:=hO.rd.shape;clear hO b2);go_ret2;exact⟨_,rfl,HO.lower ar.size,f8⟩
theorem Ib{t:TypeId}(ty:TypeId)(e:TypeId)(x1:Φ)(sz bytes:Nat)(ht:prog.underlying t=some (.slice e))(D:(prog.info? e).map (λi=>(i.zero,i.size,i.bytes))=some (some x1,sz,bytes))
 (oW:x1.cells.size=sz)(pd:0<sz){v:Φ}{n m:Nat}{xs news:List Φ}(iE:w.ownsRow lo e sz v n xs)(hr:Rd w u sz m news)(L:∀u∈news,u.oneCell'=true)(pI:n+m<=maxLen)(js:(n+m)*bytes<=140737488355328)(a8:lo<=w.heap.size):
 ∃v' w',(Builtin.append_ #[t,t] ty #[v,u]).run prog w=.ok v' w'/\w'.ownsRow lo e sz v' (n+m) (xs++news)/\w.grownBy w' v.ownBlock/\Γ lo w w':=by
 obtain⟨i0,nZ,oZ,oY,oX⟩:=info_parts D;obtain⟨ao,c,rfl,nS,kJ,hl,iF,hc⟩:=hr;have al:∀w',w.grownBy w' v.ownBlock->Γ lo w w':=λw' hg=>(yN lo w).grown hg a8 (λk hk=>(iE.lt k hk).1)
 cases ao with
 |none=>
  have gO:=iF rfl;subst gO;obtain rfl:m=0:=ω;have kq:news=[]:=List.eq_nil_of_length_eq_zero (by simpa using hl);subst kq;exact⟨v,w,run_append_owned_none (P:=prog) (w:=w) lo t ty e i0 sz ht nZ v n xs iE,by simpa using iE,⟨rfl,rfl,rfl,yF _,λ_ _ _=>rfl⟩,yN _ _⟩
 |some ad=>
  obtain⟨v',w',K,h3,h4,_⟩:=run_append_own_at (P:=prog) w lo t ty e i0 x1 sz bytes ht nZ oZ oY oX oW pd v n xs iE ad m c news hl (by
   intro j u hu
   rcases wJ m with rfl|hm
   .simp at hl
    simp[hl] at hu
   obtain⟨b,cC,pE,f5⟩:=hc hm
   obtain rfl:ad=⟨b,cC,none⟩:=by simpa using pE
   have hj:j<news.length:=(yD.1 hu).1;have mF:(⟨b,cC,none⟩:Addr).add j=⟨b,cC+j,none⟩:=by unfold Addr.add;split<;>simp_all
   rw[mF,f5 j ω,hu]) L pI js a8
  exact⟨v',w',K,h3,h4,al w' h4⟩
def IS(ss:List ByteArray)(s:ByteArray):List ByteArray×Bool:=if BY ss&&BT s then BW ss s else([],false)
def dS(w:Ω)(r:List ByteArray×Bool)(e:Ending)(w':Ω):Prop:=∃v',e=.returned (.tuple #[v',r.2])/\AP w.heap.size 9 1 A0 w' v' r.1/\Γ w w w'
theorem Us{a:Option Addr}{c k:Nat}(h:BZ w (.slice a n c) ss)(R:n=ss.length)(hk:k<=n):BZ w (.slice a k c) (ss.take k):=by
 obtain⟨ao,c',hv,nS,kJ,hl,iF,hc⟩:=h;simp only[xQ] at hv;obtain⟨rfl,_,rfl⟩:=hv;have bs:(ss.take k).length=k:=by rw[List.length_take];omega
 unfold BZ BN;rw[bs];refine⟨_,_,rfl,ω,kJ,by rw[FI,uJ,bs,Nat.mul_one],iF,λjU=>?_⟩;obtain⟨b,cC,e,f5⟩:=hc ω;refine⟨b,cC,e,λj hj=>?_⟩;have nX:j<k:=ω;rw[f5 j ω,FI,FI,List.map_take,List.getElem?_take,if_pos nX]
theorem aP{b cC c k:Nat}(h:BZ w (.slice (some ⟨b,cC,none⟩) n c) ss)(R:n=ss.length)(hk:k<=n)(b' ja:Nat)(he:k<n->b'=b/\ja=cC+k):BZ w (.slice (some ⟨b',ja,none⟩) (n - k) (c - k)) (ss.drop k):=by
 obtain⟨ao,c',hv,nS,kJ,hl,iF,hc⟩:=h;simp only[xQ] at hv;obtain⟨rfl,_,rfl⟩:=hv;have bs:(ss.drop k).length=n - k:=by rw[List.length_drop];omega
 unfold BZ BN;rw[bs];refine⟨_,_,rfl,ω,ω,by rw[FI,uJ,bs,Nat.mul_one],(by intro e;cases e),λjU=>?_⟩;obtain⟨b1,lV,e,f5⟩:=hc ω;obtain⟨rfl,rfl⟩:b=b1/\cC=lV:=by simpa using e
 obtain⟨rfl,rfl⟩:=he ω;refine⟨_,_,rfl,λj hj=>?_⟩;rw[Nat.add_assoc,f5 (k+j) ω,FI,FI,List.map_drop,List.getElem?_drop]
theorem IM (E:List Φ):Cb Gs E=E:=by
 induction E with
 |nil=>rfl
 |cons v E ih=>rw[IU,ih];rfl
theorem Ay.set{B:Nat}{gs:Nat}{S:List (List Int)}(h:Ay lo w0 (.slice gs n ex) E S)(O:Γ w0 w0 w)(hO:AE B w v' r)(hB:w0.heap.size<=B)(a8:lo<=w0.heap.size)(R:n=E.length)(hj:j<E.length):
 Ay lo (w.setCell (gs,j) v') (.slice gs n ex) (E.set j v') (S.set j r)/\w.grownBy (w.setCell (gs,j) v') (some gs):=by
 have h':=h.below O;obtain⟨L,⟨mL,K⟩,h3⟩:=h';have g1:w.ownsRow lo 29 1 (.slice gs n ex) n E:=by have:=L;unfold AP at this;rw[IM,<-R] at this;exact this
 obtain⟨s1,s2⟩:=World.ownsRow.stored g1 j v';obtain⟨j4,hQ⟩:=BB g1 gs rfl;have old:∀(i:Nat) u,E[i]?=some u->∀b,u.ownBlock=some b->b<w0.heap.size:=λi u hu b j0=>by
  obtain⟨x,hx⟩:∃x,S[i]?=some x:=⟨_,List.getElem?_eq_getElem (by rw[<-mL];exact(yD.1 hu).1)⟩
  exact(yE (h.2.1.2 i u x hu hx) b j0).2
 refine⟨⟨?_,⟨by rw[yi,yi];exact mL,λi u x hu hx=>?_⟩,λi k u u' nY hu jg=>?_⟩,s2⟩
 .unfold AP
  rw[IM,yi,<-R];exact s1
 .rw[vE] at hu hx
  by_cases e:j=i
  .subst e
   rw[if_pos rfl,if_pos hj] at hu;rw[if_pos rfl,if_pos (by rw[<-mL];exact hj)] at hx;cases hu;cases hx;exact DY (BS hO (yM a8 hB)) s2 hQ
  rw[if_neg e] at hu hx
  exact DY (K i u x hu hx) s2 hQ
 have fresh:∀b,v'.ownBlock=some b->w0.heap.size<=b:=λb j0=>yM hB (yE hO b j0).1
 rw[vE] at hu jg
 by_cases e:j=i
 .subst e
  rw[if_pos rfl,if_pos hj] at hu;rw[if_neg nY] at jg;cases hu;intro b bl aq;have:=fresh b bl;have:=old k u' jg b aq;omega
 rw[if_neg e] at hu
 by_cases e':j=k
 .subst e'
  rw[if_pos rfl,if_pos hj] at jg;cases jg;intro b bl aq;have:=fresh b aq;have:=old i u hu b bl;omega
 rw[if_neg e'] at jg
 exact h3 i k u u' nY hu jg
theorem Rt (hk:Dg k):k.XU.length<=4:=by have:=hk.XU;simp only[Bl,yC,decide_eq_true_eq] at this;exact this.2
variable{hn:List Nat}
theorem Ep.newRow{cs:Array Φ}{c:Φ}{gm:Nat}(h:Ep T cs hn lo g b0 w W (.slice gm n ex) i e c k)(R:n=k.mem.length)(O:Γ W W W'){r:List Int}(K:AE W W' v' r){f:Nat}(hf:f<k.mem.length):
 Ep T cs hn lo g b0 w (W'.setCell (gm,f) v') (.slice gm n ex) i e c {k with mem:=k.mem.set f r}:=by
 have h':=h.below O;obtain⟨E,o1⟩:=h.yS.2.2.1;have qi:E.length=k.mem.length:=o1.2.1.1;have S:=Ay.set o1 O K (yF _) h.lo ω (ω:f<E.length);have nu:=o1.below O;obtain⟨j4,hc⟩:=BB nu.1 gm rfl;obtain⟨hB,hg,_,o2,⟨ps,o3⟩,o4⟩:=h'.yS;exact⟨⟨LX hB S.2 hc ψ,hg,⟨_,S.1⟩,o2.yV S.2 hc,⟨ps,o3.yV S.2 hc⟩,o4.yV S.2 hc⟩,As h'.yU S.2 (Ca hc h'.yU h.ty.2.2.2.2),AM h'.bel S.2 (yE nu.1 gm rfl).1 h'.lo,yM h'.lo S.2.size,h.ty,h'.kf.row S.2 hc ψ,λb hr=>⟨(h.rs b hr).1,As (h'.rs b hr).2 S.2 (Ca hc (h'.rs b hr).2 ψ)⟩⟩
def AV.cs(c:AV):Array Φ:= #[.int .i64 c.k,.int .i64 c.e,.int .i64 c.a,.int .i64 c.b,.int .i64 c.c,.string c.nm]
abbrev SC(lo n:Nat)(call:AV)(w W:Ω)(m i e c:Φ)(k:AQ):Prop:=Ep 34 call.cs [n+2] lo n (n+1) w W m i e c k
theorem SC.start{c:Φ}(h:Dy lo w m i e c k)(a8:lo<=w.heap.size)(call:AV):
 SC lo w.heap.size call w (((w.alloc (.cells #[m,i,e,c] 28)).alloc (.cells call.cs 34)).alloc (.cells #[ι,ι,ι,ι] 28)) m i e c k:=by
 obtain⟨N0,N1,ar,iC⟩:=LF w (.cells #[m,i,e,c] 28) (.cells call.cs 34);generalize(w.alloc (.cells #[m,i,e,c] 28)).alloc (.cells call.cs 34)=W at*;obtain⟨N2,bl⟩:=Ec W (.cells #[ι,ι,ι,ι] 28);have O:=ar.trans (bl.mono ar.size);rw[iC] at N2;refine⟨⟨AB N0 bl,a8,h.below O⟩,AB N1 bl,O.mono a8,yM a8 O.size,ψ,aZ.below (λ_ _ _ _=>rfl) O,λb hr=>?_⟩;rw[xy] at hr;subst hr;exact⟨ω,N2⟩
def fj(m i e c:Φ):Prop:=∃am nm cm ai ni ci ae ne ce ac nc cc,m=.slice am nm cm/\i=.slice ai ni ci/\e=.slice ae ne ce/\c=.slice ac nc cc
def L2(lo:Nat)(w:Ω)(res:Nm)(r:Ending)(w':Ω):Prop:=∃m i e c,r=.returned (.tuple #[.agg #[m,i,e,c],res.2.1,res.2.2])/\fj m i e c/\(res.2.2=0->Dy lo w' m i e c res.1)/\Γ lo w w'/\(∀(b:Nat)(cu:Array Φ),w.heap[b]?=some (.cells cu 28 (0,0))->w'.heap[b]?=w.heap[b]?)
section
variable {T:Nat} {cs:Array Φ} {hn:List Nat} {lo g b0 b:Nat} {w W W':Ω} {m i e c:Φ} {k:AQ}
theorem Ep.ys6{v0 v1 v2 v3 v4 v5:Φ}(h:Ep T #[v0,v1,v2,v3,v4,v5] hn lo g b0 w W m i e c k):W.cell? b0=some v0/\W.cell? (b0,1)=some v1/\W.cell? (b0,2)=some v2/\W.cell? (b0,3)=some v3/\W.cell? (b0,4)=some v4/\W.cell? (b0,5)=some v5:=KK h.yU
theorem Ep.K(h:Ep T cs hn lo g b0 w W m i e c k):Nk W m i e c k:=h.yS.2.2.rd
theorem Ep.Dq(h:Ep T cs hn lo g b0 w W m i e c k):fj m i e c:=by obtain⟨L,K,h3,h4⟩:=h.K;obtain⟨am,cm,rfl,_⟩:=L.open;obtain⟨ai,ci,rfl,_,_⟩:=K.shape;obtain⟨ae,ce,rfl,_⟩:=h3.open;obtain⟨ac,cc,rfl,_,_⟩:=h4.shape;exact⟨_,_,_,_,_,_,_,_,_,_,_,_,rfl,rfl,rfl,rfl⟩
theorem Ep.ret(h:Ep T cs [b] lo w.heap.size b0 w W m i e c k)(a8:lo<=b)(jW:w.heap.size<=b){v code:Int}{res:Nm}(hr:res=(k,v,code)):
 ((((W.setCell b m).setCell (b,1) i).setCell (b,2) e).setCell (b,3) c).heap[b]?=some (.cells #[m,i,e,c] 28 (0,0))/\
 L2 lo w res (.returned (.tuple #[.agg #[m,i,e,c],v,code])) ((((W.setCell b m).setCell (b,1) i).setCell (b,2) e).setCell (b,3) c):=by
 obtain⟨bP,hB⟩:=h.rs b (xy.2 rfl);subst hr;have bt:=Ar (Ar (Ar (At W b 0 m) 1 i) 2 e) 3 c;obtain⟨⟨E,o1⟩,o2,⟨ps,o3⟩,o4⟩:=h.yS.2.2;exact⟨DP hB,m,i,e,c,rfl,h.Dq,λ_=>⟨⟨E,o1.yV bt hB⟩,o2.yV bt hB,⟨ps,o3.yV bt hB⟩,o4.yV bt hB⟩,(((h.bel.setCell a8 _).setCell a8 _).setCell a8 _).setCell a8 _,λq cu hq=>(As ((h.kf q cu (by have:=AY hq;omega) hq).trans hq) (Ar (Ar (Ar (At W b 0 m) 1 i) 2 e) 3 c) (by have:=AY hq;omega)).trans hq.symm⟩
theorem Ep.bad(h:Ep T cs [b] lo w.heap.size b0 w W m i e c k)(a8:lo<=b)(jW:w.heap.size<=b){v code:Int}{res:Nm}{k':AQ}(hr:res=(k',v,code))(hc:code≠0):
 ((((W.setCell b m).setCell (b,1) i).setCell (b,2) e).setCell (b,3) c).heap[b]?=some (.cells #[m,i,e,c] 28 (0,0))/\
 L2 lo w res (.returned (.tuple #[.agg #[m,i,e,c],v,code])) ((((W.setCell b m).setCell (b,1) i).setCell (b,2) e).setCell (b,3) c):=by
 obtain⟨bP,hB⟩:=h.rs b (xy.2 rfl);subst hr;exact⟨DP hB,m,i,e,c,rfl,h.Dq,λh=>absurd h hc,(((h.bel.setCell a8 _).setCell a8 _).setCell a8 _).setCell a8 _,λq cu hq=>(As ((h.kf q cu (by have:=AY hq;omega) hq).trans hq) (Ar (Ar (Ar (At W b 0 m) 1 i) 2 e) 3 c) (by have:=AY hq;omega)).trans hq.symm⟩
theorem Ep.zs(h:Ep T cs [b] lo g b0 w W m i e c k):(W.cell? b=some (.slice none 0 0)/\W.cell? (b,1)=some (.slice none 0 0)/\W.cell? (b,2)=some (.slice none 0 0)/\W.cell? (b,3)=some (.slice none 0 0))/\∀q,W.frozen? ⟨b,q,none⟩=false:=
 have hB:=(h.rs b (xy.2 rfl)).2
 ⟨AH hB,AK hB⟩
def fP(W:Ω)(lo g b:Nat)(m i e c:Φ)(w:Ω)(res:Nm)(v code:Int):Prop:=(W.cell? g=some m/\W.cell? (g,1)=some i/\W.cell? (g,2)=some e/\W.cell? (g,3)=some c)/\((W.cell? b=some (.slice none 0 0)/\W.cell? (b,1)=some (.slice none 0 0)/\W.cell? (b,2)=some (.slice none 0 0)/\W.cell? (b,3)=some (.slice none 0 0))/\∀q,W.frozen? ⟨b,q,none⟩=false)/\
 dv (((((W.setCell b m).setCell (b,1) i).setCell (b,2) e).setCell (b,3) c).cell? b=some m/\((((W.setCell b m).setCell (b,1) i).setCell (b,2) e).setCell (b,3) c).cell? (b,1)=some i/\((((W.setCell b m).setCell (b,1) i).setCell (b,2) e).setCell (b,3) c).cell? (b,2)=some e/\((((W.setCell b m).setCell (b,1) i).setCell (b,2) e).setCell (b,3) c).cell? (b,3)=some c)/\
 dv (L2 lo w res (.returned (.tuple #[.agg #[m,i,e,c],v,code])) ((((W.setCell b m).setCell (b,1) i).setCell (b,2) e).setCell (b,3) c))
theorem Ep.fin(h:Ep T cs [w.heap.size+2] lo w.heap.size b0 w W m i e c k)(a8:lo<=w.heap.size){v code:Int}{res:Nm}(hr:res=(k,v,code)):fP W lo w.heap.size (w.heap.size+2) m i e c w res v code:=
 have⟨L,K⟩:=h.ret (yM a8 (wt _ _)) (wt _ _) hr
 ⟨h.xs,h.zs,AA (AH L),AA K⟩
theorem Ep.yR(h:Ep T cs [w.heap.size+2] lo w.heap.size b0 w W m i e c k)(a8:lo<=w.heap.size){v code:Int}{res:Nm}{k':AQ}(hr:res=(k',v,code))(hc:code≠0):fP W lo w.heap.size (w.heap.size+2) m i e c w res v code:=
 have⟨L,K⟩:=h.bad (yM a8 (wt _ _)) (wt _ _) hr hc
 ⟨h.xs,h.zs,AA (AH L),AA K⟩
end
theorem Wg (h:Dy lo w m iv ev cv k)(a8:lo<=w.heap.size)(hk:Dg k)(call:AV)(he:0<=call.e/\call.e<3)(K:call.k=2):
 Ξ prog 190 #[.agg #[m,iv,ev,cv],.agg call.cs] w (L2 lo w (Ad k call)):=by
 have i6:=SC.start h a8 call;have HP:=AA (Xe (k:=k) K);have FZ:=AA (λhz=>KN (k:=k) (c:=call) (kind:=1) hz);obtain⟨am,nv,cm,ai,ni,ci,ae,lW,ce,ac,nc,cc,rfl,rfl,rfl,rfl⟩:=i6.Dq;have S0:=AA i6;obtain⟨kk,e,a,b,c,nm⟩:=call;simp only[AV.cs] at S0 HP FZ ⊢;have A:=AA hk;have CF:=AA (λW (h:Nk W (.slice am nv cm) (.slice ai ni ci) (.slice ae lW ce) (.slice ac nc cc) k)=>Lc _ _ _ _ k kk e a b c nm 1 W h hk he (.inr rfl));obtain⟨x0,z,x2,x3⟩:=S0.xs;obtain⟨V,y1,y2,y3,y4,y5⟩:=S0.ys6;generalize jY:Cl k ⟨kk,e,a,b,c,nm⟩ 1=fc at*;have Hn:dv (w.heap.size=w.heap.size):=AA rfl;clear h K i6 jY he hk;generalize hW0:((w.alloc _).alloc _).alloc _=W0 at*;go_in;go_wp2_with fail;refine(CF _ S0.K).mono ?_;rintro r w1 ⟨rfl,bl⟩;have S1:=AA (S0.below bl);clear x0 z x2 x3 V y1 y2 y3 y4 y5 bl CF
 by_cases ef:fc=0
 .subst ef
  obtain⟨ej,jU,hm,jm,_⟩:=FZ rfl;have ab:=Aa.1 ej;obtain⟨Z,rfl⟩:∃n:Nat,a=(n:Int):=⟨a.toNat,ω⟩
  have bA:Z<12:=ω;have lq:(JK k.ZJ Z).k=1:=jm ψ;have f7:=(Ap A.u).2.1;have cq:=AA (show Ad k ⟨kk,e,(Z:Int),b,c,nm⟩=if(JK k.ZJ Z).r≠0 then(k,0,2) else({k with ZJ:=k.ZJ.set Z AW.zero},0,0) by rw[HP.u];rfl);obtain⟨x0,z,x2,x3⟩:=S1.xs;obtain⟨V,y1,y2,y3,y4,y5⟩:=S1.ys6
  by_cases er:(JK k.ZJ Z).r=0
  focus
   have CG:=AA (λW D=>Sz (.slice ai ni ci) k.ZJ Z W D f7 bA lq er)
   have cg:=AA (show Ad k ⟨kk,e,(Z:Int),b,c,nm⟩=({k with ZJ:=k.ZJ.set Z AW.zero},0,0) by rw[cq.u,if_neg (by simp[er])]);clear ej jU hm jm lq er f7 FZ HP cq ab;go_wp2_with fail;refine(CG _ S1.K.2.1).mono ?_;rintro r w2 ⟨v',rfl,hO,aq⟩;clear x0 z x2 x3 V y1 y2 y3 y4 y5;have S2:=AA (S1.zy aq hO);have kS:=AK (S1.below aq).yS.1;have p7:=(S1.below aq).xs.2.1;obtain⟨a9,c9,e9,_,_⟩:=hO.rd.shape;generalize List.length _=n9 at e9;subst e9;clear hO aq;generalize hW9:w2.setCell _ _=W9 at S2;obtain⟨⟨x0,z,x2,x3⟩,⟨⟨z0,z1,z2,z3⟩,gW⟩,HE,HR⟩:=S2.fin a8 (v:=0) (code:=0) (cg.u)
  rotate_left
  focus
   have CG:=AA (λW D=>Tu (.slice ai ni ci) k.ZJ Z W D f7 bA lq er)
   have cg:=AA (show Ad k ⟨kk,e,(Z:Int),b,c,nm⟩=(k,0,2) by rw[cq.u,if_pos er]);clear ej jU hm jm lq er f7 FZ HP cq ab;go_wp2_with fail;refine(CG _ S1.K.2.1).mono ?_;rintro r w2 ⟨v',rfl,aq⟩;have S2:=AA (S1.below aq);clear x0 z x2 x3 V y1 y2 y3 y4 y5 aq;obtain⟨⟨x0,z,x2,x3⟩,⟨⟨z0,z1,z2,z3⟩,gW⟩,HE,HR⟩:=S2.yR a8 (v:=0) (code:=2) (cg.u) ψ
  rotate_left
  all_goals
   go_wp2_with ((try simp only[xS,Exit.then]);with_reducible refine yB ?_ rfl HR.u;obtain⟨E0,E1,E2,E3⟩:=HE.u;simp[results,rW,go_sem,E0,E1,E2,E3])
 have t1:(fc !=0)=true:=by simp[ef]
 have hc:=AA ef;have cg:=AA (show Ad k ⟨kk,e,a,b,c,nm⟩=(k,0,fc) by rw[HP.u,if_neg ef]);clear ef FZ HP;obtain⟨⟨x0,z,x2,x3⟩,⟨⟨z0,z1,z2,z3⟩,gW⟩,HE,HR⟩:=S1.yR a8 (v:=0) (code:=fc) (cg.u) (hc.u);go_wp2_with ((try simp only[xS,Exit.then]);with_reducible refine yB ?_ rfl HR.u;obtain⟨E0,E1,E2,E3⟩:=HE.u;simp[results,rW,go_sem,E0,E1,E2,E3])
theorem Wh (h:Dy lo w m iv ev cv k)(a8:lo<=w.heap.size)(hk:Dg k)(call:AV)(he:0<=call.e/\call.e<3)(K:call.k=3):
 Ξ prog 191 #[.agg #[m,iv,ev,cv],.agg call.cs] w (L2 lo w (Ad k call)):=by
 have i6:=SC.start h a8 call;have HP:=AA (Xf (k:=k) K);have FZ:=AA (λhz=>KN (k:=k) (c:=call) (kind:=1) hz);have gx:=(Ap hk).1;obtain⟨gm,bC,rfl,_⟩:=Ep.mems i6 gx;obtain⟨am,nv,cm,ai,ni,ci,ae,lW,ce,ac,nc,cc,em,rfl,rfl,rfl⟩:=i6.Dq;clear em;have S0:=AA i6;obtain⟨kk,e,a,b,c,nm⟩:=call;simp only[AV.cs] at S0 HP FZ ⊢;have A:=AA hk;have CF:=AA (λW (h:Nk W (.slice gm 12 bC) (.slice ai ni ci) (.slice ae lW ce) (.slice ac nc cc) k)=>Lc _ _ _ _ k kk e a b c nm 1 W h hk he (.inr rfl));obtain⟨x0,z,x2,x3⟩:=S0.xs;obtain⟨V,y1,y2,y3,y4,y5⟩:=S0.ys6;generalize jY:Cl k ⟨kk,e,a,b,c,nm⟩ 1=fc at*;have oq:=AA gx;clear h K i6 jY he hk gx;generalize hW0:((w.alloc _).alloc _).alloc _=W0 at*;go_in;go_wp2_with fail;refine(CF _ S0.K).mono ?_;rintro r w1 ⟨rfl,bl⟩;have S1:=AA (S0.below bl);clear x0 z x2 x3 V y1 y2 y3 y4 y5 bl CF
 by_cases ef:fc=0
 .subst ef
  obtain⟨ej,jU,hm,jm,_⟩:=FZ rfl;have ab:=Aa.1 ej;obtain⟨Z,rfl⟩:∃n:Nat,a=(n:Int):=⟨a.toNat,ω⟩
  have bA:Z<12:=ω;have ju:(Z:Int)<12:=ω;have cq:=AA (show Ad k ⟨kk,e,(Z:Int),b,c,nm⟩=if Bo b 0 3=false∨EJ c=false then(k,0,3) else({k with mem:=Cs k.mem Z b.toNat c},0,0) by rw[HP.u];rfl);obtain⟨x0,z,x2,x3⟩:=S1.xs;obtain⟨V,y1,y2,y3,y4,y5⟩:=S1.ys6;clear ej jU hm jm ab FZ HP;cases ed:Bo b 0 3
  .have cg:=AA (show Ad k ⟨kk,e,(Z:Int),b,c,nm⟩=(k,0,3) by rw[cq.u,if_pos (.inl ed)])
   have k6:=AA ed;clear ed cq;go_wp2_with fail;refine(DF _ _ _ _).mono ?_;rintro r w2 ⟨rfl,rfl⟩;rw[k6.u];clear x0 z x2 x3 V y1 y2 y3 y4 y5;obtain⟨⟨x0,z,x2,x3⟩,⟨⟨z0,z1,z2,z3⟩,gW⟩,HE,HR⟩:=S1.yR a8 (v:=0) (code:=3) (cg.u) ψ;go_wp2_with ((try simp only[xS,Exit.then]);with_reducible refine yB ?_ rfl HR.u;obtain⟨E0,E1,E2,E3⟩:=HE.u;simp[results,uQ,go_sem,E0,E1,E2,E3])
  cases jZ:EJ c
  .have cg:=AA (show Ad k ⟨kk,e,(Z:Int),b,c,nm⟩=(k,0,3) by rw[cq.u,if_pos (.inr jZ)])
   have k6:=AA ed;have mW:=AA (show Bo c 0 9999=false from jZ);clear ed cq jZ;go_wp2_with fail;refine(DF _ _ _ _).mono ?_;rintro r w2 ⟨rfl,rfl⟩;rw[k6.u];go_wp2_with fail;refine(DF _ _ _ _).mono ?_;rintro r w2 ⟨rfl,rfl⟩;rw[mW.u];clear x0 z x2 x3 V y1 y2 y3 y4 y5;obtain⟨⟨x0,z,x2,x3⟩,⟨⟨z0,z1,z2,z3⟩,gW⟩,HE,HR⟩:=S1.yR a8 (v:=0) (code:=3) (cg.u) ψ;go_wp2_with ((try simp only[xS,Exit.then]);with_reducible refine yB ?_ rfl HR.u;obtain⟨E0,E1,E2,E3⟩:=HE.u;simp[results,uQ,go_sem,E0,E1,E2,E3])
  have cg:=AA (show Ad k ⟨kk,e,(Z:Int),b,c,nm⟩=({k with mem:=Cs k.mem Z b.toNat c},0,0) by rw[cq.u,if_neg (by simp[ed,jZ])])
  have bb:=Aa.1 ed;obtain⟨bn,rfl⟩:∃n:Nat,b=(n:Int):=⟨b.toNat,ω⟩
  have fg:bn<4:=ω;have pD:(bn:Int)<4:=ω;have k6:=AA ed;have mW:=AA (show Bo c 0 9999=true from jZ);obtain⟨gw,gP,hi,kA,kI,_⟩:=Ep.mrow S1 oq bA;obtain⟨gU,gT,_,_⟩:=S1.lts;have n5:gm<w1.heap.size:=yK _ _ hi;clear ed jZ bb cq;go_wp2_with fail;refine(DF _ _ _ _).mono ?_;rintro r w2 ⟨rfl,rfl⟩;rw[k6.u];go_wp2_with fail;refine(DF _ _ _ _).mono ?_;rintro r w2 ⟨rfl,rfl⟩;rw[mW.u];go_wp2_with fail;refine Ac 10 40 [.p w.heap.size 0,.s gm 12 bC,.p (w.heap.size+1) 2,.i ((Z:Int)),.p gm Z,.s gw 4 gP,.p (w.heap.size+1) 3,.i ((bn:Int)),.p (w.heap.size+1) 4,.i c] (λ_ _ _=>True) ?_ ?_
  .intro i D o X a N Y H J h2 A
   have ay:=bc J gU y2;have br:=bc J gU y3;have ei:=bc J gU y4
   match i,D with
   |0,_|2,_|6,_|8,_=>exact sP X A Y H
   |1,_=>exact sL X A Y H (hl:=GR (bc J gT x0))
   |3,_|7,_|9,_=>exact sL X A Y H (hl:=F7 ‹_›)
   |4,_=>exact sI X A Y H (hr:=by clear H Y A;go_simp)
   |5,_=>exact sL X A Y H (hl:=K5 (bc J n5 hi))
  intro E N hR J
  have q5:(E 5)=.slice gw 4 gP:=Be hR 5;have q7:(E 7)=.int .i64 bn:=Be hR 7;have q9:(E 9)=.int .i64 c:=Be hR 9;clear hR;simp only[Aj,Ae,yL,yI,yJ,yH,q5,q7,q9];simp;clear q5 q7 q9;have S2:=AA (S1.below J);obtain⟨qx,ol,D2,_,_,hC,Fr,_,_,_,hS⟩:=Ep.mrow S2 oq bA;have eD:=D2.symm.trans ((J.cell (p:=⟨gm,Z,none⟩) n5).trans hi);cases eD;have D3:=hC bn fg;have S3:=AA (hS bn c fg);generalize hW9:N.setCell _ _=W9 at S3;clear x0 z x2 x3 V y1 y2 y3 y4 y5 hi D2 hS J S1 hC;obtain⟨⟨x0,z,x2,x3⟩,⟨⟨z0,z1,z2,z3⟩,gW⟩,HE,HR⟩:=S3.fin a8 (v:=0) (code:=0) (cg.u);go_wp2_with ((try simp only[xS,Exit.then]);with_reducible refine yB ?_ rfl HR.u;obtain⟨E0,E1,E2,E3⟩:=HE.u;simp[results,uQ,go_sem,E0,E1,E2,E3])
 have t1:(fc !=0)=true:=by simp[ef]
 have hc:=AA ef;have cg:=AA (show Ad k ⟨kk,e,a,b,c,nm⟩=(k,0,fc) by rw[HP.u,if_neg ef]);clear ef FZ HP;obtain⟨⟨x0,z,x2,x3⟩,⟨⟨z0,z1,z2,z3⟩,gW⟩,HE,HR⟩:=S1.yR a8 (v:=0) (code:=fc) (cg.u) (hc.u);go_wp2_with ((try simp only[xS,Exit.then]);with_reducible refine yB ?_ rfl HR.u;obtain⟨E0,E1,E2,E3⟩:=HE.u;simp[results,uQ,go_sem,E0,E1,E2,E3])
def Fq(w:Ω)(b:Nat)(m i e c:Φ):Ω:=(((w.setCell b m).setCell (b,1) i).setCell (b,2) e).setCell (b,3) c
def GA(W:Ω)(b:Nat)(m i e c:Φ)(t:Bool)(ww:Ω):Prop:=match t with
 |false=>Γ W W ww
 |true=>∃wz,Γ W W wz/\Γ wz.heap.size (Fq wz b m i e c) ww
theorem GA.grow{b:Nat}{c:Φ}{c7:Ω}(h:GA W b m i e c t ww)(O:Γ ww ww c7):GA W b m i e c t c7:=by
 cases t
 .exact Below.trans h (O.mono (Below.size h))
 obtain⟨wz,L,K⟩:=h
 exact⟨wz,L,K.trans (O.mono (by have:=K.size;simpa[Fq] using this))⟩
theorem GA.cell{b:Nat}{c:Φ}(h:GA W b m i e c t ww){o:Nat}(hp:g<W.heap.size)(bP:g≠b):ww.cell? (g,o)=W.cell? (g,o):=by
 cases t
 .exact Below.cell (p:=⟨g,o,none⟩) h hp
 obtain⟨wz,L,K⟩:=h
 have hz:g<wz.heap.size:=yt hp L.size;have bt:wz.grownBy (Fq wz b m i e c) (some b):=Ar (Ar (Ar (At wz b 0 m) 1 i) 2 e) 3 c;exact(Below.cell (p:=⟨g,o,none⟩) K hz).trans ((Bu bt hz (λe=>bP (yP e).symm)).trans (L.cell (p:=⟨g,o,none⟩) hp))
theorem Gm{a b c:Φ}(h:w.heap[g]?=some (.cells #[a,b,c] T (0,0))):w.cell? g=some a/\w.cell? (g,1)=some b/\w.cell? (g,2)=some c:=
 ⟨yx _ _ 0 _ _ _ h,yx _ _ 1 _ _ _ h,yx _ _ 2 _ _ _ h⟩
theorem Yo{m:List (List Int)}{root fr:Nat}{wb:Bool}(h:Cd m root a=(0,fr,wb)):fr<12:=by
 unfold Cd at h
 split at h
 .split at h
  .next K=>cases h;exact Eh K
  cases h
 cases h
theorem Ep.yV{cs:Array Φ}{c:Φ}(h:Ep T cs hn lo g b0 w W m i e c k)(hT:T≠127){cu:Array Φ}(hB:W.heap[q]?=some (.cells cu 127 (0,0)))(hq:lo<=q)(hg:W.grownBy W' (some q)):Ep T cs hn lo g b0 w W' m i e c k:=by
 obtain⟨hK,a8,⟨E,o1⟩,o2,⟨ps,o3⟩,o4⟩:=h.yS;exact⟨⟨LX hK hg hB ψ,a8,⟨E,o1.yV hg hB⟩,o2.yV hg hB,⟨ps,o3.yV hg hB⟩,o4.yV hg hB⟩,As h.yU hg (Ca hB h.yU hT.symm),AM h.bel hg hq h.lo,yM h.lo hg.size,h.ty,h.kf.row hg hB ψ,λb hr=>⟨(h.rs b hr).1,As (h.rs b hr).2 hg (Ca hB (h.rs b hr).2 ψ)⟩⟩
theorem Ep.place{cs:Array Φ}{c:Φ}(h:Ep T cs hn lo g b0 w W m i e c k)(hT:T≠127)(hB:W.heap[q]?=some (.cells #[x,y,x1] 127 (0,0)))(hq:lo<=q)(u v t:Φ):
 Ep T cs hn lo g b0 w (((W.setCell q u).setCell (q,1) v).setCell (q,2) t) m i e c k/\(((W.setCell q u).setCell (q,1) v).setCell (q,2) t).heap[q]?=some (.cells #[u,v,t] 127 (0,0)):=by
 refine⟨h.yV hT hB hq (Ar (Ar (At W q 0 u) 1 v) 2 t),?_⟩;have L:=yA W q 0 _ 127 u hB;have K:=yA _ q 1 _ 127 v L;have h3:=yA _ q 2 _ 127 t K;simpa using h3
theorem Ep.place2{cs:Array Φ}{c:Φ}(h:Ep T cs hn lo g b0 w W m i e c k)(hT:T≠127)(hB:W.heap[q]?=some (.cells #[x,y,x1] 127 (0,0)))(hq:lo<=q)(u t:Φ):
 Ep T cs hn lo g b0 w ((W.setCell q u).setCell (q,2) t) m i e c k/\((W.setCell q u).setCell (q,2) t).heap[q]?=some (.cells #[u,y,t] 127 (0,0)):=by
 refine⟨h.yV hT hB hq (Ar (At W q 0 u) 2 t),?_⟩;have L:=yA W q 0 _ 127 u hB;have h3:=yA _ q 2 _ 127 t L;simpa using h3
variable{res:Nm}
theorem L2.below{r:Ending}(h:L2 lo w res r W)(a8:lo<=W.heap.size)(O:Γ W W W'):L2 lo w res r W':=by
 obtain⟨m,i,e,c,L,hs,K,h3,h4⟩:=h;exact⟨m,i,e,c,L,hs,λhc=>(K hc).below O,h3.trans (O.mono a8),λb cu hB=>(O.block b (AY ((h4 b cu hB).trans hB))).trans (h4 b cu hB)⟩
theorem Ry (v:Φ)(m:List (List Int))(root a:Nat)(w:Ω)(h:Bn w v m)(gx:CJ m=true)(hr:root<12)(ha:a<64):
 Ξ prog 150 #[v,.int .i64 root,.int .i64 a] w λe w'=>e=.returned (Ix m root a)/\Γ w w w':=by
 obtain⟨q,c,rfl,hc,kJ,H0⟩:=h.open;have hl:=(Ak.1 gx).1;unfold maxLen at kJ;rw[hl] at hc ⊢;obtain⟨b,cC,b2,lU,c2,rfl,O,hi,aq,D2⟩:=H0.word gx hr (ω:a/16<4);have D':=((AG w (.cells #[θ,θ,υ] 127)).cell (p:=⟨b,cC+root,none⟩) O).trans hi;have qE:=((AG w (.cells #[θ,θ,υ] 127)).cell (p:=⟨b2,lU+a/16,none⟩) aq).trans D2;have mj:=Gx gx hr (ω:a/16<4);have E1:=AA (λW=>Da (Aw m root (a/16)) W ω);have hB:=AG w (.cells #[θ,θ,υ] 127);cases hP:Bx (Aw m root (a/16))
 .have S:=AA (show Ix m root a=.tuple #[FY,ϕ] by simp[Ix,Cd,hP])
  have V1:=AA (Ev hP);clear H0 hi D2 hP mj O aq;go_in;go_wp2_with (refine(E1 _).mono ?_;rintro e w' ⟨rfl,rfl⟩;rw[V1.u]);exact yB (v:=.tuple #[FY,ϕ]) (by simp[results,uP,go_sem,FY]) rfl ⟨by rw[S.u],hB⟩
 have ht:BQ (Aw m root (a/16))<12:=Eh hP
 have V1:=AA (Er hP);obtain⟨b',ja,b3,lT,c3,e,j0,D3,ed,D4⟩:=H0.word gx ht (ω:a/4%4<4);cases e;have qD:=((AG w (.cells #[θ,θ,υ] 127)).cell (p:=⟨b,cC+BQ (Aw m root (a/16)),none⟩) O).trans D3;have qC:=((AG w (.cells #[θ,θ,υ] 127)).cell (p:=⟨b3,lT+a/4%4,none⟩) ed).trans D4;have nC:=Gx gx ht (ω:a/4%4<4);have E2:=AA (λW=>Da (Aw m (BQ (Aw m root (a/16))) (a/4%4)) W ω);cases jX:Bx (Aw m (BQ (Aw m root (a/16))) (a/4%4))
 .have S:=AA (show Ix m root a=.tuple #[FY,.int .i64 2] by simp[Ix,Cd,hP,jX])
  have V2:=AA (Ev jX);clear H0 hi D2 D3 D4 hP jX mj nC O aq ed j0;go_in;go_wp2_with fail;refine(E1 _).mono ?_;rintro e w' ⟨rfl,rfl⟩;rw[V1.u];go_wp2_with (refine(E2 _).mono ?_;rintro e w' ⟨rfl,rfl⟩;rw[V2.u]);exact yB (v:=.tuple #[FY,.int .i64 2]) (by simp[results,uP,go_sem,FY]) rfl ⟨by rw[S.u],hB⟩
 have S:=AA (show Ix m root a=.tuple #[.agg #[.int .i64 ((BQ (Aw m (BQ (Aw m root (a/16))) (a/4%4)):Nat):Int),.int .i64 ((a:Int)%4),.bool (LY (Aw m root (a/16))&&LY (Aw m (BQ (Aw m root (a/16))) (a/4%4)))],θ] by simp[Ix,Cd,hP,jX,MU])
 have V2:=AA (Er jX);generalize BQ (Aw m (BQ (Aw m root (a/16))) (a/4%4))=fr at S V2;generalize LY (Aw m (BQ (Aw m root (a/16))) (a/4%4))=wb at S V2;generalize LY (Aw m root (a/16))=wa at S V1;cases wa
 all_goals
  clear H0 hi D2 D3 D4 hP jX mj nC O aq ed j0;go_in;go_wp2_with fail;refine(E1 _).mono ?_;rintro e w' ⟨rfl,rfl⟩;rw[V1.u];go_wp2_with fail;refine(E2 _).mono ?_;rintro e w' ⟨rfl,rfl⟩;rw[V2.u];go_wp2_with fail
 .exact yB (v:=.tuple #[.agg #[fr,.int .i64 ((a:Int)%4),υ],θ]) (by simp[results,uP,go_sem]) rfl ⟨by rw[S.u,Bool.false_and],AG _ _⟩
 exact yB (v:=.tuple #[.agg #[fr,.int .i64 ((a:Int)%4),wb],θ]) (by simp[results,uP,go_sem]) rfl ⟨by rw[S.u,wv],AG _ _⟩
theorem NP{P:Program}{f:FuncId}{kY:Array Φ}{v:Ending}(h:Ξ P f kY w λe w'=>e=v/\∃n,w'=w.drewN n):Ξ P f kY w λe w'=>e=v/\Γ w w w':=by refine h.mono ?_;rintro e w' ⟨L,n,rfl⟩;exact⟨L,Ai (yN _ _) n⟩
theorem QG (m i e c:Φ)(k:AQ)(w:Ω)(h:Bn w m k.mem)(hm:CJ k.mem=true)(hI:Bh w i k.ZJ)(f7:BJ k.ZJ=true)(hE:Gf w e k.XX)(gX:k.XX.length=3)(hr:∀j,j<3->(AI k.XX j).root<12):
 Ξ prog 86 #[.agg #[m,i,e,c]] w λr w'=>r=.returned (.bool ((yL 12).all (IY k)))/\Γ w w w':=by
 obtain⟨N0,ar⟩:=Ec w (.cells #[m,i,e,c] 28);replace h:=h.below ar;replace hI:=BN.below hI ar;obtain⟨ae,ce,rfl,_,_,gz⟩:=(hE.below ar).open;have iU:=(A4.1 f7).1;have C:=AA (VM _ _ k.mem k.ZJ _ h hm hI iU);obtain⟨ai,ci,rfl,_,_,k9⟩:=BN.open Az ψ hI;obtain⟨x0,z,_,_⟩:=AH N0;obtain⟨am,cm,rfl,_⟩:=h.open;have Hl:=AA iU;have jC:=AA gX;clear iU gX;go_in;go_wp2_with fail;generalize w.alloc _=W0 at*;have HN:=AA N0;have HH:=AA k9;have HE:=AA gz;have Hm:=AA hm;have Hr:=AA hr;have lp:=AY N0;have f6:=AA ar;clear h hI hm f7 N0 k9 gz hE hr;refine C.mono ?_;rintro r w1 ⟨v',rfl,hO,bl⟩;rw[<-Ui] at hO;obtain⟨gr,bB,rfl,jh,mq⟩:=JG hO (by rw[EZ];omega);have mI:dv (AE W0 w1 (.slice gr 12 bB) (FU k 0)):=AA (by have:=hO;rw[EZ] at this;exact this);rw[EZ];have p5:=AA bl;clear hO mq x0 z C bl ar;go_wp2_with fail;go_loopw [4] (λs4 wr=>∃j:Nat,j<=3/\s4=.int .i64 j/\AE W0 wr (.slice gr 12 bB) (FU k j)/\Γ W0 W0 wr) (λs4 _=>3 - (intOf s4).toNat)
 exact⟨0,yu _,rfl,mI.u,p5.u⟩
 obtain⟨j,hj,rfl,hO,al⟩:=hrel;have HO:=AA hO;have HB:=AA al;obtain⟨_,z,x2,_⟩:=AH (AB HN al);have el:w.heap.size<wr.heap.size:=yt lp al.size
 by_cases bm:j<3
 .have jn:j<k.XX.length:=by have:=jC.u;omega
  have jV:(j:Int)<k.XX.length:=ω;obtain⟨b,cC,ua,uc,rfl,mD,D0,D1,RR⟩:=(HE.below al) j jn;clear hO al RR z mD D0
  by_cases R:(AI k.XX j).root<0
  .have S:=AA (Y7 jn R)
   have t0:¬(0:Int)<=(AI k.XX j).root:=ω;clear R;go_wp2;go_roundw;exact⟨j+1,ω,ξ,by rw[S.u];exact HO.u,HB.u⟩;simp[intOf];omega
  obtain⟨rn,gS⟩:∃n:Nat,(AI k.XX j).root=(n:Int):=⟨(AI k.XX j).root.toNat,ω⟩
  have bY:rn<12:=by have:=Hr j bm;omega
  have S:=AA (XB jn gS bY);have qr:=Ss Hm (j:=j) jC bY;have bK:wr.ownsRow W0.heap.size 3 1 (.slice gr 12 bB) 12 ((FU k j).map (yl .i64)):=by have:=HO.u;unfold AE at this;rwa [EZ] at this
  have DC:=(bK.cellAt rn ω).trans (GP (xs:=FU k j) (by rw[EZ];exact bY));have k8:=AA bK;rw[gS] at D1;have t0:(0:Int)<=(rn:Int):=ω;have nM:(rn:Int)<12:=ω;generalize nth (FU k j) rn=cn at*;obtain⟨nc,hnc⟩:∃nc:Int,cn+1=nc:=⟨_,rfl⟩
  have os:=AA hnc;have O:=yK _ _ D1;have bt:=yK _ _ DC;clear R gS bK hnc;go_wp2_with fail;refine Ac 17 58 [.s gr 12 bB,.p w.heap.size 2,.v (.slice (some ⟨b,cC,none⟩) k.XX.length ce),.i ((j:Int)),.p b (cC+j*2),.p b (cC+j*2+1),.i ((rn:Int)),.s gr 12 bB,.p w.heap.size 2,.v (.slice (some ⟨b,cC,none⟩) k.XX.length ce),.i ((j:Int)),.p b (cC+j*2),.p b (cC+j*2+1),.i ((rn:Int)),.p gr rn,.i cn,.i nc] (λ_ _ _=>True) ?_ ?_
  .intro i D o X a N Y H J h2 A
   have a6:=bc J el x2;have ay:=bc J O D1;have az:=bc J bt DC
   match i,D with
   |0,_|1,_|3,_|5,_|7,_|8,_|10,_|12,_=>exact sP X A Y H
   |2,_|9,_=>exact sL X A Y H (hl:=Ph ‹_›)
   |4,_|11,_|14,_=>exact sI X A Y H (hr:=by clear H Y A;go_simp)
   |6,_|13,_|15,_=>exact sL X A Y H (hl:=F7 ‹_›)
   |16,_=>clear a6 ay az;obtain rfl:=yP X;have gY:(a.tmps[40]?.getD Θ)=.int .i64 cn:=Bd H 15;clear H Y;refine yO ?_;go_simp;exact A _ _ (by show yl .i64 (IntKind.i64.wrap (cn+1))=.int .i64 nc;rw[IntWalk.i64_in _ ω,os.u]) (yN _ _)
   |_+17,hq=>omega
  intro E N hR J
  have q0:(E 0)=.slice gr 12 bB:=Be hR 0;have q6:(E 6)=.int .i64 rn:=Be hR 6;have i9:(E 16)=.int .i64 nc:=Be hR 16;clear hR;simp only[Aj,Ae,yL,yI,yJ,yH,q0,q6,i9];simp;clear q0 q6 i9;have O3:=BC k8 J;have Fr:=O3.frozenAt rn;have C2:=(J.cell (p:=⟨gr,rn,none⟩) bt).trans DC;have S2:=AA (O3.stored rn (.int .i64 nc));have px:=AA (yE O3 gr rfl).1;have oH:=AA (HB.trans (J.mono HB.size));clear D1 DC J O3 x2;go_wp2;go_roundw
  case rel=>refine⟨j+1,ω,ξ,?_,AM oH S2.2 px oH.size⟩;rw[S.u,os.u];unfold AE;rw[yi,EZ,List.map_set];exact S2.1
  case measure=>simp[intOf];omega
 obtain rfl:j=3:=ω;have jV:¬((3:Nat):Int)<k.XX.length:=by have:=jC.u;omega
 have pr:¬(3:Int)<k.XX.length:=by have:=jC.u;omega
 obtain⟨w2,rfl⟩:∃w2:Ω,w2=wr:=⟨_,rfl⟩
 clear hO al z;go_wp2_with fail;clear x2;go_loopw [5] (λs5 wr=>∃f:Nat,f<=12/\s5=.int .i64 f/\(∀j,j<f->IY k j=true)/\AE W0 wr (.slice gr 12 bB) (FU k 3)/\Γ W0 W0 wr) (λs5 _=>12 - (intOf s5).toNat)
 exact⟨0,yu _,rfl,λj hj=>absurd hj (xU _),HO.u,HB.u⟩
 clear HO HB;obtain⟨f,hf,rfl,a3,hO,al⟩:=hrel;have bk:=AA a3;have HO:=AA hO;have HB:=AA al;clear a3
 by_cases iG:f<12
 .have n8:(f:Int)<12:=ω
  have kG:(f:Int)<k.ZJ.length:=by have:=Hl.u;omega
  obtain⟨_,z,_,_⟩:=AH (AB HN al);have hP:w.heap.size<wr.heap.size:=yt lp al.size;obtain⟨bi,au,rfl,jt,_,_,D2⟩:=(HH.below al).zZ (show f<k.ZJ.length by rw[Hl.u];exact iG);have gy:=yK _ _ D2;have bK:wr.ownsRow W0.heap.size 3 1 (.slice gr 12 bB) 12 ((FU k 3).map (yl .i64)):=by have:=hO;unfold AE at this;rwa [EZ] at this
  have DC:=(bK.cellAt f ω).trans (GP (xs:=FU k 3) (by rw[EZ];exact iG));have bt:=yK _ _ DC;have RL:=Sr (k:=k) jC iG;clear hO al bK jt el;have el:=hP;go_wp2_with fail;refine Ac 10 58 [.p w.heap.size 1,.v (.slice (some ⟨bi,au,none⟩) k.ZJ.length ci),.i ((f:Int)),.p bi (au+f*3),.p bi (au+f*3+2),.i ((JK k.ZJ f).r),.s gr 12 bB,.i ((f:Int)),.p gr f,.i (nth (FU k 3) f)] (λ_ _ _=>True) ?_ ?_
  .intro i D o X a N Y H J h2 A
   have ay:=bc J gy D2;have az:=bc J bt DC
   match i,D with
   |0,_|2,_|4,_|6,_|7,_=>exact sP X A Y H
   |1,_=>exact sL X A Y H (hl:=Gi (bc J el z))
   |3,_|8,_=>exact sI X A Y H (hr:=by clear H Y A;go_simp)
   |5,_|9,_=>exact sL X A Y H (hl:=F7 ‹_›)
  intro E N hR J
  have q5:(E 5)=.int .i64 ((JK k.ZJ f).r):=Be hR 5;have q9:(E 9)=.int .i64 (nth (FU k 3) f):=Be hR 9;clear hR;simp only[Aj,Ae,yL,yI,yJ,yH,q5,q9];simp;clear q5 q9;have bp:=HB.trans (J.mono HB.size);have ib:=AA (AE.below HO J);clear J z D2 DC;cases bP:((JK k.ZJ f).r !=nth (FU k 3) f)
  .have S:=AA (show IY k f=true by rw[RL];simpa using bP)
   clear RL;go_wp2;go_roundw;exact⟨f+1,ω,ξ,Am bk S.u,ib.u,bp⟩;simp[intOf];omega
  have S:=AA (show(yL 12).all (IY k)=false from wZ.2 ⟨f,yh.2 iG,by rw[RL];simpa using bP⟩)
  clear RL;go_wp2;go_ret;exact⟨AF S.symm,f6.trans (bp.mono f6.size)⟩
 have ek:f=12:=ω;have a3:=bk.u;rw[ek] at a3;have S:=AA (show(yL 12).all (IY k)=true from ym.2 λj hj=>a3 j (yh.1 hj));clear bk a3;go_wp2;go_ret;exact⟨AF S.symm,f6.trans (al.mono f6.size)⟩
theorem LZ{l:List FF}(h:j<l.length):l[j]?=some (AI l j):=by unfold AI;exact A9 h
theorem QF (m i e c:Φ)(k:AQ)(w:Ω)(h:Bn w m k.mem)(hm:CJ k.mem=true)(hI:Bh w i k.ZJ)(f7:BJ k.ZJ=true)(hE:Gf w e k.XX)(nI:∀j,j<k.XX.length->Db (AI k.XX j).PQ):
 Ξ prog 84 #[.agg #[m,i,e,c]] w λr w'=>r=.returned (.bool (Jm k))/\Γ w w w':=by
 obtain⟨N0,ar⟩:=Ec w (.cells #[m,i,e,c] 28);replace h:=h.below ar;replace hI:=BN.below hI ar;obtain⟨ae,ce,rfl,mB,iI,gz⟩:=(hE.below ar).open;unfold maxLen at iI;have iU:=(A4.1 f7).1;have nH:=Cg f7;have HI:=AA hI;have HR:=AA h;obtain⟨ai,ci,rfl,_,_,k9⟩:=BN.open Az ψ hI;obtain⟨am,cm,rfl,_⟩:=h.open;have ES:Jm k=(k.XX.all (Ea k)&&decide (k.XX.length=3)):=rfl;rw[ES];have Hl:=AA iU;clear iU;go_in;go_wp2_with fail;generalize w.alloc _=W0 at*;have HN:=AA N0;have HH:=AA k9;have HE:=AA gz;have Hm:=AA hm;have Hs:=AA nI;have op:=AA nH;have lp:=AY N0;have f6:=AA ar;clear h hI hm f7 N0 k9 gz hE nI nH ar ES;go_loopw [3] (λs3 wr=>∃j:Nat,j<=k.XX.length/\s3=.int .i64 j/\(∀j',j'<j->Ea k (AI k.XX j')=true)/\Γ W0 W0 wr) (λs3 _=>k.XX.length - (intOf s3).toNat)
 exact⟨0,yu _,rfl,λj hj=>absurd hj (xU _),yN _ _⟩
 obtain⟨j,hj,rfl,a3,al⟩:=hrel;have bk:=AA a3;clear a3;obtain⟨_,_,x2,_⟩:=AH (AB HN al)
 by_cases bm:j<k.XX.length
 .have jV:(j:Int)<k.XX.length:=ω
  obtain⟨b,cC,ua,uc,rfl,hX,D0,D1,RR⟩:=(HE.below al) j bm;obtain⟨wx,fg⟩:=Ec wr (.cells #[.slice ua (AI k.XX j).PQ.length uc,.int .i64 (AI k.XX j).root] 81);go_wp2_with fail;generalize wr.alloc _=wa at*;have cz:=al.trans (fg.mono al.size);have V:wa.cell? wr=some (.slice ua (AI k.XX j).PQ.length uc):=yx _ _ 0 _ _ _ wx;have y1:wa.cell? (wr,1)=some (.int .i64 (AI k.XX j).root):=yx _ _ 1 _ _ _ wx;have c6:=AY wx;have el:=yt lp cz.size;obtain⟨x0,z,_,_⟩:=AH (AB HN cz);have a5:=AA cz;have mZ:=AA (BN.below RR fg);clear D0 D1 wx fg al cz RR x2 hX;have gQ:=λW (hW:Γ wa wa W)=>NP (Gz _ (AI k.XX j).PQ W (BN.below mZ hW) (Hs j bm))
  have gp:Ea k (AI k.XX j)=(BY (AI k.XX j).PQ&&(decide ((AI k.XX j).root= -1)||(Bo (AI k.XX j).root 0 11&&decide ((JK k.ZJ (AI k.XX j).root.toNat).k=3)))&&BO k.ZJ (Bi k.mem (AI k.XX j).root) (AI k.XX j).PQ):=rfl;cases e5:BY (AI k.XX j).PQ
  .rw[e5] at gQ gp
   have CR:=AA gQ;have dr:Ea k (AI k.XX j)=false:=by rw[gp];rfl
   clear gQ e5 gp;have S:=AA (show k.XX.all (Ea k)=false from Jl (LZ bm) (dr));go_wp2_with fail;refine Ac 36 59 [.p wr.heap.size 0,.v (.slice ua (AI k.XX j).PQ.length uc),.b false,.b true,.b true,.u,.u,.u,.u,.b true,.b true,.u,.u,.u,.u,.u,.u,.u,.u,.u,.u,.u,.u,.u,.b true,.b true,.u,.u,.u,.u,.u,.u,.u,.u,.u,.u] (λ_ _ _=>True) ?_ ?_
   .intro i D o X a N Y H J h2 A
    match i,D with
    |0,_|3,_|4,_|9,_|10,_|24,_|25,_=>exact sP X A Y H
    |1,_=>exact sL X A Y H (hl:=Kt (bc J c6 V))
    |2,_=>exact sD X A Y H (CR _ J)
    |5,_|6,_|7,_|8,_|11,_|12,_|13,_|14,_|15,_|16,_|17,_|18,_|19,_|20,_|21,_|22,_|23,_|26,_|27,_|28,_|29,_|30,_|31,_|32,_|33,_|34,_|35,_=>exact sB X A H
    |_+36,hq=>omega
   intro E N hR J
   have cr:(E 25)=.bool true:=Be hR 25;clear hR;simp only[Aj,Ae,yL,yI,yJ,yH,cr];simp;clear cr;have bp:=a5.trans (J.mono a5.size);clear J x0 z V y1;go_wp2;go_ret;exact⟨AF (by rw[S.u];rfl),f6.trans (bp.mono f6.size)⟩
  rw[e5] at gQ gp
  have CR:=AA gQ;clear gQ e5;have ft:=λW (hW:Γ wa wa W)=>A7 (DF (AI k.XX j).root (-1) 11 W)
  cases e6:Bo (AI k.XX j).root (-1) 11
  .rw[e6] at ft
   have CF:=AA ft;have dr:Ea k (AI k.XX j)=false:=by
    rw[gp];have:¬(-1<=(AI k.XX j).root/\(AI k.XX j).root<=11):=λh=>by rw[Aa.2 h] at e6;cases e6
    have L:decide ((AI k.XX j).root= -1)=false:=decide_eq_false ω;have K:Bo (AI k.XX j).root 0 11=false:=by cases hx:Bo (AI k.XX j).root 0 11;rfl;exact absurd (Aa.1 hx) ω
    rw[L,K];rfl
   clear ft e6 gp;have S:=AA (show k.XX.all (Ea k)=false from Jl (LZ bm) (dr));go_wp2_with fail;refine Ac 36 59 [.p wr.heap.size 0,.v (.slice ua (AI k.XX j).PQ.length uc),.b true,.b false,.b false,.p wr.heap.size 1,.i ((AI k.XX j).root),.b false,.b true,.b true,.b true,.u,.u,.u,.u,.u,.u,.u,.u,.u,.u,.u,.u,.u,.b true,.b true,.u,.u,.u,.u,.u,.u,.u,.u,.u,.u] (λ_ _ _=>True) ?_ ?_
   .intro i D o X a N Y H J h2 A
    match i,D with
    |0,_|3,_|4,_|5,_|8,_|9,_|10,_|24,_|25,_=>exact sP X A Y H
    |1,_=>exact sL X A Y H (hl:=Kt (bc J c6 V))
    |2,_=>exact sD X A Y H (CR _ J)
    |6,_=>exact sL X A Y H (hl:=F7 (bc J c6 y1))
    |7,_=>exact sD X A Y H (CF _ J)
    |11,_|12,_|13,_|14,_|15,_|16,_|17,_|18,_|19,_|20,_|21,_|22,_|23,_|26,_|27,_|28,_|29,_|30,_|31,_|32,_|33,_|34,_|35,_=>exact sB X A H
    |_+36,hq=>omega
   intro E N hR J
   have cr:(E 25)=.bool true:=Be hR 25;clear hR;simp only[Aj,Ae,yL,yI,yJ,yH,cr];simp;clear cr;have bp:=a5.trans (J.mono a5.size);clear J x0 z V y1;go_wp2;go_ret;exact⟨AF (by rw[S.u];rfl),f6.trans (bp.mono f6.size)⟩
  have oi:=Aa.1 e6
  rw[e6] at ft;clear e6
  by_cases e7:(AI k.XX j).root= -1
  .rw[e7] at ft y1 gp
   have CF:=AA ft;have RI:=HI.u;have CX:=AA (λW (hW:Γ wa wa W)=>J0 _ k.mem (-1) W ((HR.below a5.u).below hW) Hm ψ);have iP:=λW (hW:Γ wa wa W) v2 (K:A3 W v2 (A8 (FT k.mem (-1))))=>Gr _ v2 _ k.ZJ (FT k.mem (-1)) (AI k.XX j).PQ W (BN.below (BN.below HI a5.u) hW) K (BN.below mZ hW) (λf hf=>by have:=zG (root:= -1) ψ f ((Gt ψ f).1 hf);rw[Hl.u];exact this) op (Hs j bm)
   rw[Fo (Gt ψ)] at iP;have jH:Ea k (AI k.XX j)=BO k.ZJ (Bi k.mem (-1)) (AI k.XX j).PQ:=by rw[gp];simp
   generalize BO k.ZJ (Bi k.mem (-1)) (AI k.XX j).PQ=bb at iP jH;have CA:=AA iP;have EO:=AA jH;clear ft iP gp jH oi e7 RI;go_wp2_with fail;refine BD 36 59 [.p wr.heap.size 0,.v (.slice ua (AI k.XX j).PQ.length uc),.b true,.b false,.b false,.p wr.heap.size 1,.i (-1),.b true,.b false,.b false,.b false,.p wr.heap.size 1,.i (-1),.b false,.b false,.u,.u,.u,.u,.u,.u,.u,.u,.b false,.b false,.b false,.p w.heap.size 1,.v (.slice ai k.ZJ.length ci),.p w.heap.size 0,.v (.slice am k.mem.length cm),.p wr.heap.size 1,.i (-1),.z,.p wr.heap.size 0,.v (.slice ua (AI k.XX j).PQ.length uc),.b bb] (λix vv ww=>match ix with
    |32=>AE wa ww vv (A8 (FT k.mem (-1)))
    |_=>True) ?_ ?_ ?_
   .intro i D o X a N Y H J h2 A
    have a6:=bc J c6 V;have ay:=bc J c6 y1;have az:=bc J el z;have br:=bc J el x0
    match i,D with
    |0,_|3,_|4,_|5,_|8,_|9,_|10,_|11,_|14,_|23,_|24,_|25,_|26,_|28,_|30,_|33,_=>exact sP X A Y H
    |1,_|34,_=>exact sL X A Y H (hl:=Kt ‹_›)
    |2,_=>exact sD X A Y H (CR _ J)
    |6,_|12,_|31,_=>exact sL X A Y H (hl:=F7 ‹_›)
    |7,_=>exact sD X A Y H (CF _ J)
    |15,_|16,_|17,_|18,_|19,_|20,_|21,_|22,_=>exact sB X A H
    |27,_=>exact sL X A Y H (hl:=Gi ‹_›)
    |29,_=>exact sL X A Y H (hl:=GR ‹_›)
    |32,_=>exact sC X A Y H (CX _ J) (by rintro e w_ ⟨v',rfl,hO,aq⟩;exact⟨_,rfl,(BS hO J.size),aq⟩)
    |13,_=>clear a6 ay az br;obtain rfl:=yP X;have iY:(a.tmps[29]?.getD Θ)=.int .i64 (-1):=Bd H 12;have iL:(a.tmps[27]?.getD Θ)=.bool false:=Bd H 10;clear H Y;refine AT.yes rfl rfl iL ?_;go_simp;exact A _ _ rfl (yN _ _)
    |35,_=>clear a6 ay az br;obtain rfl:=yP X;have mR:(a.tmps[44]?.getD Θ)=.slice ai k.ZJ.length ci:=Bd H 27;have hZ:AE wa N (a.tmps[49]?.getD Θ) (A8 (FT k.mem (-1))):=Bd H 32;have pJ:(a.tmps[51]?.getD Θ)=.slice ua (AI k.XX j).PQ.length uc:=Bd H 34;have jw:(a.tmps[42]?.getD Θ)=.bool false:=Bd H 25;clear H Y;generalize e49:a.tmps[49]?.getD Θ=v2 at hZ;have iO:=CA N J v2 (AE.rd hZ);refine AT.yes rfl rfl jw ?_;go_simp;refine iO.mono ?_;rintro e w_ ⟨rfl,aq⟩;exact A _ _ rfl aq
    |_+36,hq=>omega
   .intro i D vv wz c7 bf hz
    match i,D with
    |32,_=>exact(AE.below hz bf)
    |0,_|1,_|2,_|3,_|4,_|5,_|6,_|7,_|8,_|9,_|10,_|11,_|12,_|13,_|14,_|15,_|16,_|17,_|18,_|19,_|20,_|21,_|22,_|23,_|24,_|25,_|26,_|27,_|28,_|29,_|30,_|31,_|33,_|34,_|35,_=>exact hz
    |_+36,hq=>omega
   intro E N hR J
   have cr:(E 25)=.bool false:=Be hR 25;have ka:(E 35)=.bool bb:=Be hR 35;clear hR;simp only[Aj,Ae,yL,yI,yJ,yH,cr,ka];simp;clear cr ka;have bp:=a5.trans (J.mono a5.size);clear J x0 z V y1;cases bb
   .have S:=AA (show k.XX.all (Ea k)=false from Jl (LZ bm) (EO.u))
    go_wp2;go_ret;exact⟨AF (by rw[S.u];rfl),f6.trans (bp.mono f6.size)⟩
   go_wp2
   go_roundw;exact⟨j+1,ω,ξ,Am bk EO.u,bp⟩;simp[intOf];omega
  obtain⟨r,hr⟩:∃n:Nat,(AI k.XX j).root=(n:Int):=⟨(AI k.XX j).root.toNat,ω⟩
  have bY:r<12:=ω;have jQ:(r:Int)<12:=ω;have pe:(r:Int)<k.ZJ.length:=by have:=Hl.u;omega
  have lj:(0:Int)<=(r:Int):=ω;rw[hr] at ft y1 gp;have CF:=AA ft;obtain⟨bi,au,rfl,jt,jv,_,_⟩:=(HH.below a5.u).zZ (show r<k.ZJ.length by rw[Hl.u];exact bY);have gy:=yK _ _ jv;have ej:Bo (r:Int) 0 11=true:=Aa.2 ω;have ks:decide ((r:Int)= -1)=false:=decide_eq_false ω;rw[ej,ks,yq] at gp;clear ft oi e7 jt ej ks
  by_cases e8:(JK k.ZJ r).k=3
  .have t8:((JK k.ZJ r).k !=3)=false:=by simp[e8]
   have CX:=AA (λW (hW:Γ wa wa W)=>J0 _ k.mem (r:Int) W ((HR.below a5.u).below hW) Hm jQ);have iP:=λW (hW:Γ wa wa W) v2 (K:A3 W v2 (A8 (FT k.mem (r:Int))))=>Gr _ v2 _ k.ZJ (FT k.mem (r:Int)) (AI k.XX j).PQ W (BN.below (BN.below HI a5.u) hW) K (BN.below mZ hW) (λf hf=>by have:=zG (root:=(r:Int)) jQ f ((Gt jQ f).1 hf);rw[Hl.u];exact this) op (Hs j bm)
   rw[Fo (Gt jQ)] at iP;have jH:Ea k (AI k.XX j)=BO k.ZJ (Bi k.mem (r:Int)) (AI k.XX j).PQ:=by rw[gp,e8];simp
   generalize BO k.ZJ (Bi k.mem (r:Int)) (AI k.XX j).PQ=bb at iP jH;have CA:=AA iP;have EO:=AA jH;clear iP gp jH e8 hr;go_wp2_with fail;refine BD 36 59 [.p wr.heap.size 0,.v (.slice ua (AI k.XX j).PQ.length uc),.b true,.b false,.b false,.p wr.heap.size 1,.i ((r:Int)),.b true,.b false,.b false,.b false,.p wr.heap.size 1,.i ((r:Int)),.b true,.b true,.p w.heap.size 1,.v (.slice (some ⟨bi,au,none⟩) k.ZJ.length ci),.p wr.heap.size 1,.i ((r:Int)),.p bi (au+r*3),.p bi (au+r*3),.i ((JK k.ZJ r).k),.b false,.b false,.b false,.b false,.p w.heap.size 1,.v (.slice (some ⟨bi,au,none⟩) k.ZJ.length ci),.p w.heap.size 0,.v (.slice am k.mem.length cm),.p wr.heap.size 1,.i ((r:Int)),.z,.p wr.heap.size 0,.v (.slice ua (AI k.XX j).PQ.length uc),.b bb] (λix vv ww=>match ix with
    |32=>AE wa ww vv (A8 (FT k.mem ((r:Int))))
    |_=>True) ?_ ?_ ?_
   .intro i D o X a N Y H J h2 A
    have a6:=bc J c6 V;have ay:=bc J c6 y1;have az:=bc J el z;have br:=bc J gy jv;have ei:=bc J el x0
    match i,D with
    |0,_|3,_|4,_|5,_|8,_|9,_|10,_|11,_|14,_|15,_|17,_|20,_|23,_|24,_|25,_|26,_|28,_|30,_|33,_=>exact sP X A Y H
    |1,_|34,_=>exact sL X A Y H (hl:=Kt ‹_›)
    |2,_=>exact sD X A Y H (CR _ J)
    |6,_|12,_|18,_|21,_|31,_=>exact sL X A Y H (hl:=F7 ‹_›)
    |7,_=>exact sD X A Y H (CF _ J)
    |16,_|27,_=>exact sL X A Y H (hl:=Gi ‹_›)
    |19,_=>exact sI X A Y H (hr:=by clear H Y A;go_simp)
    |29,_=>exact sL X A Y H (hl:=GR ‹_›)
    |32,_=>exact sC X A Y H (CX _ J) (by rintro e w_ ⟨v',rfl,hO,aq⟩;exact⟨_,rfl,(BS hO J.size),aq⟩)
    |13,_=>clear a6 ay az br ei;obtain rfl:=yP X;have iY:(a.tmps[29]?.getD Θ)=.int .i64 r:=Bd H 12;have iL:(a.tmps[27]?.getD Θ)=.bool false:=Bd H 10;clear H Y;refine AT.yes rfl rfl iL ?_;go_simp;exact A _ _ rfl (yN _ _)
    |22,_=>clear a6 ay az br ei;obtain rfl:=yP X;have j2:(a.tmps[38]?.getD Θ)=.int .i64 ((JK k.ZJ r).k):=Bd H 21;have mS:(a.tmps[31]?.getD Θ)=.bool true:=Bd H 14;clear H Y;refine AT.yes rfl rfl mS ?_;go_simp;exact A _ _ rfl (yN _ _)
    |35,_=>clear a6 ay az br ei;obtain rfl:=yP X;have mR:(a.tmps[44]?.getD Θ)=.slice (some ⟨bi,au,none⟩) k.ZJ.length ci:=Bd H 27;have hZ:AE wa N (a.tmps[49]?.getD Θ) (A8 (FT k.mem ((r:Int)))):=Bd H 32;have pJ:(a.tmps[51]?.getD Θ)=.slice ua (AI k.XX j).PQ.length uc:=Bd H 34;have jw:(a.tmps[42]?.getD Θ)=.bool false:=Bd H 25;clear H Y;generalize e49:a.tmps[49]?.getD Θ=v2 at hZ;have iO:=CA N J v2 (AE.rd hZ);refine AT.yes rfl rfl jw ?_;go_simp;refine iO.mono ?_;rintro e w_ ⟨rfl,aq⟩;exact A _ _ rfl aq
    |_+36,hq=>omega
   .intro i D vv wz c7 bf hz
    match i,D with
    |32,_=>exact(AE.below hz bf)
    |0,_|1,_|2,_|3,_|4,_|5,_|6,_|7,_|8,_|9,_|10,_|11,_|12,_|13,_|14,_|15,_|16,_|17,_|18,_|19,_|20,_|21,_|22,_|23,_|24,_|25,_|26,_|27,_|28,_|29,_|30,_|31,_|33,_|34,_|35,_=>exact hz
    |_+36,hq=>omega
   intro E N hR J
   have cr:(E 25)=.bool false:=Be hR 25;have ka:(E 35)=.bool bb:=Be hR 35;clear hR;simp only[Aj,Ae,yL,yI,yJ,yH,cr,ka];simp;clear cr ka;have bp:=a5.trans (J.mono a5.size);clear J x0 z V y1;cases bb
   .have S:=AA (show k.XX.all (Ea k)=false from Jl (LZ bm) (EO.u))
    go_wp2;go_ret;exact⟨AF (by rw[S.u];rfl),f6.trans (bp.mono f6.size)⟩
   go_wp2
   go_roundw;exact⟨j+1,ω,ξ,Am bk EO.u,bp⟩;simp[intOf];omega
  have t8:((JK k.ZJ r).k !=3)=true:=by simp[e8]
  have dr:Ea k (AI k.XX j)=false:=by rw[gp];simp[e8]
  clear gp e8 hr;have S:=AA (show k.XX.all (Ea k)=false from Jl (LZ bm) (dr));go_wp2_with fail;refine Ac 36 59 [.p wr.heap.size 0,.v (.slice ua (AI k.XX j).PQ.length uc),.b true,.b false,.b false,.p wr.heap.size 1,.i ((r:Int)),.b true,.b false,.b false,.b false,.p wr.heap.size 1,.i ((r:Int)),.b true,.b true,.p w.heap.size 1,.v (.slice (some ⟨bi,au,none⟩) k.ZJ.length ci),.p wr.heap.size 1,.i ((r:Int)),.p bi (au+r*3),.p bi (au+r*3),.i ((JK k.ZJ r).k),.b true,.b true,.b true,.b true,.u,.u,.u,.u,.u,.u,.u,.u,.u,.u] (λ_ _ _=>True) ?_ ?_
  .intro i D o X a N Y H J h2 A
   have a6:=bc J c6 V;have ay:=bc J c6 y1;have az:=bc J el z;have br:=bc J gy jv
   match i,D with
   |0,_|3,_|4,_|5,_|8,_|9,_|10,_|11,_|14,_|15,_|17,_|20,_|23,_|24,_|25,_=>exact sP X A Y H
   |1,_=>exact sL X A Y H (hl:=Kt ‹_›)
   |2,_=>exact sD X A Y H (CR _ J)
   |6,_|12,_|18,_|21,_=>exact sL X A Y H (hl:=F7 ‹_›)
   |7,_=>exact sD X A Y H (CF _ J)
   |16,_=>exact sL X A Y H (hl:=Gi ‹_›)
   |19,_=>exact sI X A Y H (hr:=by clear H Y A;go_simp)
   |26,_|27,_|28,_|29,_|30,_|31,_|32,_|33,_|34,_|35,_=>exact sB X A H
   |13,_=>clear a6 ay az br;obtain rfl:=yP X;have iY:(a.tmps[29]?.getD Θ)=.int .i64 r:=Bd H 12;have iL:(a.tmps[27]?.getD Θ)=.bool false:=Bd H 10;clear H Y;refine AT.yes rfl rfl iL ?_;go_simp;exact A _ _ rfl (yN _ _)
   |22,_=>clear a6 ay az br;obtain rfl:=yP X;have j2:(a.tmps[38]?.getD Θ)=.int .i64 ((JK k.ZJ r).k):=Bd H 21;have mS:(a.tmps[31]?.getD Θ)=.bool true:=Bd H 14;clear H Y;refine AT.yes rfl rfl mS ?_;go_simp;exact A _ _ rfl (yN _ _)
   |_+36,hq=>omega
  intro E N hR J
  have cr:(E 25)=.bool true:=Be hR 25;clear hR;simp only[Aj,Ae,yL,yI,yJ,yH,cr];simp;clear cr;have bp:=a5.trans (J.mono a5.size);clear J x0 z V y1;go_wp2;go_ret;exact⟨AF (by rw[S.u];rfl),f6.trans (bp.mono f6.size)⟩
 have ek:j=k.XX.length:=ω;have a3:=bk.u;rw[ek] at a3;have S:=AA (show k.XX.all (Ea k)=true from Kd (f:=AI k.XX) (λk hk=>LZ hk) a3);have jV:¬(j:Int)<k.XX.length:=ω;clear bk a3;go_wp2;go_ret;exact⟨AF (by rw[S.u,wv];by_cases h3:k.XX.length=3<;>simp[h3]<;>omega),f6.trans (al.mono f6.size)⟩
def KH(k:AQ):Prop:=JC k.ZJ/\∀j,j<k.XX.length->Db (AI k.XX j).PQ
def Yt(k:AQ):Prop:=KH k/\k.ZJ.length<=12
theorem PT (m i e c:Φ)(k:AQ)(w:Ω)(h:Nk w m i e c k)(hs:KH k):
 Ξ prog 49 #[.agg #[m,i,e,c]] w λe w'=>e=.returned (.bool (DG k))/\Γ w w w':=by
 obtain⟨L,K,h3,h4⟩:=h;obtain⟨N0,ar⟩:=Ec w (.cells #[m,i,e,c] 28);have f4:=AY N0;replace L:=L.below ar;replace K:=K.below ar;replace h3:=h3.below ar;replace h4:=h4.below ar;have Hs:=AA hs;obtain⟨am,cm,rfl,_⟩:=L.open;obtain⟨ai,ci,rfl,_,_⟩:=K.shape;obtain⟨ae,ce,rfl,mB,iI,gz⟩:=h3.open;obtain⟨ac,cc,rfl,gh,mC⟩:=h4.shape;obtain⟨x0,z,x2,x3⟩:=AH N0;go_in;go_wp2_with fail;generalize w.alloc _=W0 at*;have av:=AA ar;have HN:=AA N0;have H1:=AA L;have H2:=AA K;have HE:=AA gz;have H4:=AA h4;have mV:=AA f4;clear hs h3 gz L K h4 N0 ar;have C1:=AA (λW (hW:Γ W0 W0 W)=>Iy _ k.mem W (H1.below hW));have C2:=AA (λW (hW:Γ W0 W0 W)=>Dp _ k.ZJ W (BN.below H2 hW) Hs.1);have C3:=AA (λW (hW:Γ W0 W0 W)=>Ji _ k.XU W (BN.below H4 hW));have O:=yN W0 W0;cases e1:CJ k.mem
 .have S:=AA (cB e1)
  have T:=AA e1;clear e1 z x2 x3;refine(C1 _ O).mono ?_;rintro e w1 ⟨rfl,bl⟩;rw[T.u];go_wp2;go_ret;exact⟨AF S.symm,av.trans (bl.mono av.size)⟩
 have T1:=AA e1
 clear e1 x0 z x2 x3 f4;refine(C1 _ O).mono ?_;rintro e w1 ⟨rfl,bl⟩;rw[T1.u];replace O:=bl;clear bl;have z:=(AH (AB HN O)).2.1;go_wp2_with fail;cases e2:BJ k.ZJ
 .have S:=AA (X2 e2)
  have T:=AA e2;clear e2;refine(C2 _ O).mono ?_;rintro e w1 ⟨rfl,bl⟩;rw[T.u];replace O:=O.trans (bl.mono O.size);go_wp2;go_ret;exact⟨AF S.symm,av.trans (O.mono av.size)⟩
 have T2:=AA e2
 clear e2 z;refine(C2 _ O).mono ?_;rintro e w1 ⟨rfl,bl⟩;rw[T2.u];replace O:=O.trans (bl.mono O.size);clear bl;have x3:=(AH (AB HN O)).2.2.2;go_wp2_with fail;cases e3:Bl k.XU
 .have S:=AA (X1 e3)
  have T:=AA e3;clear e3;refine(C3 _ O).mono ?_;rintro e w1 ⟨rfl,bl⟩;rw[T.u];replace O:=O.trans (bl.mono O.size);go_wp2;go_ret;exact⟨AF S.symm,av.trans (O.mono av.size)⟩
 have T3:=AA e3
 clear e3 x3;refine(C3 _ O).mono ?_;rintro e w1 ⟨rfl,bl⟩;rw[T3.u];replace O:=O.trans (bl.mono O.size);clear bl;have x0:=(AH (AB HN O)).1;have z:=(AH (AB HN O)).2.1;have x2:=(AH (AB HN O)).2.2.1
 by_cases e4:k.XX.length=3
 .have T4:=AA e4
  have n4:((k.XX.length:Int) !=3)=false:=η;have gg:=AA (A4.1 T2.u).1;have C:=AA (λW (hW:Γ W0 W0 W)=>WK _ _ k.mem k.ZJ W (H1.below hW) T1 (BN.below H2 hW) gg.u);clear e4;go_wp2_with fail;refine(C _ O).mono ?_;rintro e w1 ⟨v',rfl,hO,bl⟩;rw[<-Ui] at hO;replace hO:=BS hO O.size;replace O:=O.trans (bl.mono O.size);clear bl x0 z x2;have x2:=(AH (AB HN O)).2.2.1;obtain⟨gr,bB,rfl,jh,mq⟩:=JG hO (by rw[EZ];omega);have mI:dv (AE W0 w1 (.slice gr 12 bB) (FU k 0)):=AA (by have:=hO;rw[EZ] at this;exact this);rw[EZ];clear hO mq;go_wp2_with fail;have bl:=AA O;clear x2 O n4;go_loopw [43] (λi wr=>∃j:Nat,j<=k.XX.length/\i=.int .i64 j/\(∀j',j'<j->Ea k (AI k.XX j')=true)/\AE W0 wr (.slice gr 12 bB) (FU k j)/\Γ W0 W0 wr) (λi _=>k.XX.length - (intOf i).toNat)
  exact⟨0,yu _,rfl,λj hj=>absurd hj (xU _),mI.u,bl.u⟩
  obtain⟨j,hj,rfl,a3,hO,al⟩:=hrel;have bk:=AA a3;clear a3
  by_cases bm:j<k.XX.length
  .obtain⟨b,cC,ua,uc,rfl,hX,D0,D1,RR⟩:=HE j bm
   replace D0:=(al.cell (p:=⟨b,cC+j*2,none⟩) hX).trans D0;replace D1:=(al.cell (p:=⟨b,cC+j*2+1,none⟩) hX).trans D1;obtain⟨wx,fg⟩:=Ec wr (.cells #[.slice ua (AI k.XX j).PQ.length uc,.int .i64 (AI k.XX j).root] 81);have HO:=AA (AE.below hO fg);have ln:(j:Int)<k.XX.length:=ω;have j3:j<3:=by have:=T4.u;omega
   have ql:=AA hj;clear hO hj;go_wp2_with fail;generalize wr.alloc _=wa at*;have cz:=al.trans (fg.mono al.size);have V:wa.cell? wr=some (.slice ua (AI k.XX j).PQ.length uc):=yx _ _ 0 _ _ _ wx;have y1:wa.cell? (wr,1)=some (.int .i64 (AI k.XX j).root):=yx _ _ 1 _ _ _ wx;have c6:=AY wx;have el:=yt mV cz.size;have x0:=(AH (AB HN cz)).1;have z:=(AH (AB HN cz)).2.1;have a5:=AA cz;have HR:=AA RR;clear D0 D1 wx fg al cz RR;have gQ:=λW (hW:Γ wa wa W)=>Gy _ (AI k.XX j).PQ W (BN.below (BN.below HR a5.u) hW) (Hs.2 j bm)
   cases e5:BY (AI k.XX j).PQ
   .rw[e5] at gQ
    have CR:=AA gQ;have CF:=AA True.intro;have S:=AA (OY bm (show Ea k (AI k.XX j)=false by simp[Ea,e5]));clear gQ e5;refine Ac 35 170 [.p wr.heap.size 0,.v (.slice ua (AI k.XX j).PQ.length uc),.b false,.b true,.b true,.u,.u,.u,.u,.u,.u,.u,.u,.u,.u,.u,.u,.u,.u,.u,.u,.u,.u,.u,.b true,.b true,.u,.u,.u,.u,.u,.u,.u,.u,.u] (λ_ _ _=>True) ?_ ?_
    .intro i D o X a N Y H J h2 A
     match i,D with
     |0,_|3,_|4,_|24,_|25,_=>exact sP X A Y H
     |1,_=>exact sL X A Y H (hl:=Kt (bc J c6 V))
     |2,_=>exact sD X A Y H (CR _ J)
     |5,_|6,_|7,_|8,_|9,_|10,_|12,_|13,_|14,_|15,_|16,_|17,_|18,_|19,_|20,_|21,_|22,_|23,_|26,_|27,_|28,_|29,_|30,_|31,_|32,_|33,_|34,_=>exact sB X A H
     |11,_=>obtain rfl:=yP X;have d8:(a.tmps[55]?.getD Θ)=Θ:=Bd H 8;clear H Y;exact AT.un rfl rfl d8 (A _ _ rfl (yN _ _))
     |_+35,hq=>omega
    intro E N hR J
    have cr:(E 25)=.bool true:=Be hR 25;have gt:(E 34)=Θ:=Be hR 34;clear hR;simp only[Aj,Ae,yL,yI,yJ,yH,cr,gt];simp;clear cr gt;have bp:=a5.trans (J.mono a5.size);clear J;go_wp2;go_ret;exact⟨AF S.symm,av.trans (bp.mono av.size)⟩
   rw[e5] at gQ
   have CR:=AA gQ;have E5:=AA e5;clear gQ e5
   by_cases e6:(AI k.XX j).root= -1
   .have E6:=AA e6
    have t6:((AI k.XX j).root != -1)=false:=by simp[e6]
    rw[e6] at y1;have p8:((-1:Int) != -1)=false:=rfl;have CF:=AA True.intro;have CX:=AA (λW (hW:Γ wa wa W)=>QW _ k.mem (-1) W ((H1.below a5.u).below hW) ω);have j9:=z;have CA:=AA (λW (hW:Γ wa wa W) v2 ts (K:A3 W v2 (A8 ts)) (hm:∀g,g∈ts↔g∈Bi k.mem (-1))=>JT w _ v2 _ (AI k.XX j).PQ ts k.ZJ W ((hW.cell (p:=⟨w,1,none⟩) el).trans j9) (BN.below (BN.below HR a5.u) hW) (BN.below (BN.below H2 a5.u) hW) K (λf hf=>by have:=(EC.1 ((hm f).1 hf)).1;omega));clear j9 e6;replace CA:=AA (λW (hW:Γ wa wa W) v2 ts (K:A3 W v2 (A8 ts)) (hm:∀g,g∈ts↔g∈Bi k.mem (-1))=>by have:=CA W hW v2 ts K hm;rw[Fo hm] at this;exact this);have im:dv (BO k.ZJ (Bi k.mem (-1)) (AI k.XX j).PQ=true):=AA (by simp[BO,Bi]);rw[im.u] at CA;have S:=AA (show Ea k (AI k.XX j)=true by simp only[Ea,E5.u,E6.u,im.u];rfl);have h1:=AA (Y7 bm (show(AI k.XX j).root<0 by rw[E6.u];omega));clear im;refine BD 35 170 [.p wr.heap.size 0,.v (.slice ua (AI k.XX j).PQ.length uc),.b true,.b false,.b false,.p wr.heap.size 1,.i (-1),.b false,.b false,.u,.u,.u,.u,.u,.u,.u,.u,.u,.u,.u,.u,.u,.u,.b false,.b false,.b false,.p wr.heap.size 0,.v (.slice ua (AI k.XX j).PQ.length uc),.p w.heap.size 0,.v (.slice am k.mem.length cm),.p wr.heap.size 1,.i (-1),.z,.b true,.b false] (λix vv ww=>match ix with
     |32=>FW wa k.mem (-1) ww vv
     |_=>True) ?_ ?_ ?_
    .intro i D o X a N Y H J h2 A
     have a6:=bc J c6 V;have ay:=bc J c6 y1;have az:=bc J el x0
     match i,D with
     |0,_|3,_|4,_|5,_|8,_|23,_|24,_|25,_|26,_|28,_|30,_|34,_=>exact sP X A Y H
     |1,_|27,_=>exact sL X A Y H (hl:=Kt ‹_›)
     |2,_=>exact sD X A Y H (CR _ J)
     |6,_|31,_=>exact sL X A Y H (hl:=F7 ‹_›)
     |9,_|10,_|12,_|13,_|14,_|15,_|16,_|17,_|18,_|19,_|20,_|21,_|22,_=>exact sB X A H
     |29,_=>exact sL X A Y H (hl:=GR ‹_›)
     |32,_=>exact sC X A Y H (CX _ J) (by rintro e w_ ⟨v',ts,rfl,hO,b5,_,aq⟩;exact⟨_,rfl,⟨ts,BS hO J.size,b5⟩,aq⟩)
     |7,_=>clear a6 ay az;obtain rfl:=yP X;have d6:(a.tmps[53]?.getD Θ)=.int .i64 (-1):=Bd H 6;have d4:(a.tmps[51]?.getD Θ)=.bool false:=Bd H 4;clear H Y;refine AT.yes rfl rfl d4 ?_;go_simp;exact A _ _ rfl (yN _ _)
     |11,_=>clear a6 ay az;obtain rfl:=yP X;have d8:(a.tmps[55]?.getD Θ)=.bool false:=Bd H 8;clear H Y;exact AT.no rfl rfl d8 (A _ _ rfl (yN _ _))
     |33,_=>clear a6 ay az;obtain rfl:=yP X;have e1:a.tmps[1]?.getD Θ=.pointer w:=eg (OF Y 1);have mR:(a.tmps[74]?.getD Θ)=.slice ua (AI k.XX j).PQ.length uc:=Bd H 27;have hZ:FW wa k.mem (-1) N (a.tmps[79]?.getD Θ):=Bd H 32;have jw:(a.tmps[72]?.getD Θ)=.bool false:=Bd H 25;clear H Y;generalize e79:a.tmps[79]?.getD Θ=v2 at hZ;obtain⟨ts,hO,b5⟩:=hZ;have iO:=CA N J v2 ts (AE.rd hO) b5;refine AT.yes rfl rfl jw ?_;go_simp;refine iO.mono ?_;rintro e w_ ⟨rfl,aq⟩;exact A _ _ rfl aq
     |_+35,hq=>omega
    .intro i D vv wz c7 bf hz
     match i,D with
     |32,_=>exact(FW.below hz bf)
     |0,_|1,_|2,_|3,_|4,_|5,_|6,_|7,_|8,_|9,_|10,_|11,_|12,_|13,_|14,_|15,_|16,_|17,_|18,_|19,_|20,_|21,_|22,_|23,_|24,_|25,_|26,_|27,_|28,_|29,_|30,_|31,_|33,_|34,_=>exact hz
     |_+35,hq=>omega
    intro E N hR J
    have cr:(E 25)=.bool false:=Be hR 25;have gt:(E 34)=.bool false:=Be hR 34;clear hR;simp only[Aj,Ae,yL,yI,yJ,yH,cr,gt];simp;clear cr gt;have bp:=a5.trans (J.mono a5.size);replace y1:=(J.cell (p:=⟨wr,1,none⟩) c6).trans y1;have ib:=AA (AE.below HO J);clear J x0 z V;go_wp2;go_roundw;exact⟨j+1,ω,ξ,Am bk S.u,by rw[h1.u];exact ib.u,bp⟩;simp[intOf];omega
   have t6:((AI k.XX j).root != -1)=true:=by simp[e6]
   have ft:=λW (_:Γ wa wa W)=>A7 (EA (AI k.XX j).root W)
   cases e7:Bo (AI k.XX j).root 0 11
   .rw[e7] at ft
    have CF:=AA ft;have S:=AA (OY bm (show Ea k (AI k.XX j)=false by simp[Ea,e6,e7]));clear ft e6 e7;refine Ac 35 170 [.p wr.heap.size 0,.v (.slice ua (AI k.XX j).PQ.length uc),.b true,.b false,.b false,.p wr.heap.size 1,.i ((AI k.XX j).root),.b true,.b true,.p wr.heap.size 1,.i ((AI k.XX j).root),.b false,.b true,.b true,.u,.u,.u,.u,.u,.u,.u,.u,.b true,.b true,.b true,.b true,.u,.u,.u,.u,.u,.u,.u,.u,.u] (λ_ _ _=>True) ?_ ?_
    .intro i D o X a N Y H J h2 A
     have a6:=bc J c6 V;have ay:=bc J c6 y1
     match i,D with
     |0,_|3,_|4,_|5,_|8,_|9,_|12,_|13,_|22,_|23,_|24,_|25,_=>exact sP X A Y H
     |1,_=>exact sL X A Y H (hl:=Kt ‹_›)
     |2,_=>exact sD X A Y H (CR _ J)
     |6,_|10,_=>exact sL X A Y H (hl:=F7 ‹_›)
     |11,_=>exact sD X A Y H (CF _ J)
     |14,_|15,_|16,_|17,_|18,_|19,_|20,_|21,_|26,_|27,_|28,_|29,_|30,_|31,_|32,_|33,_|34,_=>exact sB X A H
     |7,_=>clear a6 ay;obtain rfl:=yP X;have d6:(a.tmps[53]?.getD Θ)=.int .i64 ((AI k.XX j).root):=Bd H 6;have d4:(a.tmps[51]?.getD Θ)=.bool false:=Bd H 4;clear H Y;refine AT.yes rfl rfl d4 ?_;go_simp;exact A _ _ rfl (yN _ _)
     |_+35,hq=>omega
    intro E N hR J
    have cr:(E 25)=.bool true:=Be hR 25;have gt:(E 34)=Θ:=Be hR 34;clear hR;simp only[Aj,Ae,yL,yI,yJ,yH,cr,gt];simp;clear cr gt;have bp:=a5.trans (J.mono a5.size);clear J;go_wp2;go_ret;exact⟨AF S.symm,av.trans (bp.mono av.size)⟩
   rw[e7] at ft
   obtain⟨r,hr⟩:∃r:Nat,(AI k.XX j).root=(r:Int):=⟨(AI k.XX j).root.toNat,by have:=(Aa.1 e7).1;omega⟩
   have bY:r<12:=by have:=(Aa.1 e7).2;omega
   have E7:=AA (yj e6 e7);rw[hr] at ft t6 y1;have CF:=AA ft;have Hr:=AA hr;clear ft e6 e7 hr;have jQ:(r:Int)<k.ZJ.length:=by have:=gg.u;omega
   obtain⟨a9,c9,ev,_,_,lb⟩:=BN.open Az ψ (BN.below H2 a5.u);cases ev;obtain⟨bi,au,rfl,gy,jv,_,_⟩:=lb.zZ (show r<k.ZJ.length by have:=gg.u;omega);clear lb
   by_cases e8:(JK k.ZJ r).k=3
   .have t8:((JK k.ZJ r).k !=3)=false:=by simp[e8]
    have CX:=AA (λW (hW:Γ wa wa W)=>QV _ k.mem r W ((H1.below a5.u).below hW) T1 bY);have j9:=z;have CA:=AA (λW (hW:Γ wa wa W) v2 ts (K:A3 W v2 (A8 ts)) (hm:∀g,g∈ts↔g∈Bi k.mem (r:Int))=>by have:=JT w _ v2 _ (AI k.XX j).PQ ts k.ZJ W ((hW.cell (p:=⟨w,1,none⟩) el).trans j9) (BN.below (BN.below HR a5.u) hW) (BN.below (BN.below H2 a5.u) hW) K (λf hf=>by have:=zG (root:=(r:Int)) ω f ((hm f).1 hf);have:=gg.u;omega);rw[Fo hm] at this;exact this);clear j9;have E8:=AA e8;clear e8;generalize im:BO k.ZJ (Bi k.mem (r:Int)) (AI k.XX j).PQ=bb at CA;have oG:=AA im;clear im;refine BD 35 170 [.p wr.heap.size 0,.v (.slice ua (AI k.XX j).PQ.length uc),.b true,.b false,.b false,.p wr.heap.size 1,.i ((r:Int)),.b true,.b true,.p wr.heap.size 1,.i ((r:Int)),.b true,.b false,.b false,.p w.heap.size 1,.v (.slice (some ⟨bi,au,none⟩) k.ZJ.length ci),.p wr.heap.size 1,.i ((r:Int)),.p bi (au+r*3),.p bi (au+r*3),.i ((JK k.ZJ r).k),.b false,.b false,.b false,.b false,.b false,.p wr.heap.size 0,.v (.slice ua (AI k.XX j).PQ.length uc),.p w.heap.size 0,.v (.slice am k.mem.length cm),.p wr.heap.size 1,.i ((r:Int)),.z,.b bb,.b (!bb)] (λix vv ww=>match ix with
     |32=>FW wa k.mem ((r:Int)) ww vv
     |_=>True) ?_ ?_ ?_
    .intro i D o X a N Y H J h2 A
     have a6:=bc J c6 V;have ay:=bc J c6 y1;have az:=bc J el z;have br:=bc J gy jv;have ei:=bc J el x0
     match i,D with
     |0,_|3,_|4,_|5,_|8,_|9,_|12,_|13,_|14,_|16,_|19,_|22,_|23,_|24,_|25,_|26,_|28,_|30,_|34,_=>exact sP X A Y H
     |1,_|27,_=>exact sL X A Y H (hl:=Kt ‹_›)
     |2,_=>exact sD X A Y H (CR _ J)
     |6,_|10,_|17,_|20,_|31,_=>exact sL X A Y H (hl:=F7 ‹_›)
     |11,_=>exact sD X A Y H (CF _ J)
     |15,_=>exact sL X A Y H (hl:=Gi ‹_›)
     |18,_=>exact sI X A Y H (hr:=by clear H Y A;go_simp)
     |29,_=>exact sL X A Y H (hl:=GR ‹_›)
     |32,_=>exact sC X A Y H (CX _ J) (by rintro e w_ ⟨v',ts,rfl,hO,b5,_,aq⟩;exact⟨_,rfl,⟨ts,BS hO J.size,b5⟩,aq⟩)
     |7,_=>clear a6 ay az br ei;obtain rfl:=yP X;have d6:(a.tmps[53]?.getD Θ)=.int .i64 r:=Bd H 6;have d4:(a.tmps[51]?.getD Θ)=.bool false:=Bd H 4;clear H Y;refine AT.yes rfl rfl d4 ?_;go_simp;exact A _ _ rfl (yN _ _)
     |21,_=>clear a6 ay az br ei;obtain rfl:=yP X;have jx:(a.tmps[67]?.getD Θ)=.int .i64 ((JK k.ZJ r).k):=Bd H 20;have gZ:(a.tmps[60]?.getD Θ)=.bool false:=Bd H 13;clear H Y;refine AT.yes rfl rfl gZ ?_;go_simp;exact A _ _ rfl (yN _ _)
     |33,_=>clear a6 ay az br ei;obtain rfl:=yP X;have e1:a.tmps[1]?.getD Θ=.pointer w:=eg (OF Y 1);have mR:(a.tmps[74]?.getD Θ)=.slice ua (AI k.XX j).PQ.length uc:=Bd H 27;have hZ:FW wa k.mem ((r:Int)) N (a.tmps[79]?.getD Θ):=Bd H 32;have jw:(a.tmps[72]?.getD Θ)=.bool false:=Bd H 25;clear H Y;generalize e79:a.tmps[79]?.getD Θ=v2 at hZ;obtain⟨ts,hO,b5⟩:=hZ;have iO:=CA N J v2 ts (AE.rd hO) b5;refine AT.yes rfl rfl jw ?_;go_simp;refine iO.mono ?_;rintro e w_ ⟨rfl,aq⟩;exact A _ _ rfl aq
     |_+35,hq=>omega
    .intro i D vv wz c7 bf hz
     match i,D with
     |32,_=>exact(FW.below hz bf)
     |0,_|1,_|2,_|3,_|4,_|5,_|6,_|7,_|8,_|9,_|10,_|11,_|12,_|13,_|14,_|15,_|16,_|17,_|18,_|19,_|20,_|21,_|22,_|23,_|24,_|25,_|26,_|27,_|28,_|29,_|30,_|31,_|33,_|34,_=>exact hz
     |_+35,hq=>omega
    intro E N hR J
    have cr:(E 25)=.bool false:=Be hR 25;have gt:(E 34)=.bool (!bb):=Be hR 34;clear hR;simp only[Aj,Ae,yL,yI,yJ,yH,cr,gt];simp;clear cr gt;have bp:=a5.trans (J.mono a5.size);replace y1:=(J.cell (p:=⟨wr,1,none⟩) c6).trans y1;have ib:=AE.below HO J;clear J x0 z V jv;cases bb
    .have S:=AA (OY bm (show Ea k (AI k.XX j)=false by simp only[Ea,Hr.u,oG.u,Bool.and_false]))
     clear ib;go_wp2;go_ret;exact⟨AF S.symm,av.trans (bp.mono av.size)⟩
    have S:=AA (show Ea k (AI k.XX j)=true by
     have e7:=E7.2;rw[Hr.u] at e7;simp only[Ea,E5.u,Hr.u,oG.u,e7,yq,E8.u];simp)
    have h1:=AA (XB bm Hr bY);obtain⟨s1,s2⟩:=Ss (k:=k) (j:=j) T1 T4 bY;have bK:N.ownsRow W0.heap.size 3 1 (.slice gr 12 bB) 12 ((FU k j).map (yl .i64)):=by have:=ib;unfold AE at this;rwa [EZ] at this
    have C:=(bK.cellAt r ω).trans (GP (xs:=FU k j) (by rw[EZ];exact bY));have Fr:=bK.frozenAt r;have S2:=AA (bK.stored r (.int .i64 (nth (FU k j) r+1)));have r0:(0:Int)<=r:=ω;have qb:(r:Int)<12:=ω;have pw:=jh;have ot:dv (W0.heap.size<=gr):=AA (bK.lt gr rfl).1;clear ib bK;generalize nth (FU k j) r=nn at*;go_wp2;go_roundw
    case rel=>refine⟨j+1,ω,ξ,Am bk S.u,?_,AM bp S2.2 ot bp.size⟩;rw[h1.u];unfold AE;rw[yi,EZ,List.map_set];exact S2.1
    case measure=>simp[intOf];omega
   have t8:((JK k.ZJ r).k !=3)=true:=by simp[e8]
   have S:=AA (OY bm (show Ea k (AI k.XX j)=false by simp[Ea,Hr.u,e8]));clear e8;refine Ac 35 170 [.p wr.heap.size 0,.v (.slice ua (AI k.XX j).PQ.length uc),.b true,.b false,.b false,.p wr.heap.size 1,.i ((r:Int)),.b true,.b true,.p wr.heap.size 1,.i ((r:Int)),.b true,.b false,.b false,.p w.heap.size 1,.v (.slice (some ⟨bi,au,none⟩) k.ZJ.length ci),.p wr.heap.size 1,.i ((r:Int)),.p bi (au+r*3),.p bi (au+r*3),.i ((JK k.ZJ r).k),.b true,.b true,.b true,.b true,.b true,.u,.u,.u,.u,.u,.u,.u,.u,.u] (λ_ _ _=>True) ?_ ?_
   .intro i D o X a N Y H J h2 A
    have a6:=bc J c6 V;have ay:=bc J c6 y1;have az:=bc J el z;have br:=bc J gy jv
    match i,D with
    |0,_|3,_|4,_|5,_|8,_|9,_|12,_|13,_|14,_|16,_|19,_|22,_|23,_|24,_|25,_=>exact sP X A Y H
    |1,_=>exact sL X A Y H (hl:=Kt ‹_›)
    |2,_=>exact sD X A Y H (CR _ J)
    |6,_|10,_|17,_|20,_=>exact sL X A Y H (hl:=F7 ‹_›)
    |11,_=>exact sD X A Y H (CF _ J)
    |15,_=>exact sL X A Y H (hl:=Gi ‹_›)
    |18,_=>exact sI X A Y H (hr:=by clear H Y A;go_simp)
    |26,_|27,_|28,_|29,_|30,_|31,_|32,_|33,_|34,_=>exact sB X A H
    |7,_=>clear a6 ay az br;obtain rfl:=yP X;have d6:(a.tmps[53]?.getD Θ)=.int .i64 r:=Bd H 6;have d4:(a.tmps[51]?.getD Θ)=.bool false:=Bd H 4;clear H Y;refine AT.yes rfl rfl d4 ?_;go_simp;exact A _ _ rfl (yN _ _)
    |21,_=>clear a6 ay az br;obtain rfl:=yP X;have jx:(a.tmps[67]?.getD Θ)=.int .i64 ((JK k.ZJ r).k):=Bd H 20;have gZ:(a.tmps[60]?.getD Θ)=.bool false:=Bd H 13;clear H Y;refine AT.yes rfl rfl gZ ?_;go_simp;exact A _ _ rfl (yN _ _)
    |_+35,hq=>omega
   intro E N hR J
   have cr:(E 25)=.bool true:=Be hR 25;have gt:(E 34)=Θ:=Be hR 34;clear hR;simp only[Aj,Ae,yL,yI,yJ,yH,cr,gt];simp;clear cr gt;have bp:=a5.trans (J.mono a5.size);clear J;go_wp2;go_ret;exact⟨AF S.symm,av.trans (bp.mono av.size)⟩
  obtain rfl:j=k.XX.length:=ω;have oD:=AA (λj (hj:j<3)=>bk j (by have:=T4.u;omega));have pG:dv (AE W0 wr (.slice gr 12 bB) (FU k 3)):=AA (by have:=hO;rwa [T4.u] at this);have z:=(AH (AB HN al)).2.1;have ot:dv (gr<wr.heap.size):=AA (yE hO gr rfl).2;have aq:=AA al;clear hO al bk;go_wp2_with fail;clear z;obtain⟨wq,rfl⟩:∃wq:Ω,wq=wr:=⟨_,rfl⟩
  go_loopw [97] (λi wr=>∃f:Nat,f<=k.ZJ.length/\i=.int .i64 f/\(∀f',f'<f->EH k f'=true/\IY k f'=true)/\AE W0 wr (.slice gr 12 bB) (FU k 3)/\Γ W0 W0 wr) (λi _=>k.ZJ.length - (intOf i).toNat)
  exact⟨0,yu _,rfl,λj hj=>absurd hj (xU _),pG.u,aq.u⟩
  obtain⟨f,hf,rfl,a3,hO,al⟩:=hrel;have bk:=AA a3;clear a3
  by_cases bm:f<k.ZJ.length
  .obtain⟨a9,c9,ev,_,_,lb⟩:=BN.open Az ψ (BN.below H2 al)
   cases ev;obtain⟨bi,au,rfl,gy,D0,D1,D2⟩:=lb.zZ bm;obtain⟨wx,fg⟩:=Ec wr (.cells #[.int .i64 (JK k.ZJ f).k,.string (JK k.ZJ f).g,.int .i64 (JK k.ZJ f).r] 115);have HO:=AA (AE.below hO fg);have ln:(f:Int)<k.ZJ.length:=ω
   have cy:f<12:=by have:=gg.u;omega
   have gW:(f:Int)<12:=ω;clear hO lb;go_wp2_with fail;generalize wr.alloc _=wa at*;have cz:=al.trans (fg.mono al.size);have V:wa.cell? wr=some (.int .i64 (JK k.ZJ f).k):=yx _ _ 0 _ _ _ wx;have y2:wa.cell? (wr,2)=some (.int .i64 (JK k.ZJ f).r):=yx _ _ 2 _ _ _ wx;have hJ:=AY wx;have el:=yt mV cz.size;have x0:=(AH (AB HN cz)).1;have z:=(AH (AB HN cz)).2.1;have bK:wa.ownsRow W0.heap.size 3 1 (.slice gr 12 bB) 12 ((FU k 3).map (yl .i64)):=by have:=HO.u;unfold AE at this;rwa [EZ] at this
   have kT:=(bK.cellAt f ω).trans (GP (xs:=FU k 3) (by rw[EZ];exact cy));have bt:=(bK.lt gr rfl).2;have a5:=AA cz;have fo:=λW (_:Γ wa wa W)=>A7 (GJ (JK k.ZJ f).k W)
   clear D0 D1 D2 wx fg al cz bK;cases e5:Bp (JK k.ZJ f).k
   .rw[e5] at fo
    have CT:=AA fo;have TB:=AA (show EH k f=true by simp[EH,e5]);clear fo e5;refine Ac 23 170 [.p wr.heap.size 0,.i ((JK k.ZJ f).k),.b false,.b false,.u,.u,.u,.u,.u,.u,.u,.u,.u,.u,.b false,.b false,.p wr.heap.size 2,.i ((JK k.ZJ f).r),.s gr 12 bB,.i ((f:Int)),.p gr f,.i (nth (FU k 3) f),.b ((JK k.ZJ f).r !=nth (FU k 3) f)] (λ_ _ _=>True) ?_ ?_
    .intro i D o X a N Y H J h2 A
     have a6:=bc J hJ V;have ay:=bc J hJ y2;have az:=bc J bt kT
     match i,D with
     |0,_|3,_|14,_|15,_|16,_|18,_|19,_=>exact sP X A Y H
     |1,_|17,_|21,_=>exact sL X A Y H (hl:=F7 ‹_›)
     |2,_=>exact sD X A Y H (CT _ J)
     |4,_|5,_|6,_|7,_|8,_|9,_|10,_|11,_|12,_|13,_=>exact sB X A H
     |20,_=>exact sI X A Y H (hr:=by clear H Y A;go_simp)
     |22,_=>clear a6 ay az;obtain rfl:=yP X;have jy:(a.tmps[119]?.getD Θ)=.int .i64 ((JK k.ZJ f).r):=Bd H 17;have j2:(a.tmps[123]?.getD Θ)=.int .i64 (nth (FU k 3) f):=Bd H 21;have gY:(a.tmps[117]?.getD Θ)=.bool false:=Bd H 15;clear H Y;refine AT.yes rfl rfl gY ?_;go_simp;exact A _ _ rfl (yN _ _)
     |_+23,hq=>omega
    intro E N hR J
    have fl:(E 15)=.bool false:=Be hR 15;have g0:(E 22)=.bool ((JK k.ZJ f).r !=nth (FU k 3) f):=Be hR 22;clear hR;simp only[Aj,Ae,yL,yI,yJ,yH,fl,g0];simp;clear fl g0;have bp:=a5.trans (J.mono a5.size);have ib:=AA (AE.below HO J);clear J x0 z V y2 kT;have RL:=Sr (k:=k) T4 cy;cases bP:((JK k.ZJ f).r !=nth (FU k 3) f)
    .have S1:=AA (show IY k f=true by rw[RL];simpa using bP)
     clear RL;go_wp2;go_roundw;exact⟨f+1,ω,ξ,Am bk ⟨TB.u,S1.u⟩,ib.u,bp⟩;simp[intOf];omega
    have S:=AA (Wd cy (show IY k f=false by rw[RL];simpa using bP))
    clear RL;go_wp2;go_ret;exact⟨AF S.symm,av.trans (bp.mono av.size)⟩
   rw[e5] at fo
   have CT:=AA fo;have j8:=λW (hW:Γ wa wa W) v2 (K:BZ W v2 [⟨#[]⟩])=>WW _ _ v2 k.mem k.ZJ f (JK k.ZJ f).k [⟨#[]⟩] W ((H1.below a5.u).below hW) T1 (BN.below (BN.below H2 a5.u) hW) gg cy e5 K
   cases e6:Iw k.mem k.ZJ f (JK k.ZJ f).k [⟨#[]⟩]
   .rw[e6] at j8
    have CG:=AA j8;have S:=AA (cD cy (show EH k f=false by simp[EH,e5,e6]));clear fo e5 j8 e6;refine BD 23 170 [.p wr.heap.size 0,.i ((JK k.ZJ f).k),.b true,.b true,.p w.heap.size 0,.v (.slice am k.mem.length cm),.p w.heap.size 1,.v (.slice (some ⟨bi,au,none⟩) k.ZJ.length ci),.i ((f:Int)),.p wr.heap.size 0,.i ((JK k.ZJ f).k),.z,.b false,.b true,.b true,.b true,.u,.u,.u,.u,.u,.u,.u] (λix vv ww=>match ix with
     |11=>BZ ww vv [⟨#[]⟩]
     |_=>True) ?_ ?_ ?_
    .intro i D o X a N Y H J h2 A
     have a6:=bc J hJ V;have ay:=bc J el x0;have az:=bc J el z
     match i,D with
     |0,_|3,_|4,_|6,_|8,_|9,_|13,_|14,_|15,_=>exact sP X A Y H
     |1,_|10,_=>exact sL X A Y H (hl:=F7 ‹_›)
     |2,_=>exact sD X A Y H (CT _ J)
     |5,_=>exact sL X A Y H (hl:=GR ‹_›)
     |7,_=>exact sL X A Y H (hl:=Gi ‹_›)
     |16,_|17,_|18,_|19,_|20,_|21,_|22,_=>exact sB X A H
     |11,_=>clear a6 ay az;obtain rfl:=yP X;have d3:(a.tmps[105]?.getD Θ)=.bool true:=Bd H 3;clear H Y;refine AT.yes rfl rfl d3 ?_;go_simp;exact A _ _ (Rd.news _ #[.string ⟨#[]⟩] _ 1 1 rfl ζ) (AG _ _)
     |12,_=>clear a6 ay az;obtain rfl:=yP X;have d5:(a.tmps[107]?.getD Θ)=.slice am k.mem.length cm:=Bd H 5;have d7:(a.tmps[109]?.getD Θ)=.slice (some ⟨bi,au,none⟩) k.ZJ.length ci:=Bd H 7;have d8:(a.tmps[110]?.getD Θ)=.int .i64 f:=Bd H 8;have iL:(a.tmps[112]?.getD Θ)=.int .i64 ((JK k.ZJ f).k):=Bd H 10;have gj:BZ N (a.tmps[113]?.getD Θ) [⟨#[]⟩]:=Bd H 11;have d3:(a.tmps[105]?.getD Θ)=.bool true:=Bd H 3;clear H Y;generalize e113:a.tmps[113]?.getD Θ=v2 at gj;have m8:=CG N J v2 gj;refine AT.yes rfl rfl d3 ?_;go_simp;refine m8.mono ?_;rintro e w_ ⟨rfl,aq⟩;exact A _ _ rfl aq
     |_+23,hq=>omega
    .intro i D vv wz c7 bf hz
     match i,D with
     |11,_=>exact(BN.below hz bf)
     |0,_|1,_|2,_|3,_|4,_|5,_|6,_|7,_|8,_|9,_|10,_|12,_|13,_|14,_|15,_|16,_|17,_|18,_|19,_|20,_|21,_|22,_=>exact hz
     |_+23,hq=>omega
    intro E N hR J
    have fl:(E 15)=.bool true:=Be hR 15;have g0:(E 22)=Θ:=Be hR 22;clear hR;simp only[Aj,Ae,yL,yI,yJ,yH,fl,g0];simp;clear fl g0;have bp:=a5.trans (J.mono a5.size);clear J x0 z V y2 kT;go_wp2;go_ret;exact⟨AF S.symm,av.trans (bp.mono av.size)⟩
   rw[e6] at j8
   have CG:=AA j8;have TB:=AA (show EH k f=true by simp[EH,e6]);clear fo e5 j8 e6;refine BD 23 170 [.p wr.heap.size 0,.i ((JK k.ZJ f).k),.b true,.b true,.p w.heap.size 0,.v (.slice am k.mem.length cm),.p w.heap.size 1,.v (.slice (some ⟨bi,au,none⟩) k.ZJ.length ci),.i ((f:Int)),.p wr.heap.size 0,.i ((JK k.ZJ f).k),.z,.b true,.b false,.b false,.b false,.p wr.heap.size 2,.i ((JK k.ZJ f).r),.s gr 12 bB,.i ((f:Int)),.p gr f,.i (nth (FU k 3) f),.b ((JK k.ZJ f).r !=nth (FU k 3) f)] (λix vv ww=>match ix with
    |11=>BZ ww vv [⟨#[]⟩]
    |_=>True) ?_ ?_ ?_
   .intro i D o X a N Y H J h2 A
    have a6:=bc J hJ V;have ay:=bc J el x0;have az:=bc J el z;have br:=bc J hJ y2;have ei:=bc J bt kT
    match i,D with
    |0,_|3,_|4,_|6,_|8,_|9,_|13,_|14,_|15,_|16,_|18,_|19,_=>exact sP X A Y H
    |1,_|10,_|17,_|21,_=>exact sL X A Y H (hl:=F7 ‹_›)
    |2,_=>exact sD X A Y H (CT _ J)
    |5,_=>exact sL X A Y H (hl:=GR ‹_›)
    |7,_=>exact sL X A Y H (hl:=Gi ‹_›)
    |20,_=>exact sI X A Y H (hr:=by clear H Y A;go_simp)
    |11,_=>clear a6 ay az br ei;obtain rfl:=yP X;have d3:(a.tmps[105]?.getD Θ)=.bool true:=Bd H 3;clear H Y;refine AT.yes rfl rfl d3 ?_;go_simp;exact A _ _ (Rd.news _ #[.string ⟨#[]⟩] _ 1 1 rfl ζ) (AG _ _)
    |12,_=>clear a6 ay az br ei;obtain rfl:=yP X;have d5:(a.tmps[107]?.getD Θ)=.slice am k.mem.length cm:=Bd H 5;have d7:(a.tmps[109]?.getD Θ)=.slice (some ⟨bi,au,none⟩) k.ZJ.length ci:=Bd H 7;have d8:(a.tmps[110]?.getD Θ)=.int .i64 f:=Bd H 8;have iL:(a.tmps[112]?.getD Θ)=.int .i64 ((JK k.ZJ f).k):=Bd H 10;have gj:BZ N (a.tmps[113]?.getD Θ) [⟨#[]⟩]:=Bd H 11;have d3:(a.tmps[105]?.getD Θ)=.bool true:=Bd H 3;clear H Y;generalize e113:a.tmps[113]?.getD Θ=v2 at gj;have m8:=CG N J v2 gj;refine AT.yes rfl rfl d3 ?_;go_simp;refine m8.mono ?_;rintro e w_ ⟨rfl,aq⟩;exact A _ _ rfl aq
    |22,_=>clear a6 ay az br ei;obtain rfl:=yP X;have jy:(a.tmps[119]?.getD Θ)=.int .i64 ((JK k.ZJ f).r):=Bd H 17;have j2:(a.tmps[123]?.getD Θ)=.int .i64 (nth (FU k 3) f):=Bd H 21;have gY:(a.tmps[117]?.getD Θ)=.bool false:=Bd H 15;clear H Y;refine AT.yes rfl rfl gY ?_;go_simp;exact A _ _ rfl (yN _ _)
    |_+23,hq=>omega
   .intro i D vv wz c7 bf hz
    match i,D with
    |11,_=>exact(BN.below hz bf)
    |0,_|1,_|2,_|3,_|4,_|5,_|6,_|7,_|8,_|9,_|10,_|12,_|13,_|14,_|15,_|16,_|17,_|18,_|19,_|20,_|21,_|22,_=>exact hz
    |_+23,hq=>omega
   intro E N hR J
   have fl:(E 15)=.bool false:=Be hR 15;have g0:(E 22)=.bool ((JK k.ZJ f).r !=nth (FU k 3) f):=Be hR 22;clear hR;simp only[Aj,Ae,yL,yI,yJ,yH,fl,g0];simp;clear fl g0;have bp:=a5.trans (J.mono a5.size);have ib:=AA (AE.below HO J);clear J x0 z V y2 kT;have RL:=Sr (k:=k) T4 cy;cases bP:((JK k.ZJ f).r !=nth (FU k 3) f)
   .have S1:=AA (show IY k f=true by rw[RL];simpa using bP)
    clear RL;go_wp2;go_roundw;exact⟨f+1,ω,ξ,Am bk ⟨TB.u,S1.u⟩,ib.u,bp⟩;simp[intOf];omega
   have S:=AA (Wd cy (show IY k f=false by rw[RL];simpa using bP))
   clear RL;go_wp2;go_ret;exact⟨AF S.symm,av.trans (bp.mono av.size)⟩
  obtain rfl:f=k.ZJ.length:=ω;have pT:=AA (λf (hf:f<12)=>bk f (by have:=gg.u;omega));have x3:=(AH (AB HN al)).2.2.2;have ed:=AA al;clear hO al bk;go_wp2_with fail;clear x3;obtain⟨wq2,rfl⟩:∃wq:Ω,wq=wr:=⟨_,rfl⟩
  go_loopw [130] (λi wr=>∃j:Nat,j<=k.XU.length/\i=.int .i64 j/\(∀j',j'<j->DJ k (AU k.XU j')=true)/\Γ W0 W0 wr) (λi _=>k.XU.length - (intOf i).toNat)
  exact⟨0,yu _,rfl,λj hj=>absurd hj (xU _),ed.u⟩
  obtain⟨j,hj,rfl,a3,al⟩:=hrel;have bk:=AA a3;clear a3
  by_cases bm:j<k.XU.length
  .obtain⟨a9,c9,ev,_,_,oI⟩:=BN.open Co ψ (BN.below H4 al)
   cases ev;obtain⟨bi,au,rfl,gy,D0,D1,D2,D3⟩:=oI.zV bm;have il:Cc (AU k.XU j)=true:=by have L:=T3.u;unfold Bl at L;simp only[yC,ym] at L;have K:=L.1 j (yh.2 bm);unfold DV at K;simp only[yC] at K;exact K.1
   have mA:k.XU.length<=4:=by have L:=T3.u;unfold Bl at L;simp only[yC,decide_eq_true_eq] at L;exact L.2
   unfold Cc at il;simp only[yC,Aa] at il;obtain⟨⟨⟨e0,e2⟩,p0,p2⟩,f0,f2⟩:=il;obtain⟨en,bw⟩:∃n:Nat,(AU k.XU j).e=(n:Int):=⟨(AU k.XU j).e.toNat,ω⟩
   obtain⟨pn,gM⟩:∃n:Nat,(AU k.XU j).p=(n:Int):=⟨(AU k.XU j).p.toNat,ω⟩
   obtain⟨fn,hfn⟩:∃n:Nat,(AU k.XU j).f=(n:Int):=⟨(AU k.XU j).f.toNat,ω⟩
   have TO:=AA (show DJ k (AU k.XU j)=(decide (0<=(AI k.XX en).root)&&decide (Cd k.mem (AI k.XX en).root.toNat (4*pn)=(0,fn,(AU k.XU j).w))) by unfold DJ;rw[bw,gM,hfn];rfl);have jq:en<3:=ω;have ko:pn<16:=ω;have KT:=AA (X3 (k:=k) bm);rw[bw] at D0;rw[gM] at D1;rw[hfn] at D2;generalize kI:(AU k.XU j).w=cw at*;obtain⟨wx,fg⟩:=Ec wr (.cells #[en,pn,fn,cw] 125);have ln:(j:Int)<k.XU.length:=ω;have pq:(j:Int)<4:=ω;have cz:=al.trans (fg.mono al.size);obtain⟨b,cC,ua,uc,rfl,hX,E0,E1,RR⟩:=HE en (by have:=T4.u;omega);replace E1:=(cz.cell (p:=⟨b,cC+en*2+1,none⟩) hX).trans E1;have x0:=(AH (AB HN cz)).1;have x2:=(AH (AB HN cz)).2.2.1;obtain⟨V,y1,y2,y3⟩:=AH wx;have mM:(en:Int)<k.XX.length:=by have:=T4.u;omega
   have a5:=AA cz;have pZ:=AA (oD en jq);have qv:=AA (yj bw (yj gM hfn));clear oI E0 RR fg al cz wx e0 e2 p0 p2 f0 f2 bw gM hfn mA
   by_cases c8:(AI k.XX en).root<0
   .have S:=AA (KT (by rw[TO.u];simp;omega))
    have bp:=a5.u;clear x0 y1 y2 y3;go_wp2;go_ret;exact⟨AF S.symm,av.trans (bp.mono av.size)⟩
   obtain⟨rn,gS⟩:∃n:Nat,(AI k.XX en).root=(n:Int):=⟨(AI k.XX en).root.toNat,ω⟩
   have g8:rn<12:=by
    have L:=pZ.u;unfold Ea at L;simp only[yC,xL,decide_eq_true_eq,Aa] at L
    rcases L.1.2 with h|h<;>omega
   have bE:=λW (hW:Γ W0 W0 W)=>XP _ k.mem rn (4*pn) W (H1.below hW) T1 g8 ω
   have jS:wr.heap.size<(wr.alloc (.cells #[en,pn,fn,cw] 125)).heap.size:=χ;rw[gS] at E1 TO c8;unfold Ix at bE;rw[(ω:((4*pn:Nat):Int)=(pn:Int)*4)] at bE;simp only[yq] at TO;obtain⟨code,fr,wb,hwp⟩:∃code fr wb,Cd k.mem rn (4*pn)=(code,fr,wb):=⟨_,_,_,rfl⟩
   simp only[hwp] at bE TO;clear hwp;have iM:=AA (show DJ k (AU k.XU j)=(decide (code=0)&&(decide (fr=fn)&&decide (wb=cw))) by
    rw[TO.u];have:(0:Int)<=(rn:Int):=ω;simp[this])
   by_cases gO:code=0
   .subst gO
    rw[if_pos rfl] at bE;unfold MU at bE;rw[(ω:((4*pn%4:Nat):Int)=0)] at bE;have CW:=AA bE;clear bE;go_wp2_with fail;refine(CW _ a5.u).mono ?_;rintro e w2 ⟨rfl,aq⟩;have b8:=a5.trans (aq.mono a5.size);replace y2:=(aq.cell (p:=⟨wr,2,none⟩) jS).trans y2;replace y3:=(aq.cell (p:=⟨wr,3,none⟩) jS).trans y3;clear x0 x2 E1 V y1 aq;have bp:=b8.trans ((AG w2 (.cells #[fr,θ,wb] 127)).mono b8.size);replace y2:=((AG w2 (.cells #[fr,θ,wb] 127)).cell (yK w2 _ y2)).trans y2;replace y3:=((AG w2 (.cells #[fr,θ,wb] 127)).cell (yK w2 _ y3)).trans y3;have HG:=AA bp;clear b8 bp c8
    by_cases b6:fr=fn
    .have t1:((fr:Int) !=(fn:Int))=false:=by simp[b6]
     by_cases g6:wb=cw
     .have S:=AA (show DJ k (AU k.XU j)=true by rw[iM.u];simp[b6,g6])
      subst g6;clear b6;cases wb
      all_goals
       go_wp2;go_roundw;exact⟨j+1,ω,ξ,Am bk S.u,HG.u⟩;simp[intOf];omega
     have S:=AA (KT (by rw[iM.u];simp[g6]))
     have hq:=AA g6;clear b6 g6;cases wb<;>cases cw
     .exact absurd rfl hq.u
     .go_wp2
      go_ret;exact⟨AF S.symm,av.trans (HG.mono av.size)⟩
     .go_wp2
      go_ret;exact⟨AF S.symm,av.trans (HG.mono av.size)⟩
     exact absurd rfl hq.u
    have t1:((fr:Int) !=(fn:Int))=true:=η;have S:=AA (KT (by rw[iM.u];simp[b6]));clear b6 y3;go_wp2;go_ret;exact⟨AF S.symm,av.trans (HG.mono av.size)⟩
   rw[if_neg gO] at bE
   unfold FY at bE;have CW:=AA bE;have t1:(code !=0)=true:=by simp[gO]
   have S:=AA (KT (by rw[iM.u];simp[gO]));clear bE gO;go_wp2_with (refine(CW _ a5.u).mono ?_;rintro e w2 ⟨rfl,aq⟩;have b8:=a5.trans (aq.mono a5.size);have HG:=AA (b8.trans ((AG w2 (.cells #[θ,θ,υ] 127)).mono b8.size));clear x0 x2 E1 V y1 y2 y3 aq b8 c8);go_ret;exact⟨AF S.symm,av.trans (HG.mono av.size)⟩
  have S:=AA (cE T1 T2 T3 T4 oD pT (λj' nX=>bk j' ω))
  have bp:=al;go_wp2;go_ret;exact⟨AF S.symm,av.trans (bp.mono av.size)⟩
 have S:=AA (Zl e4)
 have n4:((k.XX.length:Int) !=3)=true:=η;clear e4;go_wp2;go_ret;exact⟨AF S.symm,av.trans (O.mono av.size)⟩
theorem VO (m i e c:Φ)(k:AQ)(w:Ω)(h:Bn w m k.mem)(hm:CJ k.mem=true)(hE:Gf w e k.XX)(gX:k.XX.length=3)(hC:Ds w c k.XU)(il:Bl k.XU=true)(hr:∀j,j<3->(AI k.XX j).root<12):
 Ξ prog 87 #[.agg #[m,i,e,c]] w λr w'=>r=.returned (.bool (k.XU.all (DJ k)))/\Γ w w w':=by
 obtain⟨N0,ar⟩:=Ec w (.cells #[m,i,e,c] 28);replace h:=h.below ar;replace hC:=BN.below hC ar;obtain⟨ae,ce,rfl,mB,iI,gz⟩:=(hE.below ar).open;obtain⟨ac,cc,rfl,gh,mC,oF⟩:=BN.open Co ψ hC;have H1:=AA h;obtain⟨am,cm,rfl,_⟩:=h.open;have T1:=AA hm;have T3:=AA il;have T4:=AA gX;have Hr:=AA hr;have KT:=AA (λj (hj:j<k.XU.length) (hx:DJ k (AU k.XU j)=false)=>show k.XU.all (DJ k)=false from Jl (Fp hj) hx);clear hm il gX hr hE hC h;go_in;go_wp2_with fail;generalize w.alloc _=W0 at*;have HN:=AA N0;have HE:=AA gz;have H4:=AA oF;have mV:=AA (AY N0);have av:=AA ar;clear N0 gz oF ar;go_loopw [3] (λi wr=>∃j:Nat,j<=k.XU.length/\i=.int .i64 j/\(∀j',j'<j->DJ k (AU k.XU j')=true)/\Γ W0 W0 wr) (λi _=>k.XU.length - (intOf i).toNat)
 exact⟨0,yu _,rfl,λj hj=>absurd hj (xU _),yN _ _⟩
 obtain⟨j,hj,rfl,a3,al⟩:=hrel;have bk:=AA a3;clear a3;obtain⟨x0,_,x2,x3⟩:=AH (AB HN al)
 by_cases bm:j<k.XU.length
 .obtain⟨bi,au,rfl,gy,D0,D1,D2,D3⟩:=(H4.below al).zV bm
  have il:Cc (AU k.XU j)=true:=by have L:=T3.u;unfold Bl at L;simp only[yC,ym] at L;have K:=L.1 j (yh.2 bm);unfold DV at K;simp only[yC] at K;exact K.1
  unfold Cc at il;simp only[yC,Aa] at il;obtain⟨⟨⟨e0,e2⟩,p0,p2⟩,f0,f2⟩:=il;obtain⟨en,bw⟩:∃n:Nat,(AU k.XU j).e=(n:Int):=⟨(AU k.XU j).e.toNat,ω⟩
  obtain⟨pn,gM⟩:∃n:Nat,(AU k.XU j).p=(n:Int):=⟨(AU k.XU j).p.toNat,ω⟩
  obtain⟨fn,hfn⟩:∃n:Nat,(AU k.XU j).f=(n:Int):=⟨(AU k.XU j).f.toNat,ω⟩
  have TO:=AA (show DJ k (AU k.XU j)=(decide (0<=(AI k.XX en).root)&&decide (Cd k.mem (AI k.XX en).root.toNat (4*pn)=(0,fn,(AU k.XU j).w))) by unfold DJ;rw[bw,gM,hfn];rfl);have jq:en<3:=ω;have ko:pn<16:=ω;rw[bw] at D0;rw[gM] at D1;rw[hfn] at D2;generalize kI:(AU k.XU j).w=cw at*;obtain⟨wx,fg⟩:=Ec wr (.cells #[en,pn,fn,cw] 125);have ln:(j:Int)<k.XU.length:=ω;have mA:k.XU.length<=4:=by have L:=T3.u;unfold Bl at L;simp only[yC,decide_eq_true_eq] at L;exact L.2
  have pq:(j:Int)<4:=ω;have cz:=al.trans (fg.mono al.size);obtain⟨b,cC,ua,uc,rfl,hX,E0,E1,RR⟩:=HE en (by have:=T4.u;omega);replace E1:=(cz.cell (p:=⟨b,cC+en*2+1,none⟩) hX).trans E1;have nk:=(AH (AB HN cz)).1;have nh:=(AH (AB HN cz)).2.2.1;obtain⟨V,y1,y2,y3⟩:=AH wx;have mM:(en:Int)<k.XX.length:=by have:=T4.u;omega
  have a5:=AA cz;have fy:=Hr en jq;clear E0 RR fg al cz wx e0 e2 p0 p2 f0 f2 bw gM hfn
  by_cases c8:(AI k.XX en).root<0
  .have S:=AA (KT j bm (by rw[TO.u];simp;omega))
   have bp:=a5.u;go_wp2;go_ret;exact⟨AF S.symm,av.trans (bp.mono av.size)⟩
  obtain⟨rn,gS⟩:∃n:Nat,(AI k.XX en).root=(n:Int):=⟨(AI k.XX en).root.toNat,ω⟩
  have g8:rn<12:=ω;have bE:=λW (hW:Γ W0 W0 W)=>Ry _ k.mem rn (4*pn) W (H1.below hW) T1 g8 ω
  have jS:wr.heap.size<(wr.alloc (.cells #[en,pn,fn,cw] 125)).heap.size:=χ;rw[gS] at E1 TO c8;unfold Ix at bE;rw[(ω:((4*pn:Nat):Int)=4*(pn:Int))] at bE;simp only[yq] at TO;obtain⟨code,fr,wb,hwp⟩:∃code fr wb,Cd k.mem rn (4*pn)=(code,fr,wb):=⟨_,_,_,rfl⟩
  simp only[hwp] at bE TO;clear hwp gS fy;have iM:=AA (show DJ k (AU k.XU j)=(decide (code=0)&&(decide (fr=fn)&&decide (wb=cw))) by
   rw[TO.u];have:(0:Int)<=(rn:Int):=ω;simp[this])
  by_cases gO:code=0
  .subst gO
   rw[if_pos rfl] at bE;unfold MU at bE;rw[(ω:((4*pn%4:Nat):Int)=0)] at bE;have CW:=AA bE;clear bE;go_wp2_with fail;refine(CW _ a5.u).mono ?_;rintro e w2 ⟨rfl,aq⟩;have b8:=a5.trans (aq.mono a5.size);replace y2:=(aq.cell (p:=⟨wr,2,none⟩) jS).trans y2;replace y3:=(aq.cell (p:=⟨wr,3,none⟩) jS).trans y3;clear x0 x2 x3 nk nh E1 V y1 aq;have bp:=b8.trans ((AG w2 (.cells #[fr,θ,wb] 127)).mono b8.size);replace y2:=((AG w2 (.cells #[fr,θ,wb] 127)).cell (yK w2 _ y2)).trans y2;replace y3:=((AG w2 (.cells #[fr,θ,wb] 127)).cell (yK w2 _ y3)).trans y3;have HG:=AA bp;clear b8 bp c8
   by_cases b6:fr=fn
   .have t1:((fr:Int) !=(fn:Int))=false:=by simp[b6]
    by_cases g6:wb=cw
    .have S:=AA (show DJ k (AU k.XU j)=true by rw[iM.u];simp[b6,g6])
     subst g6;clear b6;cases wb
     all_goals
      go_wp2;go_roundw;exact⟨j+1,ω,ξ,Am bk S.u,HG.u⟩;simp[intOf];omega
    have S:=AA (KT j bm (by rw[iM.u];simp[g6]))
    have hq:=AA g6;clear b6 g6;cases wb<;>cases cw
    .exact absurd rfl hq.u
    .go_wp2
     go_ret;exact⟨AF S.symm,av.trans (HG.mono av.size)⟩
    .go_wp2
     go_ret;exact⟨AF S.symm,av.trans (HG.mono av.size)⟩
    exact absurd rfl hq.u
   have t1:((fr:Int) !=(fn:Int))=true:=η;have S:=AA (KT j bm (by rw[iM.u];simp[b6]));clear b6 y3;go_wp2;go_ret;exact⟨AF S.symm,av.trans (HG.mono av.size)⟩
  rw[if_neg gO] at bE
  unfold FY at bE;have CW:=AA bE;have t1:(code !=0)=true:=by simp[gO]
  have S:=AA (KT j bm (by rw[iM.u];simp[gO]));clear bE gO;go_wp2_with (refine(CW _ a5.u).mono ?_;rintro e w2 ⟨rfl,aq⟩;have b8:=a5.trans (aq.mono a5.size);have HG:=AA (b8.trans ((AG w2 (.cells #[θ,θ,υ] 127)).mono b8.size));clear x0 x2 x3 nk nh E1 V y1 y2 y3 aq b8 c8);go_ret;exact⟨AF S.symm,av.trans (HG.mono av.size)⟩
 have ek:j=k.XU.length:=ω;have a3:=bk.u;rw[ek] at a3;have S:=AA (show k.XU.all (DJ k)=true from Kd (f:=AU k.XU) (λk hk=>Fp hk) a3);have ln:¬(j:Int)<k.XU.length:=ω;clear bk a3;go_wp2;go_ret;exact⟨AF S.symm,av.trans (al.mono av.size)⟩
theorem LE (m i e c:Φ)(k:AQ)(w:Ω)(h:Nk w m i e c k)(hs:KH k):
 Ξ prog 40 #[.agg #[m,i,e,c]] w λr w'=>r=.returned (.bool (DG k))/\Γ w w w':=by
 obtain⟨N0,ar⟩:=Ec w (.cells #[m,i,e,c] 28);replace h:=h.below ar;have A:=AA h;have Hs:=AA hs;obtain⟨x0,z,x2,x3⟩:=AH N0;have KO:=AA (show DG k=(CJ k.mem&&BJ k.ZJ&&Bl k.XU&&Jm k&&(yL 12).all (EH k)&&(yL 12).all (IY k)&&k.XU.all (DJ k)) from rfl);clear h hs;go_in;go_wp2_with fail;generalize w.alloc _=W0 at*;have HN:=AA N0;have av:=AA ar;have O:Γ W0 W0 W0:=yN _ _;clear N0 ar;cases e1:CJ k.mem
 .have S:=AA (show DG k=false by rw[KO.u];simp[e1])
  have C:=JH m k.mem _ (A.1.below O);rw[e1] at C;clear e1;go_wp2_with (refine C.mono ?_;rintro r w_ ⟨rfl,b7⟩;clear x0 z x2 x3);go_ret;exact⟨AF S.symm,av.trans ((O.trans (b7.mono O.size)).mono av.size)⟩
 have C:=JH m k.mem _ (A.1.below O);rw[e1] at C;have T1:=AA e1;rw[e1] at KO;clear e1;go_wp2_with fail;refine C.mono ?_;rintro r w_ ⟨rfl,b7⟩;replace O:=O.trans (b7.mono O.size);clear b7 C x0 z x2 x3;obtain⟨x0,z,x2,x3⟩:=AH (AB HN O);cases e2:BJ k.ZJ
 .have S:=AA (show DG k=false by rw[KO.u];simp[e2])
  have C:=Dx i k.ZJ _ (BN.below A.2.1 O) Hs.1;rw[e2] at C;clear e2;go_wp2_with (refine C.mono ?_;rintro r w_ ⟨rfl,b7⟩;clear x0 z x2 x3);go_ret;exact⟨AF S.symm,av.trans ((O.trans (b7.mono O.size)).mono av.size)⟩
 have C:=Dx i k.ZJ _ (BN.below A.2.1 O) Hs.1;rw[e2] at C;have T2:=AA e2;rw[e2] at KO;clear e2;go_wp2_with fail;refine C.mono ?_;rintro r w_ ⟨rfl,b7⟩;replace O:=O.trans (b7.mono O.size);clear b7 C x0 z x2 x3;obtain⟨x0,z,x2,x3⟩:=AH (AB HN O);cases e3:Bl k.XU
 .have S:=AA (show DG k=false by rw[KO.u];simp[e3])
  have C:=Jp c k.XU _ (BN.below A.2.2.2 O);rw[e3] at C;clear e3;go_wp2_with (refine C.mono ?_;rintro r w_ ⟨rfl,b7⟩;clear x0 z x2 x3);go_ret;exact⟨AF S.symm,av.trans ((O.trans (b7.mono O.size)).mono av.size)⟩
 have C:=Jp c k.XU _ (BN.below A.2.2.2 O);rw[e3] at C;have T3:=AA e3;rw[e3] at KO;clear e3;go_wp2_with fail;refine C.mono ?_;rintro r w_ ⟨rfl,b7⟩;replace O:=O.trans (b7.mono O.size);clear b7 C x0 z x2 x3;obtain⟨x0,z,x2,x3⟩:=AH (AB HN O);cases e4:Jm k
 .have S:=AA (show DG k=false by rw[KO.u];simp[e4])
  have C:=QF m i e c k _ (A.1.below O) T1 (BN.below A.2.1 O) T2 (A.2.2.1.below O) Hs.2;rw[e4] at C;clear e4;go_wp2_with (refine C.mono ?_;rintro r w_ ⟨rfl,b7⟩;clear x0 z x2 x3);go_ret;exact⟨AF S.symm,av.trans ((O.trans (b7.mono O.size)).mono av.size)⟩
 have C:=QF m i e c k _ (A.1.below O) T1 (BN.below A.2.1 O) T2 (A.2.2.1.below O) Hs.2;rw[e4] at C;have T4:=AA e4;rw[e4] at KO;clear e4;go_wp2_with fail;refine C.mono ?_;rintro r w_ ⟨rfl,b7⟩;replace O:=O.trans (b7.mono O.size);clear b7 C x0 z x2 x3;obtain⟨x0,z,x2,x3⟩:=AH (AB HN O);have gX:dv (k.XX.length=3):=AA (by have:=T4.u;unfold Jm at this;rw[yC,decide_eq_true_eq] at this;exact this.2);have fy:dv (∀j,j<3->(AI k.XX j).root<12):=AA (by
  intro j hj;have h4:=T4.u;unfold Jm at h4;rw[yC,ym] at h4;have h5:=h4.1 _ (yw (LZ (show j<k.XX.length by have:=gX.u;omega)));unfold Ea at h5;simp only[yC,xL,decide_eq_true_eq,Aa] at h5
  rcases h5.1.2 with h|h<;>omega)
 cases e5:(yL 12).all (EH k)
 .have S:=AA (show DG k=false by rw[KO.u];simp[e5])
  have C:=NV m i e c k _ (A.1.below O) T1 (BN.below A.2.1 O) T2.u;rw[e5] at C;clear e5;go_wp2_with (refine C.mono ?_;rintro r w_ ⟨rfl,b7⟩;clear x0 z x2 x3);go_ret;exact⟨AF S.symm,av.trans ((O.trans (b7.mono O.size)).mono av.size)⟩
 have C:=NV m i e c k _ (A.1.below O) T1 (BN.below A.2.1 O) T2.u;rw[e5] at C;have T5:=AA e5;rw[e5] at KO;clear e5;go_wp2_with fail;refine C.mono ?_;rintro r w_ ⟨rfl,b7⟩;replace O:=O.trans (b7.mono O.size);clear b7 C x0 z x2 x3;obtain⟨x0,z,x2,x3⟩:=AH (AB HN O);cases e6:(yL 12).all (IY k)
 .have S:=AA (show DG k=false by rw[KO.u];simp[e6])
  have C:=QG m i e c k _ (A.1.below O) T1 (BN.below A.2.1 O) T2 (A.2.2.1.below O) gX fy.u;rw[e6] at C;clear e6;go_wp2_with (refine C.mono ?_;rintro r w_ ⟨rfl,b7⟩;clear x0 z x2 x3);go_ret;exact⟨AF S.symm,av.trans ((O.trans (b7.mono O.size)).mono av.size)⟩
 have C:=QG m i e c k _ (A.1.below O) T1 (BN.below A.2.1 O) T2 (A.2.2.1.below O) gX fy.u;rw[e6] at C;have T6:=AA e6;rw[e6] at KO;clear e6;go_wp2_with fail;refine C.mono ?_;rintro r w_ ⟨rfl,b7⟩;replace O:=O.trans (b7.mono O.size);clear b7 C x0 z x2 x3;obtain⟨x0,z,x2,x3⟩:=AH (AB HN O);have C:=VO m i e c k _ (A.1.below O) T1 (A.2.2.1.below O) gX (BN.below A.2.2.2 O) T3 fy.u;have S:=AA (show DG k=k.XU.all (DJ k) by rw[KO.u];simp);go_wp2_with (refine C.mono ?_;rintro r w_ ⟨rfl,b7⟩);go_ret;exact⟨AF S.symm,av.trans ((O.trans (b7.mono O.size)).mono av.size)⟩
theorem aI{c:Φ}(h:Iv lo w g m i e c k)(a8:lo<=w.heap.size)(hK:Dg k)(call:AV)(he:0<=call.e)(R:call.e<3):
 Ξ prog 129 #[call.on g] w (EL lo g w (Lt k call)):=by
 obtain⟨wx,ar⟩:=Ec w (.cells (call.onCells g) 97);have S0:=Ep.start h a8 call;have C0:=AA (λW=>A7 (EA call.a W));have i7:=XE (k:=k) (c:=call);obtain⟨k1,e1,a1,b1,c1,nm⟩:=call;obtain⟨en,rfl⟩:∃n:Nat,e1=(n:Int):=⟨e1.toNat,by simp only at he;omega⟩
 have bw:en<3:=by simp only at R;omega
 simp only[AV.on,AV.onCells] at wx ar C0 i7 S0 ⊢;simp only[yq] at i7;replace i7:=AA i7;obtain⟨V,y1,y2,y3,y4,y5,y6⟩:=Et (c:=⟨k1,(en:Int),a1,b1,c1,nm⟩) wx;have hl:=AY wx;have HN:=AA wx;have A:=AA hK;obtain⟨ge,ex,e9,_,⟨⟨iB,iA⟩,iz,iy⟩,_⟩:=S0.XX (by rw[hK.zX];omega);rw[hK.zX] at e9;obtain⟨gi,b9,e8,_,_,⟨⟨iw,iu⟩,it,ir⟩,_⟩:=S0.ZJ (by rw[hK.len];omega);rw[hK.len] at e8;subst e8 e9;obtain⟨qg,qh⟩:=S0.infos_envs;have HI:=AA h;have mY:=AA S0;clear hK h wx y1 y2 y4 y5 y6 S0;obtain⟨bad,dr⟩:∃b',decide (a1≠ -1/\(Bo a1 0 11=false∨(JK k.ZJ a1.toNat).k≠3))=b':=⟨_,rfl⟩
 have HB:=AA dr;clear dr;go_in;go_upto_region 2 with fail;generalize hW0:w.alloc _=W0 at*;clear hW0;go_cut [26] (λoP N=>oP=.bool bad/\CS lo g w ⟨k1,(en:Int),a1,b1,c1,nm⟩ w N m (.slice gi 12 b9) (.slice ge 3 ex) c k)
 case first=>
  by_cases e1:a1= -1
  .have t1:(a1 != -1)=false:=by simp[e1]
   have E1:=AA e1;clear e1;go_wp2_with fail;go_meet
   case rel=>exact⟨by rw[<-HB.u];simp[E1.u],mY.u⟩
  have t1:(a1 != -1)=true:=by simp[e1]
  have E1:=AA e1;clear e1;go_wp2_with fail;refine(C0 W0).mono ?_;rintro r w1 ⟨rfl,bl⟩;have S1:=AA (mY.below bl);clear V bl;cases e2:Bo a1 0 11
  .have E2:=AA e2
   clear e2;go_wp2_with fail;go_meet
   case rel=>exact⟨by rw[<-HB.u];simp[E1.u,E2.u],S1.u⟩
  have E2:=AA e2;have ab:=Aa.1 e2;obtain⟨Z,rfl⟩:∃n:Nat,a1=(n:Int):=⟨a1.toNat,ω⟩
  have bA:Z<k.ZJ.length:=by rw[A.len];omega
  have ju:(Z:Int)<12:=ω;obtain⟨V,_,_,_,_,_,_⟩:=S1.ys;obtain⟨d0,_,_⟩:=S1.JK bA;have z:=S1.xs.2.1;clear e2 ab
  by_cases e3:(JK k.ZJ Z).k=3
  .have t3:((JK k.ZJ Z).k !=3)=false:=by simp[e3]
   have E3:=AA e3;clear e3;go_wp2_with fail;go_meet
   case rel=>exact⟨by rw[<-HB.u];simp[E1.u,E2.u,E3.u],S1.u⟩
  have t3:((JK k.ZJ Z).k !=3)=true:=by simp[e3]
  have E3:=AA e3;clear e3;go_wp2_with fail;go_meet
  case rel=>exact⟨by rw[<-HB.u];simp[E1.u,E2.u,E3.u],S1.u⟩
 case rest=>
 obtain⟨rfl,hS⟩:=hcut;obtain⟨W2,rfl⟩:∃W2,W2=wc:=⟨_,rfl⟩
 have HS:=AA hS;clear V hS mY;cases bad
 rotate_left
 .have vs:=AA (i7.trans (if_pos (of_decide_eq_true HB.u)))
  clear i7 HB;go_wp2;go_ret;exact EL.bad vs ψ HS.bel
 have ik:=of_decide_eq_false HB.u;have cq:=AA (i7.trans (if_neg ik));have ha: -1<=a1/\a1<12:=by
  by_cases e1:a1= -1
  .omega
  cases e2:Bo a1 0 11
  .exact absurd ⟨e1,.inl e2⟩ ik
  have:=Aa.1 e2;omega
 have Ha:=AA ha;clear i7 HB ik ha;go_wp2_with fail;have ls:=HS.zg;obtain⟨V,y1,y2,y3,y4,y5,y6⟩:=HS.ys;obtain⟨x0,z,x2,_⟩:=HS.xs;obtain⟨fb,fm,ki,kj⟩:=HS.lts;obtain⟨ua,uc,D0,_,hn⟩:=HS.env (j:=en) (by rw[A.zX];exact bw);have CE:=AA (λW (hW:Γ W2 W2 W)=>HS.callEnv (en:=en) rfl bw W hW);simp only[AV.on,AV.onCells] at CE;have RM:Bn W2 m k.mem:=HS.yS.2.2.rd.1;have kZ:Bh W2 (.slice gi 12 b9) k.ZJ:=HS.yS.2.2.2.1.rd;have CX:=AA (λW (hW:Γ W2 W2 W)=>Lm m k.mem a1 W (RM.below hW) (Ap A.u).1 Ha.2);have CA:=AA (λW (hW:Γ W2 W2 W) v2 ts (K:A3 W v2 (A8 ts)) (hm:∀g,g∈ts↔g∈Bi k.mem a1)=>by have:=JT g _ v2 _ (AI k.XX en).PQ ts k.ZJ W ((hW.cell (p:=⟨g,1,none⟩) fm).trans z) (BN.below hn hW) (BN.below kZ hW) K (λf hf=>by have:=zG Ha.2 f ((hm f).1 hf);have:=A.len;omega);rw[Fo hm] at this;exact this);have hp:=cq.u;generalize im:BO k.ZJ (Bi k.mem a1) (AI k.XX en).PQ=bb at CA hp;have cq:=AA hp;clear im RM kZ hn z x2 hp;refine BD 15 94 [.p w.heap.size 0,.p g 0,.a #[.pointer (some ⟨g,0,none⟩),.int .i64 k1,.int .i64 en,.int .i64 a1,.int .i64 b1,.int .i64 c1,.string nm],.p ge (en*2),.p ge (en*2),.p ge (en*2),.v (.slice ua (AI k.XX en).PQ.length uc),.p w.heap.size 0,.p g 0,.p g 0,.p g 0,.v m,.i a1,.z,.b bb] (λix vv ww=>match ix with
  |13=>FW W2 k.mem (a1) ww vv
  |_=>True) ?_ ?_ ?_
 .intro i D o X a N Y H J h2 A
  have a6:=bc J fb V;have ay:=bc J fb y1;have az:=bc J fb y2;have br:=bc J fb y3;have ei:=bc J fb y4;have ie:=bc J fb y5;have jf:=bc J fb y6;have jM:=bc J ls D0;have jL:=bc J fm x0
  match i,D with
  |0,_|4,_|5,_|7,_|9,_|10,_|12,_=>exact sP X A Y H
  |1,_|8,_=>exact sL X A Y H (hl:=Of ‹_›)
  |2,_=>exact sL X A Y H (hl:=fY ‹_› ‹_› ‹_› ‹_› ‹_› ‹_› ‹_›)
  |3,_=>exact sD X A Y H (CE _ J)
  |6,_=>exact sL X A Y H (hl:=Kt ‹_›)
  |11,_=>exact sL X A Y H (hl:=GR ‹_›)
  |13,_=>exact sC X A Y H (CX _ J) (by rintro e w_ ⟨v',ts,rfl,hO,b5,_,aq⟩;exact⟨_,rfl,⟨ts,BS hO J.size,b5⟩,aq⟩)
  |14,_=>clear a6 ay az br ei ie jf jM jL;obtain rfl:=yP X;have d1:(a.tmps[28]?.getD Θ)=.pointer g:=Bd H 1;have d6:(a.tmps[33]?.getD Θ)=.slice ua (AI k.XX en).PQ.length uc:=Bd H 6;have gZ:FW W2 k.mem (a1) N (a.tmps[40]?.getD Θ):=Bd H 13;clear H Y;generalize e40:a.tmps[40]?.getD Θ=v2 at gZ;obtain⟨ts,hO,b5⟩:=gZ;have iO:=CA N J v2 ts (AE.rd hO) b5;refine yO ?_;go_simp;refine iO.mono ?_;rintro e w_ ⟨rfl,aq⟩;exact A _ _ rfl aq
  |_+15,hq=>omega
 .intro i D vv wz c7 bf hz
  match i,D with
  |13,_=>exact(FW.below hz bf)
  |0,_|1,_|2,_|3,_|4,_|5,_|6,_|7,_|8,_|9,_|10,_|11,_|12,_|14,_=>exact hz
  |_+15,hq=>omega
 intro E N hR J
 have iQ:(E 14)=.bool bb:=Be hR 14;clear hR;simp only[Aj,Ae,yL,yI,yJ,yH,iQ];simp;clear iQ;have S1:=AA (HS.below J);clear D0 V y1 y2 y3 y4 y5 y6 x0;cases bb
 .have vs:=AA (cq.trans (if_pos rfl))
  clear cq;go_wp2;go_ret;exact EL.bad vs ψ S1.bel
 have cg:=AA (cq.trans (if_neg χ));obtain⟨V,y1,y2,y3,y4,y5,y6⟩:=S1.ys;clear cq;go_wp2_with fail;refine(CE _ J).mono ?_;rintro r w3 ⟨rfl,ed⟩;have S3:=AA (S1.below ed);obtain⟨_,_,_,D1,_⟩:=S3.env (j:=en) (by rw[A.zX];exact bw);have hp:=cg.u;have bY:=zK A bw;obtain⟨rt,fy⟩:∃r,(AI k.XX en).root=r:=⟨_,rfl⟩
 rw[fy] at D1 hp bY;have cg:=AA hp;clear V y1 y2 y3 y4 y5 y6 J ed hp fy CE CX CA;go_upto_if 49 with fail;clear D1;obtain⟨U,hU⟩:∃U,GF k.ZJ rt=U:=⟨_,rfl⟩
 have hp:=cg.u;rw[hU] at hp;have cg:=AA hp;have HU:=AA hU;clear hU hp;go_cut [] (λN=>CS lo g w ⟨k1,(en:Int),a1,b1,c1,nm⟩ w N m (.slice gi 12 b9) (.slice ge 3 ex) c {k with ZJ:=U})
 case first=>
  obtain⟨V,_,_,_,_,_,_⟩:=S3.ys
  by_cases X:rt<0
  .have hu:U=k.ZJ:=by rw[<-HU.u];unfold GF;rw[if_neg ω]
   subst hu;have t5:¬(0:Int)<=rt:=ω;clear X;go_wp2_with fail;go_meet;exact S3.u
  obtain⟨rn,rfl⟩:∃n:Nat,rt=(n:Int):=⟨rt.toNat,ω⟩
  have gS:rn<12:=ω;have hu:U=An k.ZJ rn (JD (-1)):=by rw[<-HU.u];unfold GF;rw[if_pos ω,yq]
  subst hu;have t5:(0:Int)<=(rn:Int):=ω;have jQ:(rn:Int)<12:=ω;obtain⟨_,_,d2⟩:=S3.JK (f:=rn) (by rw[A.len];exact gS);have rf:=A.yZ gS;have z:=S3.xs.2.1;have Fr:=S3.fzi (rn*3+2);have S4:=AA (S3.info A.len.symm (by rw[A.len];exact gS) (-1));clear X bY;go_wp2_with fail;go_meet;exact S4.u
 case rest=>
 obtain⟨W4,rfl⟩:∃W4,W4=wc:=⟨_,rfl⟩
 have S4:=AA hcut;have nD:U.length=12/\∀f,f<12->0 - 1<=(JK U f).r/\(JK U f).r<=47:=by
  rw[<-HU.u];unfold GF
  split
  .refine⟨by rw[DU,A.len],λf hf=>?_⟩
   have r1:=A.yZ hf;rw[Fu]
   split
   .next hx=>have r2:=A.yZ (ω:rt.toNat<12);show 0 - 1<=(JK k.ZJ _).r+ -1/\(JK k.ZJ _).r+ -1<=47;omega
   omega
  exact⟨A.len,λf hf=>by have r1:=A.yZ hf;omega⟩
 have lG:=AA nD;have m9:=S4.callEnv (en:=en) rfl bw W4 (yN _ _);simp only[AV.on,AV.onCells] at m9;obtain⟨V,y1,y2,y3,y4,y5,y6⟩:=S4.ys;clear hcut nD HU S3;go_wp2_with fail;clear V y1 y2 y3 y4 y5 y6;refine m9.mono ?_;rintro r4 w5 ⟨rfl,iV⟩;have S5:=AA (S4.below iV);obtain⟨_,_,_,D1,_⟩:=S5.env (j:=en) (by show en<k.XX.length;rw[A.zX];exact bw);have Fe:=S5.fze (en*2+1);have S6:=AA (S5.root A.zX.symm (by show en<k.XX.length;rw[A.zX];exact bw) a1);clear m9 iV;go_upto_if 68 with fail;clear D1 Fe;generalize w5.setCell _ _=w6 at*;obtain⟨y0,hV⟩:∃y0,KV U a1=y0:=⟨_,rfl⟩
 have hp:=cg.u;rw[hV] at hp;have cg:=AA hp;have HV:=AA hV;clear hV hp S5 S4;go_cut [] (λN=>CS lo g w ⟨k1,(en:Int),a1,b1,c1,nm⟩ w N m (.slice gi 12 b9) (.slice ge 3 ex) c {k with ZJ:=y0,XX:=An k.XX en (ET a1)})
 case first=>
  obtain⟨V,_,_,y3,_,_,_⟩:=S6.ys
  by_cases R:0<=a1
  .obtain⟨Z,rfl⟩:∃n:Nat,a1=(n:Int):=⟨a1.toNat,ω⟩
   have hv:y0=An U Z (JD 1):=by rw[<-HV.u];unfold KV;rw[if_pos ω,yq]
   subst hv;have bA:Z<12:=by have:=Ha.u;omega
   have ju:(Z:Int)<12:=ω;have z:=S6.xs.2.1;obtain⟨_,_,d2⟩:=S6.JK (f:=Z) (by show Z<U.length;rw[lG.1];exact bA);have Fr:=S6.fzi (Z*3+2);have p9:=lG.2 Z bA;have S7:=AA (S6.info (by show 12=U.length;exact lG.1.symm) (f:=Z) (by show Z<U.length;rw[lG.1];exact bA) 1);simp only at S7 d2;generalize hrv:(JK U Z).r=rv at*;clear hrv;go_wp2_with fail;go_meet;exact S7.u
  have hv:y0=U:=by rw[<-HV.u];unfold KV;rw[if_neg R]
  subst hv;go_wp2_with fail;go_meet;exact S6.u
 case rest=>
 obtain⟨W7,rfl⟩:∃W7,W7=wc:=⟨_,rfl⟩
 have S7:=AA hcut;clear hcut S6 HV;obtain⟨V,y1,y2,_,_,_,_⟩:=S7.ys;obtain⟨x0,_,_,x3⟩:=S7.xs;obtain⟨hJ,jp,ki,kj⟩:=S7.lts;have RC:Ds W7 c k.XU:=S7.yS.2.2.2.2.2.rd;have CD:=AA (λW (hW:Γ W7 W7 W)=>NI c k.XU (en:Int) W (BN.below RC hW) (Ap A.u).2.2);clear RC x0 y1;go_wp2_with fail;refine BD 13 94 [.p w.heap.size 0,.p g 0,.p w.heap.size 0,.p g 0,.p g 0,.p g 3,.v c,.p w.heap.size 1,.p w.heap.size 2,.i ((en:Int)),.z,.p g 0,.p g 3] (λix vv ww=>match ix with
  |10=>AP W7.heap.size 125 4 AZ ww vv (Gb k.XU (en:Int))
  |_=>True) ?_ ?_ ?_
 .intro i D o X a N Y H J h2 A
  have a6:=bc J hJ V;have ay:=bc J jp x3;have az:=bc J hJ y2
  match i,D with
  |0,_|2,_|4,_|5,_|7,_|8,_|11,_|12,_=>exact sP X A Y H
  |1,_|3,_=>exact sL X A Y H (hl:=Of ‹_›)
  |6,_=>exact sL X A Y H (hl:=YF ‹_›)
  |9,_=>exact sL X A Y H (hl:=F7 ‹_›)
  |10,_=>exact sC X A Y H (CD _ J) (by rintro e w_ ⟨v',rfl,hO,aq⟩;exact⟨_,rfl,(hO.lower J.size),aq⟩)
 .intro i D vv wz c7 bf hz
  match i,D with
  |10,_=>exact(AP.below hz bf)
  |0,_|1,_|2,_|3,_|4,_|5,_|6,_|7,_|8,_|9,_|11,_|12,_=>exact hz
 intro E N hR J
 have q1:(E 1)=.pointer g:=Be hR 1;have id:AP W7.heap.size 125 4 AZ N (E 10) (Gb k.XU (en:Int)):=Be hR 10;have iR:(E 11)=.pointer g:=Be hR 11;have g4:(E 12)=.pointer (some ⟨g,3,none⟩):=Be hR 12;clear hR;simp only[Aj,Ae,yL,yI,yJ,yH,q1,iR,g4];simp;generalize E 10=z10 at id ⊢;clear q1 iR g4;have S8:=AA (S7.XU J id);have kS:=AK (S7.below J).yS.1;have nf:=(S7.below J).xs.2.2.2;obtain⟨_,_,rfl,_,_⟩:=id.rd.shape;clear id J V y2 x3;go_wp2;go_ret;exact⟨by rw[cg.u];rfl,λ_=>⟨_,_,_,_,by rw[cg.u];exact S8.yS⟩,S8.bel⟩
theorem Pq{a b c:Φ}(h:w'.heap[q]?=some (.cells #[x,y,x1] T (0,0)))(O:Γ W W w')(hq:W.heap.size<=q):
 (((w'.setCell q a).setCell (q,1) b).setCell (q,2) c).heap[q]?=some (.cells #[a,b,c] T (0,0))/\Γ W W (((w'.setCell q a).setCell (q,1) b).setCell (q,2) c):=by
 refine⟨?_,((O.setCell hq _).setCell hq _).setCell hq _⟩;have L:=yA w' q 0 _ T a h;have K:=yA _ q 1 _ T b L;have h3:=yA _ q 2 _ T c K;simpa using h3
def GL(lo:Nat)(b:Bool)(v:Φ)(w:Ω)(f a:Int)(t:Bool):Prop:=∃q,v=.pointer (some ⟨q,0,none⟩)/\lo<=q/\w.heap[q]?=some (.cells (if b then #[.int .i64 f,.int .i64 a,.bool t] else #[.int .i64 0,.int .i64 0,.bool false]) 127 (0,0))
theorem GL.below{b:Bool}{f a:Int}(h:GL lo b v w f a t)(O:Γ w w w'):GL lo b v w' f a t:=by obtain⟨q,h0,L,K⟩:=h;exact⟨q,h0,L,AB K O⟩
theorem GL.zero{b:Bool}{f a:Int}(O:b=false)(hq:lo<=q)(hh:w.heap[q]?=some (.cells #[θ,θ,υ] 127 (0,0))):GL lo b (.pointer q) w f a t:=⟨q,rfl,hq,by rw[O];exact hh⟩
theorem dH{c:Φ}(h:Iv lo w g m i e c k)(a8:lo<=w.heap.size)(hK:Dg k)(call:AV)(he:0<=call.e)(R:call.e<3)(hk:call.k=10∨call.k=11):
 Ξ prog 132 #[call.on g] w (GZ lo g w (PA k call)):=by
 have S0:=Ep.start h a8 call;have C0:=AA (λW=>A7 (FD call.a W));have C1:=AA (λW=>A7 (Gp call.b W));have P:=ZE (k:=k) (c:=call);obtain⟨k1,e1,a1,b1,c1,nm⟩:=call;obtain⟨en,rfl⟩:∃n:Nat,e1=(n:Int):=⟨e1.toNat,by simp only at he;omega⟩
 have bw:en<3:=by simp only at R;omega
 simp only[AV.on,AV.onCells] at C0 C1 S0 P hk ⊢;simp only[yq] at P;obtain⟨ge,ex,e9,_,⟨⟨iB,iA⟩,iz,iy⟩,_⟩:=S0.XX (by rw[hK.zX];omega);rw[hK.zX] at e9;obtain⟨gi,b9,e8,_,_,⟨⟨iw,iu⟩,it,ir⟩,_⟩:=S0.ZJ (by rw[hK.len];omega);rw[hK.len] at e8;obtain⟨gm,bC,e7,_,⟨je,jd⟩,jc,jb⟩:=S0.mems (Ap hK).1;subst e7 e8 e9;obtain⟨V,y1,y2,y3,y4,y5,y6⟩:=S0.ys;have A:=AA hK;have HS:=AA S0;have CE:=AA (λW (hW:Γ (w.alloc (.cells #[.pointer g,k1,en,a1,b1,c1,nm] 97)).heap.size _ W)=>HS.callEnv (en:=en) rfl bw W hW);simp only[AV.on,AV.onCells] at CE;clear hK h S0 a8 he R hk;obtain⟨st,hst⟩:∃b',(k1==11)=b':=⟨_,rfl⟩
 go_in;have jE:=AA hst;have ox:=AA P;clear hst P;go_upto_region 1 with fail;generalize hW0:w.alloc _=W0 at*;clear hW0;go_cut [4] (λs4 N=>s4=.bool st/\N=W0)
 case first=>
  cases tk:(k1==11)
  all_goals
   have TK:=jE.u;rw[tk] at TK;subst TK;go_wp2_with fail;go_meet
   case rel=>exact⟨rfl,rfl⟩
 case rest=>
 obtain⟨rfl,rfl⟩:=hcut;obtain⟨W0,rfl⟩:∃W0,W0=wc:=⟨_,rfl⟩
 go_wp2_with fail;refine(CE _ (yN _ _)).mono ?_;rintro r W1 ⟨rfl,bl⟩;have S1:=AA (HS.below bl);clear V y1 y2 y3 y4 y5 y6;obtain⟨V,y1,y2,y3,y4,y5,y6⟩:=S1.ys;obtain⟨_,_,_,D1,_⟩:=S1.env (j:=en) (by rw[A.zX];exact bw);obtain⟨rt,fy⟩:∃r,(AI k.XX en).root=r:=⟨_,rfl⟩
 have P:=ox.u;rw[fy] at P D1;have HR:=AA fy;clear ox;have HP:=AA P;obtain⟨bad,dr⟩:∃b',decide (Bo a1 0 63=false∨rt<0∨(k1=11/\EJ b1=false))=b':=⟨_,rfl⟩
 have HB:=AA dr;clear bl P fy dr;go_upto_region 3 with fail;clear D1;go_cut [4,38] (λs4 oO N=>s4=.bool st/\oO=.bool bad/\CS lo g w ⟨k1,(en:Int),a1,b1,c1,nm⟩ w N (.slice gm 12 bC) (.slice gi 12 b9) (.slice ge 3 ex) c k)
 case first=>
  go_wp2_with fail;refine(C0 W1).mono ?_;rintro r w1 ⟨rfl,bl⟩;have S2:=AA (S1.below bl);clear V y1 y2 y3 y4 y5 y6 bl;obtain⟨V,y1,y2,y3,y4,y5,y6⟩:=S2.ys;cases e1:Bo a1 0 63
  .have E1:=AA e1
   clear e1;go_wp2_with fail;go_meet
   case rel=>exact⟨rfl,by rw[<-HB.u];simp[E1.u],S2.u⟩
  have E1:=AA e1;clear e1
  by_cases h0:rt<0
  .have H0:=AA h0
   go_wp2_with fail;go_meet
   case rel=>exact⟨rfl,by rw[<-HB.u];simp[H0.u],S2.u⟩
  have H0:=AA h0;cases tk:st
  .have TK:=AA (show k1≠11 by have:=jE.u;rw[tk] at this;simpa using this)
   go_wp2_with fail;go_meet
   case rel=>exact⟨by rw[tk],by rw[<-HB.u];simp[E1.u,H0.u,TK.u],S2.u⟩
  have TK:=AA (show k1=11 by have:=jE.u;rw[tk] at this;simpa using this);go_wp2_with fail;refine(C1 _).mono ?_;rintro r w2 ⟨rfl,aq⟩;have S3:=AA (S2.below aq);clear V y1 y2 y3 y4 y5 y6 aq;go_wp2_with fail;go_meet
  case rel=>exact⟨by rw[tk],by rw[<-HB.u];unfold EJ;cases hw:Bo b1 0 9999<;>simp[E1.u,H0.u,TK.u,hw],S3.u⟩
 case rest=>
 obtain⟨rfl,rfl,hS⟩:=hcut;obtain⟨W5,rfl⟩:∃W5,W5=wc:=⟨_,rfl⟩
 have S5:=AA hS;clear V y1 y2 y3 y4 y5 y6 hS S1;cases bad
 rotate_left
 .have vs:=AA (HP.trans (if_pos (of_decide_eq_true HB.u)))
  clear HP HB;go_wp2;go_ret2;exact GZ.bad vs ψ S5.bel
 go_wp2_with fail;have ik:=of_decide_eq_false HB.u;have ig:=HP.trans (if_neg ik);have ab:=Aa.1 (show Bo a1 0 63=true by cases e1:Bo a1 0 63;(· exact absurd (.inl e1) ik);(· rfl));obtain⟨Z,rfl⟩:∃n:Nat,a1=(n:Int):=⟨a1.toNat,ω⟩
 have bA:Z<64:=ω;obtain⟨rn,rfl⟩:∃n:Nat,rt=(n:Int):=⟨rt.toNat,by have:¬rt<0:=λx=>ik (.inr (.inl x));omega⟩
 have bY:rn<12:=by have:=zK A bw;rw[HR.u] at this;omega
 simp only[yq] at ig;clear HP HB ik ab;have bE:=λW (hW:Γ W5 W5 W)=>XP _ k.mem rn Z W (S5.yS.2.2.rd.1.below hW) (Ap A.u).1 bY bA
 have gl:=A.zb (e:=en) (a:=Z) bw (by show(0:Int)<=(AI k.XX en).root;rw[HR.u];omega);unfold Ix MU FY at bE;unfold Ab at gl;rw[HR.u] at gl;simp only[yq] at gl;obtain⟨a4,ha4e⟩:∃n,n=Z%4:=⟨_,rfl⟩
 simp only[<-ha4e] at bE;have om:a4<4:=ω;rw[(ω:((Z:Int)%4).toNat=a4)] at ig;clear ha4e;generalize hwp:Cd k.mem rn Z=x at*;obtain⟨cp,fp,wp⟩:=x;simp only at bE ig gl;obtain⟨V,y1,y2,y3,y4,y5,y6⟩:=S5.ys;obtain⟨x0,_,_,_⟩:=S5.xs;obtain⟨c6,kC,ki,kj⟩:=S5.lts
 by_cases e7:cp=0
 rotate_left
 .have vs:=AA (ig.trans (if_pos e7))
  rw[if_neg e7] at bE;have CW:=AA bE;have qA:(cp !=0)=true:=by simp[e7]
  clear bE gl hwp e7 ig;refine Cv 16 121 (λix=>ix==14) [.p w.heap.size 0,.p g 0,.p g 0,.p g 0,.s gm 12 bC,.i ((rn:Int)),.p w.heap.size 1,.p w.heap.size 3,.i ((Z:Int)),.v (.tuple #[.agg #[θ,θ,υ],cp]),.v (.tuple #[.agg #[θ,θ,υ],cp]),.a #[.int .i64 0,.int .i64 0,.bool false],.i cp,.z,.z,.i cp] (λll ix vv ww=>match ix with
   |13=>GL W5 (ll 14) vv ww (0) (0) false
   |_=>True) (λll ww=>Γ W5 W5 ww) ?_ ?_ ?_ ?_ ?_ ?_
  .exact Ai (yN _ _) 1
  .intro j hj ll i vv wz c7 D hS kO og bf hz
   match j,hj with
   |13,_=>exact(GL.below (by rw[E9 (by rintro rfl;cases hS)];exact hz) bf)
   |0,_|1,_|2,_|3,_|4,_|5,_|6,_|7,_|8,_|9,_|10,_|11,_|12,_|14,_|15,_=>exact hz
   |_+16,hq=>omega
  .intro ll i wz c7 D hS kO bf hg
   exact hg.trans (bf.mono hg.size)
  .intro i D hS o X a N Y ll H HL J h2 A
   have a6:=bc J c6 V;have ay:=bc J kC x0;have az:=bc J c6 y3
   match i,D,hS with
   |0,_,_|2,_,_|3,_,_|5,_,_|6,_,_|7,_,_|10,_,_|11,_,_|12,_,_|15,_,_=>exact Tj X A Y H HL
   |1,_,_=>exact Kf X A Y H HL (hl:=Of ‹_›)
   |4,_,_=>exact Kf X A Y H HL (hl:=GR ‹_›)
   |8,_,_=>exact Kf X A Y H HL (hl:=F7 ‹_›)
   |9,_,_=>exact gG X A Y H HL (CW _ J)
   |14,_,hs=>cases hs
   |13,_,_=>clear a6 ay az;obtain rfl:=yP X;have lN:=A6 HL 14;clear H Y;refine yO ?_;go_simp;exact A _ _ (GL.zero (by rw[E9 ψ];exact lN) J.size (yy _ _)) (AG _ _)
   |_+16,hq,_=>omega
  .intro i D hS o X a N Y ll H HL J h2 A
   match i,D,hS with
   |0,_,hs|1,_,hs|2,_,hs|3,_,hs|4,_,hs|5,_,hs|6,_,hs|7,_,hs|8,_,hs|9,_,hs|10,_,hs|11,_,hs|12,_,hs|13,_,hs|15,_,hs=>cases hs
   |14,_,_=>
    obtain rfl:=yP X;have gZ:GL W5 (ll 14) (a.tmps[6]?.getD Θ) N (0) (0) false:=Cr H HL 13;have gj:(a.tmps[50]?.getD Θ)=.agg #[θ,θ,υ]:=Cr H HL 11;clear H Y;obtain⟨q,mQ,jR,c5⟩:=gZ;rw[HL.1] at c5;replace c5:N.heap[q]?=some (.cells #[θ,θ,υ] 127 (0,0)):=c5;have c0:=yx _ _ 0 _ _ _ c5;have pK:=yx _ _ 1 _ _ _ c5;have c2:=yx _ _ 2 _ _ _ c5;have fq:=AK c5;have Pl:=AA (Pq (W:=W5) (a:=.int .i64 0) (b:=.int .i64 0) (c:=.bool false) c5 J jR);have m3:=AA mQ;clear c5;refine yO ?_;go_simp;exact A Θ _ trivial Pl.2 (λj jV kz jn hu=>match j,kz with
     |0,_|1,_|2,_|3,_|4,_|5,_|6,_|7,_|8,_|9,_|10,_|11,_|12,_|14,_|15,_=>hu
     |13,_=>⟨q,m3.u,jR,by rw[Fh];exact Pl.1⟩
     |_+16,hq=>absurd hq ω)
   |_+16,hq,_=>omega
  intro E N ll eL hR J
  have iR:(E 11)=.agg #[θ,θ,υ]:=Be hR 11;have g4:(E 12)=.int .i64 cp:=Be hR 12;have gK:GL W5 (ll 14) (E 13) N (0) (0) false:=Be hR 13;have fl:(E 15)=.int .i64 cp:=Be hR 15;clear hR;simp only[DD,Bj,yL,yI,yJ,yH,iR,g4,fl];simp;generalize E 13=z13 at gK ⊢;clear iR g4 fl;have S6:=AA (S5.below J);clear x0 V y1 y2 y3 y4 y5 y6 J eL gK;go_wp2;go_ret2;exact GZ.bad vs ψ S6.bel
 subst e7;simp only[if_true] at bE;have CW:=AA bE;have lD:=AA (gl rfl).1;have j6:=AA (ig.trans (if_neg χ));clear bE gl hwp ig;refine Cv 16 121 (λix=>ix==14) [.p w.heap.size 0,.p g 0,.p g 0,.p g 0,.s gm 12 bC,.i ((rn:Int)),.p w.heap.size 1,.p w.heap.size 3,.i ((Z:Int)),.v (.tuple #[.agg #[fp,a4,wp],θ]),.v (.tuple #[.agg #[fp,a4,wp],θ]),.a #[.int .i64 fp,.int .i64 a4,.bool wp],.i 0,.z,.z,.i 0] (λll ix vv ww=>match ix with
  |13=>GL W5 (ll 14) vv ww ((fp:Int)) ((a4:Int)) wp
  |_=>True) (λll ww=>Γ W5 W5 ww) ?_ ?_ ?_ ?_ ?_ ?_
 .exact Ai (yN _ _) 1
 .intro j hj ll i vv wz c7 D hS kO og bf hz
  match j,hj with
  |13,_=>exact(GL.below (by rw[E9 (by rintro rfl;cases hS)];exact hz) bf)
  |0,_|1,_|2,_|3,_|4,_|5,_|6,_|7,_|8,_|9,_|10,_|11,_|12,_|14,_|15,_=>exact hz
  |_+16,hq=>omega
 .intro ll i wz c7 D hS kO bf hg
  exact hg.trans (bf.mono hg.size)
 .intro i D hS o X a N Y ll H HL J h2 A
  have a6:=bc J c6 V;have ay:=bc J kC x0;have az:=bc J c6 y3
  match i,D,hS with
  |0,_,_|2,_,_|3,_,_|5,_,_|6,_,_|7,_,_|10,_,_|11,_,_|12,_,_|15,_,_=>exact Tj X A Y H HL
  |1,_,_=>exact Kf X A Y H HL (hl:=Of ‹_›)
  |4,_,_=>exact Kf X A Y H HL (hl:=GR ‹_›)
  |8,_,_=>exact Kf X A Y H HL (hl:=F7 ‹_›)
  |9,_,_=>exact gG X A Y H HL (CW _ J)
  |14,_,hs=>cases hs
  |13,_,_=>clear a6 ay az;obtain rfl:=yP X;have lN:=A6 HL 14;clear H Y;refine yO ?_;go_simp;exact A _ _ (GL.zero (by rw[E9 ψ];exact lN) J.size (yy _ _)) (AG _ _)
  |_+16,hq,_=>omega
 .intro i D hS o X a N Y ll H HL J h2 A
  match i,D,hS with
  |0,_,hs|1,_,hs|2,_,hs|3,_,hs|4,_,hs|5,_,hs|6,_,hs|7,_,hs|8,_,hs|9,_,hs|10,_,hs|11,_,hs|12,_,hs|13,_,hs|15,_,hs=>cases hs
  |14,_,_=>
   obtain rfl:=yP X;have gZ:GL W5 (ll 14) (a.tmps[6]?.getD Θ) N ((fp:Int)) ((a4:Int)) wp:=Cr H HL 13;have gj:(a.tmps[50]?.getD Θ)=.agg #[fp,a4,wp]:=Cr H HL 11;clear H Y;obtain⟨q,mQ,jR,c5⟩:=gZ;rw[HL.1] at c5;replace c5:N.heap[q]?=some (.cells #[θ,θ,υ] 127 (0,0)):=c5;have c0:=yx _ _ 0 _ _ _ c5;have pK:=yx _ _ 1 _ _ _ c5;have c2:=yx _ _ 2 _ _ _ c5;have fq:=AK c5;have Pl:=AA (Pq (W:=W5) (a:=.int .i64 fp) (b:=.int .i64 a4) (c:=.bool wp) c5 J jR);have m3:=AA mQ;clear c5;refine yO ?_;go_simp;exact A Θ _ trivial Pl.2 (λj jV kz jn hu=>match j,kz with
    |0,_|1,_|2,_|3,_|4,_|5,_|6,_|7,_|8,_|9,_|10,_|11,_|12,_|14,_|15,_=>hu
    |13,_=>⟨q,m3.u,jR,by rw[Fh];exact Pl.1⟩
    |_+16,hq=>absurd hq ω)
  |_+16,hq,_=>omega
 intro E N ll eL hR J
 have iR:(E 11)=.agg #[fp,a4,wp]:=Be hR 11;have g4:(E 12)=.int .i64 0:=Be hR 12;have gK:GL W5 (ll 14) (E 13) N ((fp:Int)) ((a4:Int)) wp:=Be hR 13;have fl:(E 15)=.int .i64 0:=Be hR 15;clear hR;simp only[DD,Bj,yL,yI,yJ,yH,iR,g4,fl];simp;generalize E 13=z13 at gK ⊢;clear iR g4 fl;obtain⟨q,rfl,jR,c5⟩:=gK;rw[eL 14 ψ] at c5;replace c5:N.heap[q]?=some (.cells #[fp,a4,wp] 127 (0,0)):=c5;have S6:=AA (S5.below J);have lx:=AA c5;clear x0 V y1 y2 y3 y4 y5 y6 J eL;obtain⟨W6,rfl⟩:∃W6:Ω,W6=N:=⟨_,rfl⟩
 have oK:=yx _ _ 2 _ _ _ c5;clear c5;go_upto_region 8 with fail;go_cut [4,55] (λs4 oN N=>s4=.bool st/\oN=.bool (st&&!wp)/\N=W6)
 case first=>
  cases tk:st
  all_goals
   go_wp2_with fail;go_meet
   case rel=>exact⟨by rw[tk],by rw[tk];rfl,rfl⟩
 case rest=>
 obtain⟨rfl,rfl,rfl⟩:=hcut;obtain⟨W6,rfl⟩:∃w8,w8=wc:=⟨_,rfl⟩
 clear oK;cases aq:(st&&!wp)
 rotate_left
 .have vs:=AA (j6.trans (if_pos (by have:=jE.u;subst this;simpa using aq)))
  go_wp2;go_ret2;exact GZ.bad vs ψ S6.bel
 have ig:=j6.trans (if_neg (by have:=jE.u;subst this;simpa using aq));have j6:=AA ig;clear ig aq;go_wp2_with fail;obtain⟨V,_,_,y3,y4,_,_⟩:=S6.ys;obtain⟨x0,_,_,_⟩:=S6.xs;obtain⟨gw,gP,lL,kA,kI,Dj,iK,⟨⟨kh,kg⟩,ke,kc⟩,_,_,_⟩:=S6.mrow (Ap A.u).1 (f:=fp) lD.u;have z0:=yv (yx _ _ 0 _ _ _ lx.u);have z1:=yv (yx _ _ 1 _ _ _ lx.u);replace V:=yv V;replace x0:=yv x0;have Dw:=yv lL;have cy:(fp:Int)<12:=by have:=lD.u;omega
 have qt:(a4:Int)<4:=ω;have hX:=S6.lts.1;have HD:=AA Dj;clear Dj iK;refine Bb ?_
 repeat(go_big_quiet_step (fail))
 refine Ba λwq bq=>?_
 clear z0 z1 V x0 Dw;have S7:=AA (S6.below bq);have kN:=AA (AB lx bq);have Dv:=(bq.cell (p:=⟨gw,a4,none⟩) kA).trans (HD a4 om);replace y3:=(bq.cell (p:=⟨w,3,none⟩) hX).trans y3;replace y4:=(bq.cell (p:=⟨w,4,none⟩) hX).trans y4;obtain⟨lA,iZ,lK,_,_,_,kR,_,_,lv,lC⟩:=S7.mrow (Ap A.u).1 (f:=fp) lD.u;have fv:=(bq.cell (p:=⟨gm,fp,none⟩) (yK _ _ lL)).trans lL;rw[fv] at lK;have lr:gw=lA:=by simp at lK;exact lK.1
 subst lr;have lC:=AA lC;have lv:=AA lv;obtain⟨W7,rfl⟩:∃W7:Ω,W7=wq:=⟨_,rfl⟩
 clear bq HD lK lL fv lx S6 kA;go_upto_if 77 with fail;go_cut [4,9] (λs4 s9 N=>s4=.bool st/\∃M val,s9=.int .i64 val/\PA k ⟨k1,(en:Int),(Z:Int),b1,c1,nm⟩=({k with mem:=M,XU:=Km k.XU (en:Int) ((Z:Int)/4) fp wp},val,0)/\CS lo g w ⟨k1,(en:Int),(Z:Int),b1,c1,nm⟩ w N (.slice gm 12 bC) (.slice gi 12 b9) (.slice ge 3 ex) c {k with mem:=M}/\N.heap[q]?=some (.cells #[fp,a4,wp] 127 (0,0)))
 case first=>
  cases tk:st
  .have TK:=AA (show ¬k1=11 by have:=jE.u;rw[tk] at this;simpa using this)
   have SS:=AA S7.u;go_wp2_with fail;go_meet
   case rel=>exact⟨by rw[tk],k.mem,Aw k.mem fp a4,rfl,j6.trans (if_neg TK.u),SS.u,kN.u⟩
  have TK:=AA (show k1=11 by have:=jE.u;rw[tk] at this;simpa using this);have pL:=AA (lC a4 b1 om);have pF:=AA (As kN (At W7 gw a4 (.int .i64 b1)) (lv q _ _ kN ψ));have qz:=kR a4;go_wp2_with fail;go_meet
  case rel=>exact⟨by rw[tk],Cs k.mem fp a4 b1,0,rfl,j6.trans (if_pos TK.u),pL.u,pF.u⟩
 case rest=>
 obtain⟨rfl,M,val,rfl,nQ,s7,n7⟩:=hcut;have lI:=AA nQ;have S7:=AA s7;have kN:=AA n7;clear nQ s7 n7 j6 y3 y4 Dv kR lC lv;obtain⟨W7,rfl⟩:∃W7:Ω,W7=wc:=⟨_,rfl⟩
 obtain⟨_,_,_,y3,_,_,_⟩:=S7.ys;have qp:(0:Int)<=(Z:Int):=ω;go_wp2_with fail;clear y3;obtain⟨V,_,y2,y3,_,_,_⟩:=S7.ys;obtain⟨_,_,_,x3⟩:=S7.xs;obtain⟨hJ,jp,_,_⟩:=S7.lts;have RC:Ds W7 c k.XU:=S7.yS.2.2.2.2.2.rd;have CF:=AA (λW (hW:Γ W7 W7 W)=>Re c k.XU (en:Int) ((Z:Int)/4) W (BN.below RC hW));clear RC;refine Ac 10 121 [.p w.heap.size 0,.p g 0,.p g 0,.p g 3,.v c,.p w.heap.size 1,.p w.heap.size 2,.i ((en:Int)),.i (((Z:Int)/4)),.i (H5 k.XU (en:Int) ((Z:Int)/4))] (λ_ _ _=>True) ?_ ?_
 .intro i D o X a N Y H J h2 A
  match i,D with
  |0,_|2,_|3,_|5,_|6,_|8,_=>exact sP X A Y H
  |1,_=>exact sL X A Y H (hl:=Of (bc J hJ V))
  |4,_=>exact sL X A Y H (hl:=YF (bc J jp x3))
  |7,_=>exact sL X A Y H (hl:=F7 (bc J hJ y2))
  |9,_=>exact sD X A Y H (CF _ J)
 intro E N hR J
 have q9:(E 9)=.int .i64 (H5 k.XU (en:Int) ((Z:Int)/4)):=Be hR 9;clear hR;simp only[Aj,Ae,yL,yI,yJ,yH,q9];simp;clear q9;have S8:=AA (S7.below J);have pV:=AA (J);clear V y2 y3 x3 J
 by_cases jY:H5 k.XU (en:Int) ((Z:Int)/4)<0
 rotate_left
 .have HU:=AA (show Km k.XU (en:Int) ((Z:Int)/4) fp wp=k.XU by unfold Km;rw[if_neg jY])
  go_wp2;go_ret2;exact⟨by rw[lI.u]<;>rfl,λ_=>⟨_,_,_,_,by rw[lI.u,HU.u];exact S8.yS⟩,S8.bel⟩
 have HU:=AA (show Km k.XU (en:Int) ((Z:Int)/4) fp wp=Jo k.XU ⟨(en:Int),((Z:Int)/4),(fp:Int),wp⟩ by unfold Km;rw[if_pos jY])
 obtain⟨W8,rfl⟩:∃W8:Ω,W8=N:=⟨_,rfl⟩
 have lw:=AB kN pV.u;obtain⟨V,_,y2,y3,_,_,_⟩:=S8.ys;obtain⟨_,_,_,x3⟩:=S8.xs;obtain⟨nU,jo,ki,kj⟩:=S8.lts;have nO:=AY lw;have nt:=yx _ _ 0 _ _ _ lw;have nq:=yx _ _ 2 _ _ _ lw;have RC:Ds W8 c k.XU:=S8.yS.2.2.2.2.2.rd;have oc:Cc ⟨(en:Int),((Z:Int)/4),(fp:Int),wp⟩=true:=by have:=lD.u;simp only[Cc,yC,Aa];omega
 have CP:=AA (λW (hW:Γ W8 W8 W)=>Ux c k.XU ⟨(en:Int),((Z:Int)/4),(fp:Int),wp⟩ W (BN.below RC hW) (Ap A.u).2.2 oc);simp only[Ag.val] at CP;clear RC oc lw;go_wp2_with fail;refine Cv 23 121 (λix=>ix==22) [.p w.heap.size 0,.p g 0,.p w.heap.size 0,.p g 0,.p g 0,.p g 3,.v c,.p w.heap.size 1,.p w.heap.size 2,.i ((en:Int)),.i (((Z:Int)/4)),.p q 0,.i ((fp:Int)),.p q 2,.b wp,.a #[.int .i64 en,.int .i64 (((Z:Int)/4)),.int .i64 fp,.bool wp],.z,.z,.z,.b true,.p g 0,.p g 3,.z] (λll ix vv ww=>match ix with
  |16|17=>∃v',vv=.tuple #[v',τ]/\AP W8.heap.size 125 4 AZ ww v' (Jo k.XU ⟨(en:Int),((Z:Int)/4),(fp:Int),wp⟩)
  |18=>AP W8.heap.size 125 4 AZ ww vv (Jo k.XU ⟨(en:Int),((Z:Int)/4),(fp:Int),wp⟩)
  |_=>True) (λll ww=>ZF W8 lo g w ⟨k1,(en:Int),(Z:Int),b1,c1,nm⟩ w (.slice gm 12 bC) (.slice gi 12 b9) (.slice ge 3 ex) {k with mem:=M,XU:=(Jo k.XU ⟨(en:Int),((Z:Int)/4),(fp:Int),wp⟩)} (ll 22) ww) ?_ ?_ ?_ ?_ ?_ ?_
 .exact Ai (yN _ _) 1
 .intro j hj ll i vv wz c7 D hS kO og bf hz
  match j,hj with
  |16,_|17,_=>exact(by obtain⟨v',h0,L⟩:=hz;exact⟨v',h0,AP.below L bf⟩)
  |18,_=>exact(AP.below hz bf)
  |0,_|1,_|2,_|3,_|4,_|5,_|6,_|7,_|8,_|9,_|10,_|11,_|12,_|13,_|14,_|15,_|19,_|20,_|21,_|22,_=>exact hz
  |_+23,hq=>omega
 .intro ll i wz c7 D hS kO bf hg
  show ZF _ _ _ _ _ _ _ _ _ _ (Hh ll i 22) _
  rw[E9 (by rintro rfl;cases hS)];exact ZF.grow hg bf
 .intro i D hS o X a N Y ll H HL J h2 A
  match i,D,hS with
  |0,_,_|2,_,_|4,_,_|5,_,_|7,_,_|8,_,_|10,_,_|11,_,_|13,_,_|15,_,_|20,_,_|21,_,_=>exact Tj X A Y H HL
  |1,_,_|3,_,_=>have ga:=A6 HL 22;rw[ga] at J;replace J:Γ W8 W8 N:=J;have a6:=bc J nU V;exact Kf X A Y H HL (hl:=Of ‹_›)
  |6,_,_=>have ga:=A6 HL 22;rw[ga] at J;replace J:Γ W8 W8 N:=J;have ay:=bc J jo x3;exact Kf X A Y H HL (hl:=YF ‹_›)
  |9,_,_=>have ga:=A6 HL 22;rw[ga] at J;replace J:Γ W8 W8 N:=J;have az:=bc J nU y2;exact Kf X A Y H HL (hl:=F7 ‹_›)
  |12,_,_=>have ga:=A6 HL 22;rw[ga] at J;replace J:Γ W8 W8 N:=J;have br:=bc J nO nt;exact Kf X A Y H HL (hl:=F7 ‹_›)
  |14,_,_=>have ga:=A6 HL 22;rw[ga] at J;replace J:Γ W8 W8 N:=J;have ei:=bc J nO nq;exact Kf X A Y H HL (hl:=gJ ‹_›)
  |22,_,hs=>cases hs
  |16,_,_=>obtain rfl:=yP X;have d6:(a.tmps[105]?.getD Θ)=c:=Cr H HL 6;have gY:(a.tmps[114]?.getD Θ)=.agg #[en,.int .i64 (((Z:Int)/4)),fp,wp]:=Cr H HL 15;have ga:=A6 HL 22;rw[ga] at J;replace J:Γ W8 W8 N:=J;clear H Y;refine yO ?_;go_simp;refine(CP _ J).mono ?_;rintro e w_ ⟨v',rfl,hO,aq⟩;exact A _ _ ⟨_,rfl,hO.lower J.size⟩ aq
  |17,_,_=>
   obtain rfl:=yP X;have kU:∃v',(a.tmps[115]?.getD Θ)=.tuple #[v',τ]/\AP W8.heap.size 125 4 AZ N v' (Jo k.XU ⟨(en:Int),((Z:Int)/4),(fp:Int),wp⟩):=Cr H HL 16
   have ga:=A6 HL 22;rw[ga] at J;replace J:Γ W8 W8 N:=J;clear H Y;obtain⟨v',kU,hO⟩:=kU;refine yO ?_;go_simp;exact A _ _ ⟨_,rfl,hO⟩ (yN _ _)
  |18,_,_=>
   obtain rfl:=yP X;have jy:∃v',(a.tmps[98]?.getD Θ)=.tuple #[v',τ]/\AP W8.heap.size 125 4 AZ N v' (Jo k.XU ⟨(en:Int),((Z:Int)/4),(fp:Int),wp⟩):=Cr H HL 17
   have ga:=A6 HL 22;rw[ga] at J;replace J:Γ W8 W8 N:=J;clear H Y;obtain⟨v',jy,hO⟩:=jy;refine yO ?_;go_simp;exact A _ _ hO (yN _ _)
  |19,_,_=>
   obtain rfl:=yP X;have jy:∃v',(a.tmps[98]?.getD Θ)=.tuple #[v',τ]/\AP W8.heap.size 125 4 AZ N v' (Jo k.XU ⟨(en:Int),((Z:Int)/4),(fp:Int),wp⟩):=Cr H HL 17
   clear H Y;obtain⟨v',jy,hO⟩:=jy;refine yO ?_;go_simp;exact A _ _ rfl (yN _ _)
  |_+23,hq,_=>omega
 .intro i D hS o X a N Y ll H HL J h2 A
  match i,D,hS with
  |0,_,hs|1,_,hs|2,_,hs|3,_,hs|4,_,hs|5,_,hs|6,_,hs|7,_,hs|8,_,hs|9,_,hs|10,_,hs|11,_,hs|12,_,hs|13,_,hs|14,_,hs|15,_,hs|16,_,hs|17,_,hs|18,_,hs|19,_,hs|20,_,hs|21,_,hs=>cases hs
  |22,_,_=>
   obtain rfl:=yP X;have j2:(a.tmps[119]?.getD Θ)=.pointer (some ⟨g,3,none⟩):=Cr H HL 21;have lB:AP W8.heap.size 125 4 AZ N (a.tmps[116]?.getD Θ) (Jo k.XU ⟨(en:Int),((Z:Int)/4),(fp:Int),wp⟩):=Cr H HL 18;clear H Y;rw[HL.1] at J;replace J:Γ W8 W8 N:=J;have nf:=(S8.below J).xs.2.2.2;have kS:=AK (S8.below J).yS.1;generalize e116:a.tmps[116]?.getD Θ=v16 at lB;have S9:=AA (S8.XU J lB);obtain⟨_,_,rfl,_,_⟩:=lB.rd.shape;clear lB;refine yO ?_;go_simp;exact A Θ _ trivial (by rw[Fh];exact⟨_,S9.u⟩) (λj jV kz jn hu=>match j,kz with
    |0,_|1,_|2,_|3,_|4,_|5,_|6,_|7,_|8,_|9,_|10,_|11,_|12,_|13,_|14,_|15,_|19,_|20,_|21,_|22,_=>hu
    |16,_|17,_=>(by obtain⟨v',h0,L⟩:=hu;exact⟨v',h0,Si L jo⟩)
    |18,_=>Si hu jo
    |_+23,hq=>absurd hq ω)
  |_+23,hq,_=>omega
 intro E N ll eL hR J
 clear hR;simp only[DD,Bj,yL,yI,yJ,yH];simp;rw[eL 22 ψ] at J;obtain⟨c',S9⟩:=J;have S9:=AA S9;clear eL V y2 y3 x3 nt nq;go_wp2;go_ret2;exact⟨by rw[lI.u]<;>rfl,λ_=>⟨_,_,_,_,by rw[lI.u,HU.u];exact S9.yS⟩,S9.bel⟩
def Ek(k:AQ)(a j:Nat):List Nat:=(yL j).filter λe=>(Bi k.mem (AI k.XX e).root).contains a
theorem Yn (h:(Bi k.mem (AI k.XX j).root).contains a=false):Ek k a (j+1)=Ek k a j:=by unfold Ek;rw[xj,wE];simp only[vP,h,vo];simp
theorem XM (h:(Bi k.mem (AI k.XX j).root).contains a=true):Ek k a (j+1)=Ek k a j++[j]:=by unfold Ek;rw[xj,wE];simp only[vP,h,vo];simp
theorem Mf:(Ek k a j).length<=j:=by unfold Ek;exact yM (List.length_filter_le _ _) χ
theorem Ym{e:Nat}(h:e∈Ek k a j):e<j:=yh.1 (wQ.1 h).1
theorem Jf:Ek k a 3=GX k a:=rfl
theorem Th{ts l:List Nat}(h:∀g,g∈ts↔g∈l):(A8 ts).contains (a:Int)=l.contains a:=by rw[wL,uA,uA,Lg,h]
def IL(es:List Nat)(c:List Ag):List Ag:=es.foldl (λc e=>Gb c (e:Nat)) c
theorem UK{c:List Ag}(es:List Nat)(h:Bl c=true):Bl (IL es c)=true:=WM h
theorem P8{es:List Nat}{c:List Ag}(h:j<es.length):IL (es.take (j+1)) c=Gb (IL (es.take j) c) ((es.getD j 0:Nat):Int):=by unfold IL;rw[DQ (A9 (d:=0) h),tU];rfl
theorem eA:If k c=
 if Bp (JK k.ZJ c.a.toNat).k=false∨Bo c.b 0 3=false∨EV k c=false then(k,0,3)
 else if(GX k c.a.toNat).all (λe=>BO k.ZJ (Du k c.c) (AI k.XX e).PQ)=false then(k,0,1)
 else if Bx c.c=true/\Fg k c.e (JK k.ZJ (BQ c.c)).g=false then(k,0,1)
 else({k with mem:=Cs k.mem c.a.toNat c.b.toNat c.c,ZJ:=BI (BI k.ZJ (Aw k.mem c.a.toNat c.b.toNat) (-1)) c.c 1,XU:=IL (GX k c.a.toNat) k.XU},0,0):=rfl
theorem Nz (h:BJ ZJ=true):KI ZJ 50:=by
 intro f hf;have:=(A4.1 h).2 f (by rw[<-(A4.1 h).1];exact hf);unfold Dm at this;simp only[xL,yC,decide_eq_true_eq,Aa] at this
 rcases this with h|h
 .rw[h];decide
 omega
theorem KI.refer{x n:Int}(h:KI ZJ b)(hl:ZJ.length=12)(R:n=1∨n= -1):KI (BI ZJ x n) (b+1):=by
 intro f hf;rw[Cy] at hf;have:=h f hf;rw[GE hl]
 show -(b+1)<=(JK ZJ f).r+n*((Eg (EP f x):Nat):Int)/\(JK ZJ f).r+n*((Eg (EP f x):Nat):Int)<=b+1
 unfold Eg
 split<;>rcases R with rfl|rfl<;>omega
theorem KI.mono{b':Int}(h:KI ZJ b)(O:b<=b'):KI ZJ b':=λf hf=>by have:=h f hf;omega
theorem Pp{xs:List Int}(h:AE lo w v xs)(hg:g<lo):AE lo (w.setCell (g,j) u) v xs:=
 Av h (At w g j u) (by
  rcases hv:v.ownBlock with _|b
  .exact .inl rfl
  refine .inr λe=>?_
  cases e;have:=(yE h g hv).1;omega)
theorem Ep.refer{call:AV}{c:Φ}{gi:Nat}(h:CS lo g b0 call w W m (.slice gi 12 ex) e c k)(x n:Int)(hx:x<=9223372036854775807)(hl:k.ZJ.length=12)(R:n=1∨n= -1)(hs:KI k.ZJ 1000):
 Ξ prog 222 #[call.on g,.int .i64 x,.int .i64 n] W λr w'=>r=.returned (.tuple #[])/\CS lo g b0 call w w' m (.slice gi 12 ex) e c {k with ZJ:=BI k.ZJ x n}/\W.grownBy w' (some gi):=by
 have mX:=AA (AG W (.cells (call.onCells g) 97));obtain⟨wx,O⟩:=Ec W (.cells (call.onCells g) 97);have L:=h.below O;have ik: -1<=n/\n<=1:=ω;have CE:=AA (λW=>Fl x W hx);have nw:=L.zp L.yS.2.2.2.1 rfl ψ ψ;obtain⟨j4,hQ⟩:=BB L.yS.2.2.2.1 gi rfl;have jW:gi≠W.heap.size:=by have:=h.zx;omega
 have od:W.heap.size≠gi:=jW.symm;have lr:g≠W.heap.size:=by have:=h.lts.2.1;omega
 obtain⟨k1,e1,a1,b1,c1,oT⟩:=call;simp only[AV.on,AV.onCells] at wx O L mX ⊢;obtain⟨V,y1,y2,y3,y4,y5,y6⟩:=Et (c:=⟨k1,e1,a1,b1,c1,oT⟩) wx;cases hg:Bx x
 .have y0:=AA (Ev hg)
  have S:=AA (show BI k.ZJ x n=k.ZJ by simp[BI,hg]);have H1:=AA L;clear hg h L hs R V y1 y2 y3 y4 y5 y6 wx hl nw hQ;go_in;go_wp2_with (go_at_call 158;refine(CE _).mono ?_;rintro e w' ⟨rfl,rfl⟩;rw[y0.u]);go_returns;exact⟨rfl,by rw[S.u];exact H1.u,AX mX _⟩
 have hF:=Eh hg
 have y0:=AA (Er hg);have S:=AA (show BI k.ZJ x n=An k.ZJ (BQ x) (JD n) by unfold BI;rw[hg,if_pos rfl]);generalize BQ x=f at*;have kG:f<k.ZJ.length:=ω;obtain⟨s1,s2⟩:=hs f kG;obtain⟨_,_,d2⟩:=L.JK kG;have T:=AA (L.info hl.symm kG n);have z:=L.xs.2.1;have Fr:=L.fzi (f*3+2);have n8:(f:Int)<12:=ω;clear hg h L hs R wx y1 y2 y3 y4 y5 y6 hl nw hQ;go_in;go_wp2_with (go_at_call 158;refine(CE _).mono ?_;rintro e w' ⟨rfl,rfl⟩;rw[y0.u]);go_returns;exact⟨rfl,by rw[S.u];exact T.u,AO (AX mX _) (At _ _ _ _)⟩
theorem ct{c:Φ}(h:Iv lo w g m i e c k)(a8:lo<=w.heap.size)(hK:Dg k)(call:AV)(he:0<=call.e)(R:call.e<3)(ha:0<=call.a/\call.a<12)(gh:call.c<=9223372036854775807):
 Ξ prog 183 #[call.on g] w (EL lo g w (If k call)):=by
 have S0:=Ep.start h a8 call;have P:=eA (k:=k) (c:=call);obtain⟨k1,e1,a1,b1,c1,nm⟩:=call;obtain⟨en,rfl⟩:∃n:Nat,e1=(n:Int):=⟨e1.toNat,by simp only at he;omega⟩
 obtain⟨Z,rfl⟩:∃n:Nat,a1=(n:Int):=⟨a1.toNat,by simp only at ha;omega⟩
 have bw:en<3:=by simp only at R;omega
 have bA:Z<12:=by simp only at ha;omega
 simp only[AV.on,AV.onCells] at S0 P gh ⊢;simp only[yq] at P;obtain⟨ge,ex,e9,_,⟨⟨iB,iA⟩,iz,iy⟩,_⟩:=S0.XX (by rw[hK.zX];omega);rw[hK.zX] at e9;obtain⟨gi,b9,e8,_,_,⟨⟨iw,iu⟩,it,ir⟩,_⟩:=S0.ZJ (by rw[hK.len];omega);rw[hK.len] at e8;obtain⟨gm,bC,e7,_,⟨je,jd⟩,jc,jb⟩:=S0.mems (Ap hK).1;subst e7 e8 e9;obtain⟨V,y1,y2,y3,y4,y5,y6⟩:=S0.ys;have A:=AA hK;have HS:=AA S0;have HP:=AA P;have oe:(Z:Int)<12:=ω;have oJ:=AA (λW=>Fl c1 W gh);replace y3:=yv y3;replace y4:=yv y4;replace y5:=yv y5;clear hK h S0 a8 he R P V y1 y2 y6 ha;go_in;go_wp2_with fail;generalize w.alloc _=W0 at*;refine Bb ?_
 repeat(go_big_quiet_step (fail))
 refine Ba λwq bq=>?_
 clear y3 y4 y5;have S2:=AA (HS.below bq);obtain⟨W2,rfl⟩:∃W2:Ω,W2=wq:=⟨_,rfl⟩
 clear bq;obtain⟨V,_,_,_,_,_,_⟩:=S2.ys;obtain⟨x0,z,_,_⟩:=S2.xs;obtain⟨d0,_,_⟩:=S2.JK (f:=Z) (by rw[A.len];exact bA);have cT:=V8 (w1:=W2) (λW=>GJ (JK k.ZJ Z).k W);have cP:=V8 (w1:=W2) (λW=>QB b1 W);have cN:=V8 (w1:=W2) (λW=>MD (JK k.ZJ Z).k W);cases hg:Bx c1
 focus
  have y0:=AA (Ev hg);have jA:=AA hg;have nR:Du k c1=[]:=by unfold Du;rw[hg];rfl
  have pO:=AA nR;have iS:EV k ⟨k1,(en:Int),(Z:Int),b1,c1,nm⟩=decide (c1=0):=by unfold EV;rw[hg];rfl
  clear hg nR;go_wp2_with (go_at_call 158;refine(oJ _).mono ?_;rintro e w' ⟨rfl,rfl⟩;rw[y0.u]);clear z d0 V x0;cases ht:Bp (JK k.ZJ Z).k
  .rw[ht] at cT
   have vs:=AA (show If k ⟨k1,(en:Int),(Z:Int),b1,c1,nm⟩=(k,0,3) by rw[HP.u,if_pos (.inl ht)]);refine Bb ?_
   repeat(go_big_quiet_step (first|exact cT _ _|exact cP _ _|exact cN _ _))
   refine Ba λwq bq=>?_
   go_wp2;go_ret;exact EL.bad vs ψ (S2.below bq).bel
  rw[ht] at cT;cases O:Bo b1 0 3
  .rw[O] at cP
   have vs:=AA (show If k ⟨k1,(en:Int),(Z:Int),b1,c1,nm⟩=(k,0,3) by rw[HP.u,if_pos (.inr (.inl O))]);refine Bb ?_
   repeat(go_big_quiet_step (first|exact cT _ _|exact cP _ _|exact cN _ _))
   refine Ba λwq bq=>?_
   go_wp2;go_ret;exact EL.bad vs ψ (S2.below bq).bel
  rw[O] at cP
  by_cases h0:c1=0
  rotate_left
  .have t0:(c1 !=0)=true:=by simp[h0]
   have vs:=AA (show If k ⟨k1,(en:Int),(Z:Int),b1,c1,nm⟩=(k,0,3) by rw[HP.u,if_pos (.inr (.inr (by rw[iS];simp[h0])))]);refine Bb ?_
   repeat(go_big_quiet_step (first|exact cT _ _|exact cP _ _|exact cN _ _))
   refine Ba λwq bq=>?_
   go_wp2;go_ret;exact EL.bad vs ψ (S2.below bq).bel
  have t0:(c1 !=0)=false:=by simp[h0]
  have cq:=AA (show If k ⟨k1,(en:Int),(Z:Int),b1,c1,nm⟩=_ by rw[HP.u,if_neg (by rintro(x|x|x);(· rw[ht] at x;cases x);(· rw[O] at x;cases x);(· rw[iS,h0] at x;cases x))]);obtain⟨bn,rfl⟩:∃n:Nat,b1=(n:Int):=⟨b1.toNat,by have:=(Aa.1 O).1;omega⟩
  have iW:bn<4:=by have:=(Aa.1 O).2;omega
  simp only[yq] at cq;have qB:=AA h0;clear iS ht O h0;refine Bb ?_
  repeat(go_big_quiet_step (first|exact cT _ _|exact cP _ _|exact cN _ _))
  refine Ba λwq bq=>?_
  clear cT cP cN t0;have S5:=AA (S2.below bq);obtain⟨W5,rfl⟩:∃W5:Ω,W5=wq:=⟨_,rfl⟩
  clear bq S2;have k0:=AA (xo W5 W5.heap.size 3 1);have k0:dv (AE W5 W5 (.slice none 0 0) (A8 [])):=AA k0.u;obtain⟨ts,hts⟩:∃ts:List Nat,ts=[]:=⟨_,rfl⟩
  have Hm:=AA (show ∀g,g∈ts↔g∈Du k c1 by rw[hts,pO.u];exact λ_=>Iff.rfl);have Ht:=AA (show ∀g,g∈ts->g<12 by rw[hts];intro g hg;cases hg);rw[<-hts] at k0;clear hts
 rotate_left
 focus
  have hF:=Eh hg;have y0:=AA (Er hg);have jA:=AA hg;have iS:EV k ⟨k1,(en:Int),(Z:Int),b1,c1,nm⟩=decide ((JK k.ZJ (BQ c1)).k=(JK k.ZJ Z).k - 1):=by unfold EV;rw[hg];rfl
  have h0:c1≠0:=by rintro rfl;cases hg
  have t0:(c1 !=0)=true:=by simp[h0]
  have HN:=AA (show Du k c1=BQ c1::(if Bp (JK k.ZJ (BQ c1)).k then named (AJ k.mem (BQ c1)) else[]) by unfold Du;rw[hg];rfl);clear hg;obtain⟨f,hfe⟩:∃f,f=BQ c1:=⟨_,rfl⟩
  have HF:=AA hfe.symm;rw[<-hfe] at y0 HN iS hF;clear hfe;obtain⟨j1,_,_⟩:=S2.JK (f:=f) (by rw[A.len];exact hF);have n8:(f:Int)<12:=ω;go_wp2_with (go_at_call 158;refine(oJ _).mono ?_;rintro e w' ⟨rfl,rfl⟩;rw[y0.u]);replace V:=yv V;replace z:=yv z;replace j1:=yv j1;clear d0 x0;cases ht:Bp (JK k.ZJ Z).k
  .rw[ht] at cT
   have vs:=AA (show If k ⟨k1,(en:Int),(Z:Int),b1,c1,nm⟩=(k,0,3) by rw[HP.u,if_pos (.inl ht)]);refine Bb ?_
   repeat(go_big_quiet_step (first|exact cT _ _|exact cP _ _|exact cN _ _))
   refine Ba λwq bq=>?_
   go_wp2;go_ret;exact EL.bad vs ψ (S2.below bq).bel
  rw[ht] at cT;rw[Ua ht] at cN;cases O:Bo b1 0 3
  .rw[O] at cP
   have vs:=AA (show If k ⟨k1,(en:Int),(Z:Int),b1,c1,nm⟩=(k,0,3) by rw[HP.u,if_pos (.inr (.inl O))]);refine Bb ?_
   repeat(go_big_quiet_step (first|exact cT _ _|exact cP _ _|exact cN _ _))
   refine Ba λwq bq=>?_
   go_wp2;go_ret;exact EL.bad vs ψ (S2.below bq).bel
  rw[O] at cP
  by_cases h0:(JK k.ZJ f).k=(JK k.ZJ Z).k - 1
  rotate_left
  .have t2:((JK k.ZJ f).k !=(JK k.ZJ Z).k - 1)=true:=by simp[h0]
   have vs:=AA (show If k ⟨k1,(en:Int),(Z:Int),b1,c1,nm⟩=(k,0,3) by rw[HP.u,if_pos (.inr (.inr (by rw[iS];exact decide_eq_false h0)))]);refine Bb ?_
   repeat(go_big_quiet_step (first|exact cT _ _|exact cP _ _|exact cN _ _))
   refine Ba λwq bq=>?_
   go_wp2;go_ret;exact EL.bad vs ψ (S2.below bq).bel
  have t2:((JK k.ZJ f).k !=(JK k.ZJ Z).k - 1)=false:=by simp[h0]
  have cq:=AA (show If k ⟨k1,(en:Int),(Z:Int),b1,c1,nm⟩=_ by rw[HP.u,if_neg (by rintro(x|x|x);(· rw[ht] at x;cases x);(· rw[O] at x;cases x);(· rw[iS,decide_eq_true h0] at x;cases x))]);obtain⟨bn,rfl⟩:∃n:Nat,b1=(n:Int):=⟨b1.toNat,by have:=(Aa.1 O).1;omega⟩
  have iW:bn<4:=by have:=(Aa.1 O).2;omega
  simp only[yq] at cq;have cy:=hF;clear iS ht O h0 hF;refine Bb ?_
  repeat(go_big_quiet_step (first|exact cT _ _|exact cP _ _|exact cN _ _))
  refine Ba λwq bq=>?_
  clear cT cP cN t0 t2 V z j1;have S3:=AA (S2.below bq);obtain⟨W3,rfl⟩:∃W3:Ω,W3=wq:=⟨_,rfl⟩
  clear bq S2;have mT:=AG W3 (.cells #[f] 3);have O4:=AA (MS W3 (f:Int));have S4:=AA (S3.below mT);have la:=AA mT;clear mT;obtain⟨V,_,_,_,_,_,_⟩:=S4.ys;obtain⟨x0,z,_,_⟩:=S4.xs;obtain⟨j1,_,_⟩:=S4.JK (f:=f) (by rw[A.len];exact cy);have CT:=AA (λW=>GJ (JK k.ZJ f).k W);go_wp2_with fail;refine(CT _).mono ?_;rintro r w9 ⟨rfl,rfl⟩;generalize W3.alloc _=W4 at*;go_upto_if 83 with fail;go_cut [10] (λoR N=>∃ts b3,AE b3 N oR (A8 ts)/\(∀g,g∈ts↔g∈Du k c1)/\(∀g,g∈ts->g<12)/\CS lo g w ⟨k1,(en:Int),(Z:Int),(bn:Int),c1,nm⟩ w N (.slice gm 12 bC) (.slice gi 12 b9) (.slice ge 3 ex) c k)
  case first=>
   cases mo:Bp (JK k.ZJ f).k
   .go_wp2_with fail
    go_meet
    case rel=>exact⟨[f],_,O4.u,by rw[HN.u,mo];exact λ_=>Iff.rfl,by intro g hg;rw[xy] at hg;omega,S4.u⟩
   have RM:=S4.yS.2.2.rd.1
   have CN:=UY _ (.slice W3 1 1) k.mem [f] W4 RM (Ap A.u).1 (AE.rd O4.u) (by simpa using cy) χ;have kM:=ME (Ap A.u).1 (ns:=[f]) (by simpa using cy);go_wp2_with fail;refine CN.mono ?_;rintro r w5 ⟨v5,t5,rfl,P5,m5,l5,iV⟩;have O5:=AA (show w5.ownsRow W3.heap.size 3 1 (.slice W3 1 1) 1 ((A8 [f]).map (yl .i64)) from O4.below iV);have R5:=AA (show Rd w5 v5 1 t5.length ((A8 t5).map (yl .i64)) by have:=AE.rd P5;unfold A3 at this;rwa [Cx] at this);have pl:W3.heap.size<=w5.heap.size:=yM (by have:=(yE O4 _ rfl);omega) iV.size;have j5:=AA (S4.below iV);have p4:=AA (la.trans (iV.mono la.size));have h5:t5.length<=4:=by simp at kM;omega
   have Hm:=AA (show ∀g,g∈[f]++t5↔g∈Du k c1 by intro g;rw[HN.u,mo,if_pos rfl,wI,xy,List.mem_cons,m5];simp[Ie])
   have Ht:=AA (show ∀g,g∈[f]++t5->g<12 by
    intro g hg;rw[wI,xy] at hg
    rcases hg with rfl|hg
    .exact cy
    obtain⟨_,_,hg⟩:=MF.1 ((m5 g).1 hg)
    exact F9 hg)
   clear mo O4 S4 x0 z V j1 CT RM P5 m5 l5 iV kM CN;go_wp2_with (at_builtin;go_must (refine Em (lo:=W3.heap.size) (v:=.slice W3 1 1) (n:=1) (xs:=(A8 [f]).map (yl .i64)) (m:=t5.length) (news:=(A8 t5).map (yl .i64)) rfl rfl 3 (.int .i64 0) 1 8 underlying29 Tryz.zS rfl ψ rfl O5 rfl R5 MP μ ω ω ?_;intro qf W5 lh jO lg;have V:=(Bu (o:=0) jO j5.lts.1 (DH O5 j5.yU ψ)).trans j5.ys.1;have x2:=(Bu (o:=2) jO j5.lts.2.1 (DH O5 j5.yS.1 ψ)).trans j5.xs.2.2.1));go_meet
   case rel=>exact⟨[f]++t5,_,OQ (a:=[f]) (b:=t5) lh,Hm.u,Ht.u,S3.below (p4.trans lg)⟩
  case' rest=>
  obtain⟨ts,b3,nx,nT,nE,np⟩:=hcut;have k0:=AA nx;have Hm:=AA nT;have Ht:=AA nE;have S5:=AA np;obtain⟨W5,rfl⟩:∃W5:Ω,W5=wc:=⟨_,rfl⟩
  clear nx nT nE np O4 S4 x0 z V j1 CT
 all_goals
  obtain⟨V,_,_,_,_,_,_⟩:=S5.ys;obtain⟨_,_,x2,_⟩:=S5.xs;go_wp2_with fail;clear V x2;go_loopw [11,99] (λoQ lP wr=>∃j:Nat,j<=3/\lP=.int .i64 j/\AE W5 wr oQ (A8 (Ek k Z j))/\Γ W5 W5 wr/\∀e,e∈Ek k Z j->BO k.ZJ (Du k c1) (AI k.XX e).PQ=true) (λ_ lP _=>3 - (intOf lP).toNat)
  exact⟨0,yu _,rfl,xo _ _ _ _,yN _ _,λe he=>by cases he⟩
  obtain⟨j,hj,rfl,hO,al,eL⟩:=hrel;have h9:=AA eL;clear eL;have po:=Mf (k:=k) (a:=Z) (j:=j);have S6:=AA (S5.below al);have HO:=AA hO;have fa:=AA al;obtain⟨ip,io,rfl,_,_,_⟩:=hO.rd.open;rw[Cx] at HO ⊢;clear hO al
  by_cases bm:j<3
  .obtain⟨ua,uc,m7,m6,R5⟩:=S5.env (j:=j) (by rw[A.zX];exact bm)
   have D0:=(fa.cell (yK _ _ m7)).trans m7;have D1:=(fa.cell (yK _ _ m6)).trans m6;have hn:=BN.below R5 fa.u;have pU:=AA R5;clear m7 m6 R5;obtain⟨NE,kK⟩:=Ec wr (.cells #[.slice ua (AI k.XX j).PQ.length uc,.int .i64 (AI k.XX j).root] 81);have S7:=AA (S6.below kK);have ms:(j:Int)<3:=ω;obtain⟨V,_,_,_,_,_,_⟩:=S7.ys;obtain⟨x0,z,_,_⟩:=S7.xs;obtain⟨mt,bt,_,_⟩:=S7.lts;have mr:=zK A bm;have RM:=Bn.below S6.yS.2.2.rd.1 kK;have kZ:Bh _ _ k.ZJ:=S7.yS.2.2.2.1.rd;have R7:=BN.below hn kK;have oB:=AA NE;have nN:=AY NE;have n0:=yx _ _ 0 _ _ _ NE;have n1:=yx _ _ 1 _ _ _ NE;have pR:=AA kK;clear kK NE hn;go_wp2_with fail;clear D0 D1;generalize wr.alloc _=W7 at*;obtain⟨qe,kn⟩:∃q,q=wr.heap.size:=⟨_,rfl⟩
   rw[<-kn] at oB nN n0 n1 ⊢;have CX:=AA (λW (hW:Γ W7 W7 W)=>Lm _ k.mem (AI k.XX j).root W (RM.below hW) (Ap A.u).1 mr);have kP:=pR.u;obtain⟨bu,hbu⟩:∃b,(Bi k.mem (AI k.XX j).root).contains Z=b:=⟨_,rfl⟩
   have lF:=AA hbu;clear hbu kn;refine BD 10 188 [.p w.heap.size 0,.p g 0,.p g 0,.p g 0,.s gm 12 bC,.p qe 1,.i ((AI k.XX j).root),.z,.i ((Z:Int)),.b bu] (λix vv ww=>match ix with
    |7=>FW wr k.mem (AI k.XX j).root ww vv
    |_=>True) ?_ ?_ ?_
   .intro i D o X a N Y H J h2 A
    match i,D with
    |0,_|2,_|3,_|5,_|8,_=>exact sP X A Y H
    |1,_=>exact sL X A Y H (hl:=Of (bc J mt V))
    |4,_=>exact sL X A Y H (hl:=GR (bc J bt x0))
    |6,_=>exact sL X A Y H (hl:=F7 (bc J nN n1))
    |7,_=>exact sC X A Y H (CX _ J) (by rintro e w_ ⟨v',lO,rfl,hO,b5,_,aq⟩;exact⟨_,rfl,⟨lO,BS hO (yM kP.size J.size),b5⟩,aq⟩)
    |9,_=>obtain rfl:=yP X;have d7:FW wr k.mem (AI k.XX j).root N (a.tmps[111]?.getD Θ):=Bd H 7;have d8:(a.tmps[112]?.getD Θ)=.int .i64 Z:=Bd H 8;clear H Y;generalize e111:a.tmps[111]?.getD Θ=v2 at d7;obtain⟨lO,hO,b5⟩:=d7;have CC:=A7 (PM v2 lO (Z:Int) N (AE.rd hO));rw[Th b5,lF.u] at CC;refine yO ?_;go_simp;refine CC.mono ?_;rintro e w_ ⟨rfl,aq⟩;exact A _ _ rfl aq
   .intro i D vv wz c7 bf hz
    match i,D with
    |7,_=>exact(FW.below hz bf)
    |0,_|1,_|2,_|3,_|4,_|5,_|6,_|8,_|9,_=>exact hz
   intro E N hR J
   have q9:(E 9)=.bool bu:=Be hR 9;clear hR;simp only[Aj,Ae,yL,yI,yJ,yH,q9];simp;clear q9;have f8:=kP.trans (J.mono kP.size);cases bu
   .have HU:=AA (Yn lF.u)
    have k7:=AA (HO.below f8);have lE:=AA (fa.trans (f8.mono fa.size));clear J f8 V x0 z n0 n1 kP RM kZ R7;go_wp2;go_roundw;exact⟨j+1,ω,ξ,by rw[HU.u];exact k7.u,lE.u,by rw[HU.u];exact h9.u⟩;simp[intOf];omega
   have HU:=AA (XM lF.u)
   have ky:j∈GX k Z:=by rw[<-Jf];exact wQ.2 ⟨yh.2 bm,lF.u⟩
   have k7:=HO.below f8;have lE:=AA (fa.trans (f8.mono fa.size));have b1:=AG N (.cells #[j] 3);have O1:=AA (show(N.alloc (.cells #[j] 3)).ownsRow W5.heap.size 3 1 (.slice ip (Ek k Z j).length io) (Ek k Z j).length ((A8 (Ek k Z j)).map (yl .i64)) by have:=k7.below b1;unfold AE at this;rwa [Cx] at this);have L1:=AA (show Rd (N.alloc (.cells #[j] 3)) (.slice N 1 1) 1 1 ((A8 [j]).map (yl .i64)) from AE.rd (MS N (j:Int)));have s5:=lE.size;have ik:=AA (show ∀b,(xv ip (Ek k Z j).length io).ownBlock=some b->W5.heap.size<=b from λb O=>(yE HO b O).1);have S8:=AA ((S7.below J).below b1);have jG:=AA (AB (AB oB J) b1);have Rx:=AA (BN.below (BN.below R7 J) b1);have qu:=AA k7;have p3:=AA (lE.trans (b1.mono s5));clear J f8 V x0 z n0 n1 kP RM kZ R7 k7 b1;go_wp2_with (at_builtin;go_must (refine Em (lo:=W5.heap.size) (v:=.slice ip (Ek k Z j).length io) (n:=(Ek k Z j).length) (xs:=(A8 (Ek k Z j)).map (yl .i64)) (m:=1) (news:=(A8 [j]).map (yl .i64)) rfl rfl 3 (.int .i64 0) 1 8 underlying29 Tryz.zS rfl ψ rfl O1 rfl L1 MP μ ω η ?_;intro qd W9 lh jO lg;have V:=(Bu (o:=0) jO S8.lts.1 (DH O1 S8.yU ψ)).trans S8.ys.1;have n0:=(Bu (o:=0) jO (AY jG.u) (DH O1 jG ψ)).trans (yx _ _ 0 _ _ _ jG.u)));have j7:=AA (p3.trans lg);have S9:=AA (S5.below j7.u);have O9:=AA (OQ (a:=Ek k Z j) (b:=[j]) lh);have lc:=JT g _ _ _ (AI k.XX j).PQ ts k.ZJ W9 S9.xs.2.1 (BN.below pU j7.u) (BN.below S5.yS.2.2.2.1.rd j7.u) (A3.below (AE.rd k0.u) j7.u) (λg hg=>by rw[A.len];exact Ht g hg);rw[Fo Hm.u] at lc;clear V n0 lh jO lg O1 L1;cases a7:BO k.ZJ (Du k c1) (AI k.XX j).PQ
   .have ou:=AA a7
    have vs:=AA (show If k ⟨k1,(en:Int),(Z:Int),(bn:Int),c1,nm⟩=(k,0,1) by rw[cq.u,if_pos (wZ.2 ⟨j,ky,by rw[a7];decide⟩)]);rw[a7] at lc;clear a7;refine lc.mono ?_;rintro r lM ⟨rfl,hY⟩;go_wp2;go_ret;exact EL.bad vs ψ (S9.below hY).bel
   have ou:=AA a7
   rw[a7] at lc;clear a7;refine lc.mono ?_;rintro r lM ⟨rfl,hY⟩;have pM:=AA (O9.below hY);have p6:=AA (j7.trans (hY.mono j7.size));clear hY;go_wp2;go_roundw
   case rel=>exact⟨j+1,ω,ξ,by rw[HU.u];exact pM.u,p6.u,λe he=>by
    rw[HU.u,wI,xy] at he
    rcases he with he|rfl
    .exact h9 e he
    exact ou.u⟩
   case measure=>simp[intOf];omega
  obtain rfl:j=3:=ω;rw[Jf] at HO h9 ⊢;obtain⟨us,hus⟩:∃us,us=GX k Z:=⟨_,rfl⟩
  have o9:us.length<=3:=by rw[hus,<-Jf];exact Mf
  rw[<-hus] at HO h9 ⊢;have cg:=AA (show If k ⟨k1,(en:Int),(Z:Int),(bn:Int),c1,nm⟩=_ by rw[cq.u,if_neg (by rw[Bool.not_eq_false,ym,<-hus];exact h9.u)]);rw[<-hus] at cg;clear hus po;obtain⟨W6,rfl⟩:∃W6:Ω,W6=wr:=⟨_,rfl⟩
  go_wp2_with fail
  first
  |have CM:=U5 (w1:=W6) (λW hW=>Wq (S6.below hW).yS ⟨k1,(en:Int),(Z:Int),(bn:Int),c1,nm⟩ (JK k.ZJ f).g χ (by rw[A.zX];simp only;omega))
   simp only[AV.on,AV.onCells] at CM;obtain⟨V,y1,y2,y3,y4,y5,y6⟩:=S6.ys;replace V:=yv V;replace y1:=yv y1;replace y2:=yv y2;replace y3:=yv y3;replace y4:=yv y4;replace y5:=yv y5;replace y6:=yv y6;have z:=yv S6.xs.2.1;have dg:=yv (S6.JK (f:=f) (by rw[A.len];exact cy)).2.1;cases jj:Fg k (en:Int) (JK k.ZJ f).g
   .have oC:=AA jj
    have vs:=AA (show If k ⟨k1,(en:Int),(Z:Int),(bn:Int),c1,nm⟩=(k,0,1) by rw[cg.u,if_pos ⟨jA.u,by rw[HF.u];exact jj⟩]);rw[jj] at CM;clear jj;refine Bb ?_
    repeat(go_big_quiet_step (exact CM _ _))
    refine Ba λwq bq=>?_
    clear V y1 y2 y3 y4 y5 y6 z dg;go_wp2;go_ret;exact EL.bad vs ψ (S6.below bq).bel
   have oC:=AA jj;rw[jj] at CM;clear jj;have ow:=AA (show If k ⟨k1,(en:Int),(Z:Int),(bn:Int),c1,nm⟩=_ by rw[cg.u,if_neg (by rintro⟨_,x⟩;rw[HF.u,oC.u] at x;cases x)]);refine Bb ?_
   repeat(go_big_quiet_step (exact CM _ _))
   refine Ba λwq bq=>?_
   clear V y1 y2 y3 y4 y5 y6 z dg CM
  |have ow:=AA (show If k ⟨k1,(en:Int),(Z:Int),(bn:Int),c1,nm⟩=_ by rw[cg.u,if_neg (by rintro⟨x,_⟩;rw[jA.u] at x;cases x)])
   refine Bb ?_
   repeat(go_big_quiet_step (fail))
   refine Ba λwq bq=>?_
  have S7:=AA (S6.below bq);obtain⟨W7,rfl⟩:∃W7:Ω,W7=wq:=⟨_,rfl⟩
  have oA:=AA (HO.below bq);have qk:=yM fa.size bq.size;obtain⟨V,y1,y2,y3,y4,y5,y6⟩:=S7.ys;obtain⟨x0,_,_,_⟩:=S7.xs;obtain⟨gw,gP,Dw,kA,kI,Dj,iK,⟨⟨kh,kg⟩,ke,kc⟩,_,hT,SW⟩:=S7.mrow (Ap A.u).1 (f:=Z) bA;have Dv:=Dj bn iW;have fz:=iK bn;have S8:=AA (SW bn c1 iW);have mE:(bn:Int)<4:=ω;have pf:=AA (A.word (f:=Z) (i:=bn) bA iW);have pv:gw<W5.heap.size:=by obtain⟨lA,iZ,jI,mx,_⟩:=S5.mrow (Ap A.u).1 (f:=Z) bA;have:=((fa.trans (bq.mono fa.size)).cell (yK _ _ jI)).trans jI;rw[Dw] at this;simp at this;rw[this.1];exact mx
  have oz:=AA (show AE W5 (W7.setCell (gw,bn) (.int .i64 c1)) (.slice ip us.length io) (A8 us) from Av oA (At _ _ _ _) (by
   rcases hv:(xv ip us.length io).ownBlock with _|b
   .exact .inl rfl
   refine .inr λe=>?_
   cases e;have:=(yE oA gw hv).1;omega))
  clear bq Dj iK SW hT;go_wp2_with fail;clear V y1 y2 y3 y4 y5 y6 x0 Dw Dv fz;generalize W7.setCell _ _=W8 at*;have CR:=S8.refer (Aw k.mem Z bn) (-1) (by have:=pf.2;omega) A.len (.inr rfl) ((Nz (Ap A.u).2.1).mono ψ);simp only[AV.on,AV.onCells] at CR;refine CR.mono ?_;rintro r w9 ⟨rfl,S9,n6⟩;have S9:=AA S9;have py:=S5.zx;have oy:=AA (show AE W5 w9 (.slice ip us.length io) (A8 us) from Av oz n6 (by
   rcases hv:(xv ip us.length io).ownBlock with _|b
   .exact .inl rfl
   refine .inr λe=>?_
   cases e;have:=(yE oz gi hv).1;omega))
  clear n6 CR;obtain⟨V,y1,y2,y3,y4,y5,y6⟩:=S9.ys;go_wp2_with fail;clear V y1 y2 y3 y4 y5 y6;have CR:=S9.refer c1 1 gh (by simp only[Cy];exact A.len) (.inl rfl) (KI.mono (KI.refer (Nz (Ap A.u).2.1) A.len (.inr rfl)) ψ);simp only[AV.on,AV.onCells] at CR;refine CR.mono ?_;rintro r lM ⟨rfl,mU,kD⟩;have mU:=AA mU;have m0:=AA (show AE W5 lM (.slice ip us.length io) (A8 us) from Av oy kD (by
   rcases hv:(xv ip us.length io).ownBlock with _|b
   .exact .inl rfl
   refine .inr λe=>?_
   cases e;have:=(yE oy gi hv).1;omega))
  have pz:=S5.lts.2.1;clear kD CR;go_wp2_with fail;go_loopw [172] (λi8 wr=>∃j:Nat,j<=us.length/\i8=.int .i64 j/\AE W5 wr (.slice ip us.length io) (A8 us)/\∃c',CS lo g w ⟨k1,(en:Int),(Z:Int),(bn:Int),c1,nm⟩ w wr (.slice gm 12 bC) (.slice gi 12 b9) (.slice ge 3 ex) c' {k with mem:=Cs k.mem Z bn c1,ZJ:=BI (BI k.ZJ (Aw k.mem Z bn) (-1)) c1 1,XU:=IL (us.take j) k.XU}) (λi8 _=>us.length - (intOf i8).toNat)
  exact⟨0,yu _,rfl,m0.u,c,mU.u⟩
  obtain⟨j,hj,rfl,hO,c',hS⟩:=hrel;have HOr:=AA hO;have S:=AA hS;clear hS
  by_cases bm:j<us.length
  .obtain⟨ax,cx,ml,_,_,H0⟩:=hO.rd.open
   rw[Cx] at ml;simp only[xQ] at ml;obtain⟨rfl,_,rfl⟩:=ml;obtain⟨bx,oS,rfl,DX⟩:=H0.at (k:=j) (by rw[Cx];exact bm);rw[SY bm] at DX;obtain⟨un,hun⟩:∃u,u=us.getD j 0:=⟨_,rfl⟩
   rw[<-hun] at DX;have pS:=AA hun;obtain⟨cc,hcc'⟩:∃cc,cc=IL (us.take j) k.XU:=⟨_,rfl⟩
   have oE:=AA hcc';clear hun;have jn:(j:Int)<us.length:=ω;obtain⟨V,_,_,_,_,_,_⟩:=S.ys;obtain⟨_,_,_,x3⟩:=S.xs;obtain⟨mt,bt,ki,kj⟩:=S.lts;have RC:Ds wr c' cc:=by rw[hcc'];exact S.yS.2.2.2.2.2.rd
   clear hcc';have CD:=AA (λW (hW:Γ wr wr W)=>NI c' cc (un:Int) W (BN.below RC hW) (by rw[oE.u];exact UK _ (Ap A.u).2.2));clear RC H0 hO;go_wp2_with fail;clear DX;refine BD 11 188 [.p w.heap.size 0,.p g 0,.p w.heap.size 0,.p g 0,.p g 0,.p g 3,.v c',.i ((un:Int)),.z,.p g 0,.p g 3] (λix vv ww=>match ix with
    |8=>AP wr.heap.size 125 4 AZ ww vv (Gb cc (un:Int))
    |_=>True) ?_ ?_ ?_
   .intro i D o X a N Y H J h2 A
    have a6:=bc J mt V;have ay:=bc J bt x3
    match i,D with
    |0,_|2,_|4,_|5,_|7,_|9,_|10,_=>exact sP X A Y H
    |1,_|3,_=>exact sL X A Y H (hl:=Of ‹_›)
    |6,_=>exact sL X A Y H (hl:=YF ‹_›)
    |8,_=>exact sC X A Y H (CD _ J) (by rintro e w_ ⟨v',rfl,hO,aq⟩;exact⟨_,rfl,(hO.lower J.size),aq⟩)
   .intro i D vv wz c7 bf hz
    match i,D with
    |8,_=>exact(AP.below hz bf)
    |0,_|1,_|2,_|3,_|4,_|5,_|6,_|7,_|9,_|10,_=>exact hz
   intro E N hR J
   have q1:(E 1)=.pointer g:=Be hR 1;have q8:AP wr.heap.size 125 4 AZ N (E 8) (Gb cc (un:Int)):=Be hR 8;have q9:(E 9)=.pointer g:=Be hR 9;have id:(E 10)=.pointer (some ⟨g,3,none⟩):=Be hR 10;clear hR;simp only[Aj,Ae,yL,yI,yJ,yH,q1,q9,id];simp;generalize E 8=z8 at q8 ⊢;clear q1 q9 id;rw[oE.u,pS.u,<-P8 bm] at q8;have S8:=AA (S.XU J q8);have pW:=AA (Pp (j:=3) (u:=z8) (AE.below HOr J) pz);have kS:=AK (S.below J).yS.1;have nf:=(S.below J).xs.2.2.2;obtain⟨_,_,rfl,_,_⟩:=q8.rd.shape;clear q8 J V x3;go_wp2;go_roundw;exact⟨j+1,ω,ξ,pW.u,_,S8.u⟩;simp[intOf];omega
  obtain rfl:j=us.length:=ω;rw[List.take_length] at S;have HE:=AA (show If k ⟨k1,(en:Int),(Z:Int),(bn:Int),c1,nm⟩=({k with mem:=Cs k.mem Z bn c1,ZJ:=BI (BI k.ZJ (Aw k.mem Z bn) (-1)) c1 1,XU:=IL us k.XU},0,0) from ow.u);go_wp2;go_ret;exact⟨by rw[HE.u]<;>rfl,λ_=>⟨_,_,_,_,by rw[HE.u];exact S.yS⟩,S.bel⟩
def Ff(k:AQ)(c:AV):Nm:=
 if c.k=2 then K4 k c
 else if c.k=3 then LD k c
 else if c.k=4 then EG k (GV k.mem k.ZJ c.a.toNat c.b (AI k.XX c.e.toNat).PQ)
 else if c.k=5 then EG k (DT k.mem k.ZJ c.a.toNat)
 else If k c
theorem Sk{n:Int}(h:n≠0):IC n≠0:=by
 unfold IC;rw[if_neg h]
 split<;>decide
theorem Xq{c:Φ}(h:Iv lo w g m i e c k)(a8:lo<=w.heap.size)(hK:Dg k)(call:AV)(he:0<=call.e)(R:call.e<3)(hk:2<=call.k/\call.k<=6)(ha:0<=call.a/\call.a<12)(nV:call.k=4->Bp call.b=true)(gh:call.c<=9223372036854775807):
 Ξ prog 128 #[call.on g] w (EL lo g w (Ff k call)):=by
 have S0:=Ep.start h a8 call;have P:Ff k call=if call.k=2 then K4 k call else if call.k=3 then LD k call else if call.k=4 then EG k (GV k.mem k.ZJ call.a.toNat call.b (AI k.XX call.e.toNat).PQ) else if call.k=5 then EG k (DT k.mem k.ZJ call.a.toNat) else If k call:=rfl
 have jJ:=λ(W:Ω) (hW:Γ (w.alloc (.cells (call.onCells g) 97)).heap.size (w.alloc (.cells (call.onCells g) 97)) W)=>ct (S0.below hW).yS (S0.below hW).lo hK call he R ha gh
 obtain⟨k1,e1,a1,b1,c1,nm⟩:=call;obtain⟨en,rfl⟩:∃n:Nat,e1=(n:Int):=⟨e1.toNat,by simp only at he;omega⟩
 obtain⟨Z,rfl⟩:∃n:Nat,a1=(n:Int):=⟨a1.toNat,by simp only at ha;omega⟩
 have bw:en<3:=by simp only at R;omega
 have bA:Z<12:=by simp only at ha;omega
 simp only[AV.on,AV.onCells] at S0 P hk nV jJ ⊢;simp only[yq] at P;obtain⟨ge,ex,e9,_,⟨⟨iB,iA⟩,iz,iy⟩,_⟩:=S0.XX (by rw[hK.zX];omega);rw[hK.zX] at e9;obtain⟨gi,b9,e8,_,_,⟨⟨iw,iu⟩,it,ir⟩,_⟩:=S0.ZJ (by rw[hK.len];omega);rw[hK.len] at e8;obtain⟨gm,bC,e7,_,⟨je,jd⟩,jc,jb⟩:=S0.mems (Ap hK).1;subst e7 e8 e9;obtain⟨V,y1,y2,y3,y4,y5,y6⟩:=S0.ys;obtain⟨x0,z,x2,x3⟩:=S0.xs;obtain⟨d0,d1,d2⟩:=S0.JK (f:=Z) (by rw[hK.len];exact bA);have ju:(Z:Int)<12:=ω;obtain⟨fb,fm,ki,kj⟩:=S0.lts;have A:=AA hK;have HS:=AA S0;clear hK h S0 a8 he R;obtain⟨oV,oU⟩:=hk;have k5:k1=2∨k1=3∨k1=4∨k1=5∨k1=6:=ω;clear oV oU
 rcases k5 with rfl|rfl|rfl|rfl|rfl
 .have HP:=AA (show Ff k ⟨2,(en:Int),(Z:Int),b1,c1,nm⟩=K4 k ⟨2,(en:Int),(Z:Int),b1,c1,nm⟩ from P)
  have HG:=AA (show K4 k ⟨2,(en:Int),(Z:Int),b1,c1,nm⟩=if(JK k.ZJ Z).k≠1 then(k,0,3) else if(JK k.ZJ Z).r≠0 then(k,0,2) else({k with ZJ:=k.ZJ.set Z AW.zero},0,0) from rfl);clear P jJ
  by_cases L:(JK k.ZJ Z).k=1
  .have t1:((JK k.ZJ Z).k==1)=true:=by simp[L]
   by_cases K:(JK k.ZJ Z).r=0
   .have vs:=AA (show Ff k ⟨2,(en:Int),(Z:Int),b1,c1,nm⟩=({k with ZJ:=k.ZJ.set Z AW.zero},0,0) by rw[HP.u,HG.u,if_neg (by simp[L]),if_neg (by simp[K])])
    have H1:=AA L;have H2:=AA K;clear L K;go_in;go_wp2_with fail;generalize w.alloc _=W0 at*;have CG:=AA (Td _ k.ZJ Z W0 HS.yS.2.2.2.1.rd (Ap A.u).2.1 bA H1 H2.u);refine CG.mono ?_;rintro r w1 ⟨v',rfl,hO,O⟩;have S2:=AA (HS.zy O hO);have fz:=AK (HS.below O).yS.1;have z:=(HS.below O).xs.2.1;have V:=(HS.below O).ys.1;obtain⟨_,_,rfl,_,_⟩:=hO.rd.shape;rw[yi] at S2;clear hO O;go_wp2;go_ret;exact⟨by rw[vs.u]<;>rfl,λ_=>⟨_,_,_,_,by rw[vs.u];exact S2.yS⟩,S2.bel⟩
   have vs:=AA (show Ff k ⟨2,(en:Int),(Z:Int),b1,c1,nm⟩=(k,0,2) by rw[HP.u,HG.u,if_neg (by simp[L]),if_pos K])
   have H1:=AA L;have H2:=AA K;clear L K;go_in;go_wp2_with fail;generalize w.alloc _=W0 at*;have CG:=AA (Uz _ k.ZJ Z W0 HS.yS.2.2.2.1.rd (Ap A.u).2.1 bA H1 H2.u);refine CG.mono ?_;rintro r w1 ⟨rfl,O⟩;have S2:=AA (HS.below O);go_wp2;go_ret;exact EL.bad vs ψ S2.bel
  have t1:((JK k.ZJ Z).k==1)=false:=by simp[L]
  have vs:=AA (show Ff k ⟨2,(en:Int),(Z:Int),b1,c1,nm⟩=(k,0,3) by rw[HP.u,HG.u,if_pos L]);clear L;go_in;go_wp2;go_ret;exact EL.bad vs ψ HS.bel
 .have HP:=AA (show Ff k ⟨3,(en:Int),(Z:Int),b1,c1,nm⟩=LD k ⟨3,(en:Int),(Z:Int),b1,c1,nm⟩ from P)
  have HG:=AA (show LD k ⟨3,(en:Int),(Z:Int),b1,c1,nm⟩=if(JK k.ZJ Z).k≠1∨Bo b1 0 3=false∨EJ c1=false then(k,0,3) else({k with mem:=Cs k.mem Z b1.toNat c1},0,0) from rfl);clear P jJ;have C0:=AA (λW=>A7 (QB b1 W));have C1:=AA (λW=>A7 (Gp c1 W))
  by_cases L:(JK k.ZJ Z).k=1
  .have t1:((JK k.ZJ Z).k==1)=true:=by simp[L]
   have H1:=AA L;clear L;go_in;go_wp2_with fail;generalize w.alloc _=W0 at*;cases K:Bo b1 0 3
   .have vs:=AA (show Ff k ⟨3,(en:Int),(Z:Int),b1,c1,nm⟩=(k,0,3) by rw[HP.u,HG.u,if_pos (.inr (.inl K))])
    have T:=AA K;clear K;refine(C0 _).mono ?_;rintro r w1 ⟨rfl,O⟩;rw[T.u];have S2:=AA (HS.below O);clear V y1 y2 y3 y4 y5 y6 x0 z x2 x3 d0 d1 d2;go_wp2;go_ret;exact EL.bad vs ψ S2.bel
   have T:=AA K
   have im:=Aa.1 K;obtain⟨bn,rfl⟩:∃n:Nat,b1=(n:Int):=⟨b1.toNat,ω⟩
   have iW:bn<4:=ω;clear K im;refine(C0 _).mono ?_;rintro r W1 ⟨rfl,O⟩;rw[T.u];have S1:=AA (HS.below O);clear V y1 y2 y3 y4 y5 y6 x0 z x2 x3 d0 d1 d2 O;obtain⟨V,y1,y2,y3,y4,y5,y6⟩:=S1.ys;go_wp2_with fail;cases h3:Bo c1 0 9999
   .have vs:=AA (show Ff k ⟨3,(en:Int),(Z:Int),(bn:Int),c1,nm⟩=(k,0,3) by rw[HP.u,HG.u,if_pos (.inr (.inr h3))])
    have T3:=AA h3;clear h3;refine(C1 _).mono ?_;rintro r w1 ⟨rfl,O⟩;rw[T3.u];have S2:=AA (S1.below O);clear V y1 y2 y3 y4 y5 y6;go_wp2;go_ret;exact EL.bad vs ψ S2.bel
   have T3:=AA h3
   have vs:=AA (show Ff k ⟨3,(en:Int),(Z:Int),(bn:Int),c1,nm⟩=({k with mem:=Cs k.mem Z bn c1},0,0) by rw[HP.u,HG.u,if_neg (by rintro(x|x|x);(· exact x H1.u);(· rw[T.u] at x;cases x);(· rw[show EJ c1=true from h3] at x;cases x)),yq]);clear h3;refine(C1 _).mono ?_;rintro r W2 ⟨rfl,O⟩;rw[T3.u];have S2:=AA (S1.below O);clear V y1 y2 y3 y4 y5 y6 O;obtain⟨V,_,_,_,y4,y5,_⟩:=S2.ys;obtain⟨x0,_,_,_⟩:=S2.xs;obtain⟨fb,fm,_,_⟩:=S2.lts;obtain⟨gw,gP,Dw,kA,kI,Dj,iK,⟨⟨kh,kg⟩,ke,kc⟩,_,_,_⟩:=S2.mrow (Ap A.u).1 (f:=Z) bA;have kB:=yK _ _ Dw;have mE:(bn:Int)<4:=ω;clear Dj iK;go_wp2_with fail;refine Ac 15 139 [.p w.heap.size 0,.p g 0,.p g 0,.p g 0,.s gm 12 bC,.i ((Z:Int)),.p gm Z,.s gw 4 gP,.p w.heap.size 1,.p w.heap.size 4,.i ((bn:Int)),.p w.heap.size 1,.p w.heap.size 5,.i c1,.p gw bn] (λ_ _ _=>True) ?_ ?_
   .intro i D o X a N Y H J h2 A
    have br:=bc J fb y4;have ei:=bc J fb y5
    match i,D with
    |0,_|2,_|3,_|5,_|8,_|9,_|11,_|12,_=>exact sP X A Y H
    |1,_=>exact sL X A Y H (hl:=Of (bc J fb V))
    |4,_=>exact sL X A Y H (hl:=GR (bc J fm x0))
    |6,_|14,_=>exact sI X A Y H (hr:=by clear H Y A;go_simp)
    |7,_=>exact sL X A Y H (hl:=K5 (bc J kB Dw))
    |10,_|13,_=>exact sL X A Y H (hl:=F7 ‹_›)
    |_+15,hq=>omega
   intro E N hR J
   have gK:(E 13)=.int .i64 c1:=Be hR 13;have iQ:(E 14)=.pointer (some ⟨gw,bn,none⟩):=Be hR 14;clear hR;simp only[Aj,Ae,yL,yI,yJ,yH,gK,iQ];simp;clear gK iQ;have S3:=AA (S2.below J);obtain⟨lA,iZ,jI,_,_,Dj,iK,_,_,_,SW⟩:=S3.mrow (Ap A.u).1 (f:=Z) bA;have fv:=(J.cell (p:=⟨gm,Z,none⟩) kB).trans Dw;rw[fv] at jI;have lr:gw=lA:=by simp at jI;exact jI.1
   subst lr;have Dv:=Dj bn iW;have fz:=iK bn;have S4:=AA (SW bn c1 iW);clear J V y4 y5 x0 Dw jI fv Dj iK SW;go_wp2;go_ret;exact⟨by rw[vs.u]<;>rfl,λ_=>⟨_,_,_,_,by rw[vs.u];exact S4.yS⟩,S4.bel⟩
  have t1:((JK k.ZJ Z).k==1)=false:=by simp[L]
  have vs:=AA (show Ff k ⟨3,(en:Int),(Z:Int),b1,c1,nm⟩=(k,0,3) by rw[HP.u,HG.u,if_pos (.inl L)]);clear L;go_in;go_wp2;go_ret;exact EL.bad vs ψ HS.bel
 .have pp:=nV rfl
  have HP:=AA (show Ff k ⟨4,(en:Int),(Z:Int),b1,c1,nm⟩=EG k (GV k.mem k.ZJ Z b1 (AI k.XX en).PQ) from P);obtain⟨xs,cd,hp⟩:∃xs cd,GV k.mem k.ZJ Z b1 (AI k.XX en).PQ=(xs,cd):=⟨_,_,rfl⟩
  have jF:=AA hp;clear P jJ hp
  by_cases L:(JK k.ZJ Z).k=1
  all_goals
   first
   |have t1:((JK k.ZJ Z).k==1)=true:=by simp[L]
   |have t1:((JK k.ZJ Z).k==1)=false:=by simp[L]
   clear L;go_in;go_wp2_with fail;generalize w.alloc _=W2 at*;have ls:=HS.zg;obtain⟨ua,uc,D0,D1,hn⟩:=HS.env (j:=en) (by rw[A.zX];exact bw);have CE:=AA (λW (hW:Γ W2 W2 W)=>HS.callEnv (en:=en) rfl bw W hW);simp only[AV.on,AV.onCells] at CE;have fo:=λW (hW:Γ W2 W2 W)=>U6 _ _ _ k.mem k.ZJ Z b1 (AI k.XX en).PQ W (Bn.below HS.yS.2.2.rd.1 hW) (Ap A.u).1 (BN.below HS.yS.2.2.2.1.rd hW) (Ap A.u).2.1 bA pp (BN.below hn hW) (Ez (A.PQ en bw)) (A.PQ en bw)
   rw[jF.u] at fo;unfold Nj at fo;simp only at fo;have CT:=AA fo;clear fo hn D1;refine BD 24 139 [.p w.heap.size 0,.p g 0,.p g 0,.p g 0,.s gm 12 bC,.p w.heap.size 0,.p g 0,.p g 0,.p g 1,.s gi 12 b9,.i ((Z:Int)),.p w.heap.size 1,.p w.heap.size 4,.i b1,.a #[.pointer g,.int .i64 4,.int .i64 en,.int .i64 Z,.int .i64 b1,.int .i64 c1,.string nm],.p ge (en*2),.p ge (en*2),.p ge (en*2),.v (.slice ua (AI k.XX en).PQ.length uc),.z,.z,.z,.i cd,.z] (λix vv ww=>match ix with
    |19|20=>∃v',vv=.tuple #[v',cd]/\AP W2.heap.size 115 3 Au ww v' xs
    |21|23=>AP W2.heap.size 115 3 Au ww vv xs
    |_=>True) ?_ ?_ ?_
   .intro i D o X a N Y H J h2 A
    have a6:=bc J fb V;have ay:=bc J fm x0;have az:=bc J fm z;have br:=bc J fb y4;have ei:=bc J fb y1;have ie:=bc J fb y2;have jf:=bc J fb y3;have jM:=bc J fb y5;have jL:=bc J fb y6;have lf:=bc J ls D0
    match i,D with
    |0,_|2,_|3,_|5,_|7,_|8,_|10,_|11,_|12,_|16,_|17,_=>exact sP X A Y H
    |1,_|6,_=>exact sL X A Y H (hl:=Of ‹_›)
    |4,_=>exact sL X A Y H (hl:=GR ‹_›)
    |9,_=>exact sL X A Y H (hl:=Gi ‹_›)
    |13,_=>exact sL X A Y H (hl:=F7 ‹_›)
    |14,_=>exact sL X A Y H (hl:=fY ‹_› ‹_› ‹_› ‹_› ‹_› ‹_› ‹_›)
    |15,_=>exact sD X A Y H (CE _ J)
    |18,_=>exact sL X A Y H (hl:=Kt ‹_›)
    |19,_=>exact sC X A Y H (CT _ J) (by rintro e w_ ⟨v',rfl,hO,aq⟩;exact⟨_,rfl,⟨_,rfl,hO.lower J.size⟩,aq⟩)
    |20,_=>
     clear a6 ay az br ei ie jf jM jL lf;obtain rfl:=yP X;have oj:∃v',(a.tmps[105]?.getD Θ)=.tuple #[v',cd]/\AP W2.heap.size 115 3 Au N v' xs:=Bd H 19
     clear H Y;obtain⟨v',oj,hO⟩:=oj;refine yO ?_;go_simp;exact A _ _ ⟨_,rfl,hO⟩ (yN _ _)
    |21,_=>
     clear a6 ay az br ei ie jf jM jL lf;obtain rfl:=yP X;have jx:∃v',(a.tmps[85]?.getD Θ)=.tuple #[v',cd]/\AP W2.heap.size 115 3 Au N v' xs:=Bd H 20
     clear H Y;obtain⟨v',jx,hO⟩:=jx;refine yO ?_;go_simp;exact A _ _ hO (yN _ _)
    |22,_=>
     clear a6 ay az br ei ie jf jM jL lf;obtain rfl:=yP X;have jx:∃v',(a.tmps[85]?.getD Θ)=.tuple #[v',cd]/\AP W2.heap.size 115 3 Au N v' xs:=Bd H 20
     clear H Y;obtain⟨v',jx,hO⟩:=jx;refine yO ?_;go_simp;exact A _ _ rfl (yN _ _)
    |23,_=>clear a6 ay az br ei ie jf jM jL lf;obtain rfl:=yP X;have j2:AP W2.heap.size 115 3 Au N (a.tmps[106]?.getD Θ) xs:=Bd H 21;clear H Y;refine yO ?_;go_simp;exact A _ _ j2 (yN _ _)
    |_+24,hq=>omega
   .intro i D vv wz c7 bf hz
    match i,D with
    |19,_|20,_=>exact(by obtain⟨v',h0,L⟩:=hz;exact⟨v',h0,AP.below L bf⟩)
    |21,_|23,_=>exact(AP.below hz bf)
    |0,_|1,_|2,_|3,_|4,_|5,_|6,_|7,_|8,_|9,_|10,_|11,_|12,_|13,_|14,_|15,_|16,_|17,_|18,_|22,_=>exact hz
    |_+24,hq=>omega
   intro E N hR J
   have g0:(E 22)=.int .i64 cd:=Be hR 22;have ld:AP W2.heap.size 115 3 Au N (E 23) xs:=Be hR 23;clear hR;simp only[Aj,Ae,yL,yI,yJ,yH,g0];simp;generalize E 23=z23 at ld ⊢;clear g0;have S3:=AA (HS.zy J ld);have kS:=AK (HS.below J).yS.1;have nj:=(HS.below J).xs.2.1;have oL:=(HS.below J).ys.1;have CC:=AA (λW=>QQ cd W);obtain⟨_,_,rfl,_,_⟩:=ld.rd.shape;clear ld J V y1 y2 y3 y4 y5 y6 x0 z x2 x3 d0 d1 d2 D0;go_wp2_with (refine(CC _).mono ?_;rintro r w9 ⟨rfl,rfl⟩);go_ret
   by_cases h0:cd=0
   .subst h0
    have vs:Ff k ⟨4,(en:Int),(Z:Int),b1,c1,nm⟩=({k with ZJ:=xs},0,0):=by rw[HP.u,jF.u];rfl
    exact⟨by rw[vs]<;>rfl,λ_=>⟨_,_,_,_,by rw[vs];exact S3.yS⟩,S3.bel⟩
   have vs:Ff k ⟨4,(en:Int),(Z:Int),b1,c1,nm⟩=(k,0,IC cd):=by
    rw[HP.u,jF.u];unfold EG;rw[if_neg h0]
   exact EL.bad vs (Sk h0) S3.bel
 .have HP:=AA (show Ff k ⟨5,(en:Int),(Z:Int),b1,c1,nm⟩=EG k (DT k.mem k.ZJ Z) from P)
  obtain⟨xs,cd,hp⟩:∃xs cd,DT k.mem k.ZJ Z=(xs,cd):=⟨_,_,rfl⟩
  have jF:=AA hp;clear P jJ hp
  by_cases L:(JK k.ZJ Z).k=1
  all_goals
   first
   |have t1:((JK k.ZJ Z).k==1)=true:=by simp[L]
   |have t1:((JK k.ZJ Z).k==1)=false:=by simp[L]
   clear L;go_in;go_wp2_with fail;generalize w.alloc _=W2 at*;have ls:=HS.zg;obtain⟨ua,uc,D0,D1,hn⟩:=HS.env (j:=en) (by rw[A.zX];exact bw);have CE:=AA (λW (hW:Γ W2 W2 W)=>HS.callEnv (en:=en) rfl bw W hW);simp only[AV.on,AV.onCells] at CE;have fo:=λW (hW:Γ W2 W2 W)=>Ra _ _ k.mem k.ZJ Z W (Bn.below HS.yS.2.2.rd.1 hW) (Ap A.u).1 (BN.below HS.yS.2.2.2.1.rd hW) (Ap A.u).2.1 bA
   rw[jF.u] at fo;unfold Nj at fo;simp only at fo;have CT:=AA fo;clear fo hn D1;refine BD 16 139 [.p w.heap.size 0,.p g 0,.p g 0,.p g 0,.s gm 12 bC,.p w.heap.size 0,.p g 0,.p g 0,.p g 1,.s gi 12 b9,.i ((Z:Int)),.z,.z,.z,.i cd,.z] (λix vv ww=>match ix with
    |11|12=>∃v',vv=.tuple #[v',cd]/\AP W2.heap.size 115 3 Au ww v' xs
    |13|15=>AP W2.heap.size 115 3 Au ww vv xs
    |_=>True) ?_ ?_ ?_
   .intro i D o X a N Y H J h2 A
    have a6:=bc J fb V;have ay:=bc J fm x0;have az:=bc J fm z
    match i,D with
    |0,_|2,_|3,_|5,_|7,_|8,_|10,_=>exact sP X A Y H
    |1,_|6,_=>exact sL X A Y H (hl:=Of ‹_›)
    |4,_=>exact sL X A Y H (hl:=GR ‹_›)
    |9,_=>exact sL X A Y H (hl:=Gi ‹_›)
    |11,_=>exact sC X A Y H (CT _ J) (by rintro e w_ ⟨v',rfl,hO,aq⟩;exact⟨_,rfl,⟨_,rfl,hO.lower J.size⟩,aq⟩)
    |12,_=>
     clear a6 ay az;obtain rfl:=yP X;have gj:∃v',(a.tmps[129]?.getD Θ)=.tuple #[v',cd]/\AP W2.heap.size 115 3 Au N v' xs:=Bd H 11
     clear H Y;obtain⟨v',gj,hO⟩:=gj;refine yO ?_;go_simp;exact A _ _ ⟨_,rfl,hO⟩ (yN _ _)
    |13,_=>
     clear a6 ay az;obtain rfl:=yP X;have iY:∃v',(a.tmps[117]?.getD Θ)=.tuple #[v',cd]/\AP W2.heap.size 115 3 Au N v' xs:=Bd H 12
     clear H Y;obtain⟨v',iY,hO⟩:=iY;refine yO ?_;go_simp;exact A _ _ hO (yN _ _)
    |14,_=>
     clear a6 ay az;obtain rfl:=yP X;have iY:∃v',(a.tmps[117]?.getD Θ)=.tuple #[v',cd]/\AP W2.heap.size 115 3 Au N v' xs:=Bd H 12
     clear H Y;obtain⟨v',iY,hO⟩:=iY;refine yO ?_;go_simp;exact A _ _ rfl (yN _ _)
    |15,_=>clear a6 ay az;obtain rfl:=yP X;have gZ:AP W2.heap.size 115 3 Au N (a.tmps[130]?.getD Θ) xs:=Bd H 13;clear H Y;refine yO ?_;go_simp;exact A _ _ gZ (yN _ _)
    |_+16,hq=>omega
   .intro i D vv wz c7 bf hz
    match i,D with
    |11,_|12,_=>exact(by obtain⟨v',h0,L⟩:=hz;exact⟨v',h0,AP.below L bf⟩)
    |13,_|15,_=>exact(AP.below hz bf)
    |0,_|1,_|2,_|3,_|4,_|5,_|6,_|7,_|8,_|9,_|10,_|14,_=>exact hz
    |_+16,hq=>omega
   intro E N hR J
   have iQ:(E 14)=.int .i64 cd:=Be hR 14;have fl:AP W2.heap.size 115 3 Au N (E 15) xs:=Be hR 15;clear hR;simp only[Aj,Ae,yL,yI,yJ,yH,iQ];simp;generalize E 15=z15 at fl ⊢;clear iQ;have S3:=AA (HS.zy J fl);have kS:=AK (HS.below J).yS.1;have nj:=(HS.below J).xs.2.1;have oL:=(HS.below J).ys.1;have CC:=AA (λW=>QQ cd W);obtain⟨_,_,rfl,_,_⟩:=fl.rd.shape;clear fl J V y1 y2 y3 y4 y5 y6 x0 z x2 x3 d0 d1 d2 D0;go_wp2_with (refine(CC _).mono ?_;rintro r w9 ⟨rfl,rfl⟩);go_ret
   by_cases h0:cd=0
   .subst h0
    have vs:Ff k ⟨5,(en:Int),(Z:Int),b1,c1,nm⟩=({k with ZJ:=xs},0,0):=by rw[HP.u,jF.u];rfl
    exact⟨by rw[vs]<;>rfl,λ_=>⟨_,_,_,_,by rw[vs];exact S3.yS⟩,S3.bel⟩
   have vs:Ff k ⟨5,(en:Int),(Z:Int),b1,c1,nm⟩=(k,0,IC cd):=by
    rw[HP.u,jF.u];unfold EG;rw[if_neg h0]
   exact EL.bad vs (Sk h0) S3.bel
 have HP:=AA (show Ff k ⟨6,(en:Int),(Z:Int),b1,c1,nm⟩=If k ⟨6,(en:Int),(Z:Int),b1,c1,nm⟩ from P)
 have p1:=AA jJ;clear P jJ d1 d2
 by_cases L:(JK k.ZJ Z).k=1
 all_goals
  first
  |have t1:((JK k.ZJ Z).k==1)=true:=by simp[L]
  |have t1:((JK k.ZJ Z).k==1)=false:=by simp[L]
  clear L;go_in;go_wp2_with fail;generalize w.alloc _=W0 at*;refine(p1 W0 (yN _ _)).mono ?_;rintro r w1 ⟨rfl,pH,O⟩;go_wp2;go_ret;exact⟨by rw[HP.u]<;>rfl,λh=>by rw[HP.u] at h ⊢;exact pH h,(HS.bel).trans O⟩
theorem aJ:(Lt k c).2.1=0:=by
 unfold Lt
 split
 .rfl
 split<;>rfl
theorem Xw:(Ft k c).2.1=0:=by
 unfold Ft
 split
 .rfl
 split
 .rfl
 split<;>rfl
theorem XD:(EX k c).2.1=0:=by
 unfold EX
 split
 .rfl
 split
 .rfl
 split<;>rfl
theorem dA:(If k c).2.1=0:=by
 unfold If
 split
 .rfl
 split
 .rfl
 split<;>rfl
theorem QR{r:List AW×Int}:(EG k r).2.1=0:=by
 unfold EG
 split<;>rfl
theorem Rp:(Ff k c).2.1=0:=by
 unfold Ff
 split
 .unfold K4
  split
  .rfl
  split<;>rfl
 split
 .unfold LD
  split<;>rfl
 split
 .exact QR
 split
 .exact QR
 exact dA
theorem EL.two{r:Ending}(h:EL lo g W res r w')(hv:res.2.1=0)(O:Γ lo w W):∃n,r=.returned (.int .i64 n)/\GZ lo g w res (.returned (.tuple #[θ,.int .i64 n])) w':=by obtain⟨L,K,h3⟩:=h;exact⟨_,L,by rw[hv],K,O.trans h3⟩
theorem GZ.of{r:Ending}(h:GZ lo g W res r w')(O:Γ lo w W):∃v n,r=.returned (.tuple #[.int .i64 v,.int .i64 n])/\GZ lo g w res (.returned (.tuple #[.int .i64 v,.int .i64 n])) w':=by obtain⟨L,K,h3⟩:=h;exact⟨_,_,L,rfl,K,O.trans h3⟩
theorem UN:IN k c=if Bo c.a 0 11=false∨(JK k.ZJ c.a.toNat).k=0∨(c.k=4/\Bp c.b=false) then(k,0,3) else if Fg k c.e (JK k.ZJ c.a.toNat).g=false then(k,0,1) else Ff k c:=rfl
theorem Kz (h:Bo c.a 0 11=false∨(JK k.ZJ c.a.toNat).k=0∨(c.k=4/\Bp c.b=false)):IN k c=(k,0,3):=UN.trans (if_pos h)
theorem WS (L:Bo c.a 0 11=true)(K:(JK k.ZJ c.a.toNat).k≠0)(h3:c.k=4->Bp c.b=true):IN k c=if Fg k c.e (JK k.ZJ c.a.toNat).g=false then(k,0,1) else Ff k c:=
 UN.trans (if_neg (by rintro(x|x|⟨x,y⟩);(· rw[L] at x;cases x);(· exact K x);(· rw[h3 x] at y;cases y)))
theorem di{c:Φ}(h:Iv lo w g m i e c k)(a8:lo<=w.heap.size)(hK:Dg k)(call:AV)(he:0<=call.e)(R:call.e<3)(ji:call.nm.size<=maxLen)(gh:call.c<=9223372036854775807):
 Ξ prog 64 #[call.on g] w (GZ lo g w (Ad k call)):=by
 have S0:=Ep.start h a8 call;obtain⟨k1,e1,a1,b1,c1,nm⟩:=call;obtain⟨en,rfl⟩:∃n:Nat,e1=(n:Int):=⟨e1.toNat,by simp only at he;omega⟩
 have bw:en<3:=by simp only at R;omega
 simp only[AV.on,AV.onCells] at S0 ji gh ⊢;obtain⟨ge,ex,e9,_,⟨⟨iB,iA⟩,iz,iy⟩,_⟩:=S0.XX (by rw[hK.zX];omega);rw[hK.zX] at e9;obtain⟨gi,b9,e8,_,_,⟨⟨iw,iu⟩,it,ir⟩,_⟩:=S0.ZJ (by rw[hK.len];omega);rw[hK.len] at e8;obtain⟨gm,bC,e7,_,⟨je,jd⟩,jc,jb⟩:=S0.mems (Ap hK).1;subst e7 e8 e9;obtain⟨V,y1,y2,y3,y4,y5,y6⟩:=S0.ys;obtain⟨x0,z,x2,x3⟩:=S0.xs;have A:=AA hK;have HS:=AA S0;clear hK h S0 a8 he R;have CY:=λ(W:Ω)(mm ii ee cc:Φ)(h:Iv lo W g mm ii ee cc k)(Z:Nat)=>Wq h ⟨k1,(en:Int),(Z:Int),b1,c1,nm⟩ (JK k.ZJ Z).g χ (by rw[A.zX];simp only;omega)
 simp only[AV.on,AV.onCells] at CY;replace CY:=AA CY
 by_cases l4:2<=k1/\k1<=6
 .have HP:=AA (show Ad k ⟨k1,(en:Int),a1,b1,c1,nm⟩=IN k ⟨k1,(en:Int),a1,b1,c1,nm⟩ by
   have cl:k1=2∨k1=3∨k1=4∨k1=5∨k1=6:=ω;rcases cl with rfl|rfl|rfl|rfl|rfl<;>rfl)
  have CF:=λ(W:Ω)(mm ii ee cc:Φ)(h:Iv lo W g mm ii ee cc k)(hl:lo<=W.heap.size)(Z:Nat)(ha:Z<12)(ht:k1=4->Bp b1=true)=>Xq h hl A ⟨k1,(en:Int),(Z:Int),b1,c1,nm⟩ χ (by simp only;omega) l4 (by simp only;omega) ht gh
  simp only[AV.on,AV.onCells] at CF;replace CF:=AA CF
  by_cases jN:k1=4
  .subst jN
   go_in;go_wp2_with fail;generalize w.alloc _=W0 at*;have cF:=V8 (w1:=W0) (λW=>EA a1 W);have cT:=V8 (w1:=W0) (λW=>GJ b1 W);replace V:=yv V;replace y1:=yv y1;replace y2:=yv y2;replace y3:=yv y3;replace y4:=yv y4;replace y5:=yv y5;replace y6:=yv y6;replace z:=yv z;clear x0 x2 x3;cases b6:Bo a1 0 11
   .have vs:=AA (HP.trans (Kz (.inl b6)))
    rw[b6] at cF;have d0:=V;have d1:=V;refine Bb ?_
    repeat(go_big_quiet_step (first|exact cF _ _|exact cT _ _))
    refine Ba λwq bq=>?_
    clear V y1 y2 y3 y4 y5 y6 z d0 d1;go_wp2;go_ret2;exact GZ.bad vs ψ (HS.below bq).bel
   have T:=AA b6;rw[b6] at cF;obtain⟨Z,rfl⟩:∃n:Nat,a1=(n:Int):=⟨a1.toNat,by have:=(Aa.1 b6).1;omega⟩
   have bA:Z<12:=by have:=(Aa.1 b6).2;omega
   have oe:(Z:Int)<12:=ω;clear b6;obtain⟨d0,d1,_⟩:=HS.JK (f:=Z) (by rw[A.len];exact bA);replace d0:=yv d0;replace d1:=yv d1
   by_cases h0:(JK k.ZJ Z).k=0
   .have vs:=AA (HP.trans (Kz (.inr (.inl h0))))
    have t0:((JK k.ZJ Z).k==0)=true:=by simp[h0]
    clear h0;refine Bb ?_
    repeat(go_big_quiet_step (first|exact cF _ _|exact cT _ _))
    refine Ba λwq bq=>?_
    clear V y1 y2 y3 y4 y5 y6 z d0 d1;go_wp2;go_ret2;exact GZ.bad vs ψ (HS.below bq).bel
   have t0:((JK k.ZJ Z).k==0)=false:=by simp[h0]
   cases ht:Bp b1
   .have vs:=AA (HP.trans (Kz (.inr (.inr ⟨rfl,ht⟩))))
    rw[ht] at cT;refine Bb ?_
    repeat(go_big_quiet_step (first|exact cF _ _|exact cT _ _))
    refine Ba λwq bq=>?_
    clear V y1 y2 y3 y4 y5 y6 z d0 d1;go_wp2;go_ret2;exact GZ.bad vs ψ (HS.below bq).bel
   rw[ht] at cT;have cq:=AA (HP.trans (WS T h0 (λ_=>ht)));clear h0;refine Bb ?_
   repeat(go_big_quiet_step (first|exact cF _ _|exact cT _ _))
   refine Ba λwq bq=>?_
   have S1:=AA (HS.below bq);obtain⟨W1,rfl⟩:∃W1:Ω,W1=wq:=⟨_,rfl⟩
   clear V y1 y2 y3 y4 y5 y6 z d0 d1 t0 cF cT bq;obtain⟨V,y1,y2,y3,y4,y5,y6⟩:=S1.ys;have z:=S1.xs.2.1;obtain⟨d0,d1,_⟩:=S1.JK (f:=Z) (by rw[A.len];exact bA);have CM:=U5 (w1:=W1) (λW hW=>CY W _ _ _ _ (S1.below hW).yS Z);replace V:=yv V;replace y1:=yv y1;replace y2:=yv y2;replace y3:=yv y3;replace y4:=yv y4;replace y5:=yv y5;replace y6:=yv y6;replace z:=yv z;replace d1:=yv d1;cases hm:Fg k (en:Int) (JK k.ZJ Z).g
   .have vs:=AA (cq.trans (if_pos hm))
    rw[hm] at CM;clear hm;go_wp2_with fail;refine Bb ?_
    repeat(go_big_quiet_step (exact CM _ _))
    refine Ba λwq bq=>?_
    clear V y1 y2 y3 y4 y5 y6 z d0 d1;go_wp2;go_ret2;exact GZ.bad vs ψ (S1.below bq).bel
   have cg:=AA (cq.trans (if_neg (by show ¬Fg k (en:Int) (JK k.ZJ Z).g=false;rw[hm];decide)));rw[hm] at CM;clear hm;go_wp2_with fail;refine Bb ?_
   repeat(go_big_quiet_step (exact CM _ _))
   refine Ba λwq bq=>?_
   have S2:=AA (S1.below bq);obtain⟨W2,rfl⟩:∃W2:Ω,W2=wq:=⟨_,rfl⟩
   clear V y1 y2 y3 y4 y5 y6 z d0 d1 bq CM;obtain⟨V,y1,y2,y3,y4,y5,y6⟩:=S2.ys;go_wp2_with (refine(CF W2 _ _ _ _ S2.yS S2.lo Z bA (λ_=>ht)).mono ?_;rintro r w1 hr;obtain⟨n,rfl,hE⟩:=EL.two hr Rp S2.bel;have HE:=AA hE;clear hr hE V y1 y2 y3 y4 y5 y6);go_ret2;rw[cg.u];exact HE.u
  have HF:k1=4->Bp b1=true:=λx=>(jN x).elim
  have cl:k1=2∨k1=3∨k1=5∨k1=6:=ω;clear l4 jN
  rcases cl with rfl|rfl|rfl|rfl
  all_goals
   go_in;go_wp2_with fail;generalize w.alloc _=W0 at*;have cF:=V8 (w1:=W0) (λW=>EA a1 W);have cT:=V8 (w1:=W0) (λW=>GJ b1 W);replace V:=yv V;replace y1:=yv y1;replace y2:=yv y2;replace y3:=yv y3;replace y4:=yv y4;replace y5:=yv y5;replace y6:=yv y6;replace z:=yv z;clear x0 x2 x3;cases b6:Bo a1 0 11
   .have vs:=AA (HP.trans (Kz (.inl b6)))
    rw[b6] at cF;have d0:=V;have d1:=V;refine Bb ?_
    repeat(go_big_quiet_step (first|exact cF _ _|exact cT _ _))
    refine Ba λwq bq=>?_
    clear V y1 y2 y3 y4 y5 y6 z d0 d1;go_wp2;go_ret2;exact GZ.bad vs ψ (HS.below bq).bel
   have T:=AA b6;rw[b6] at cF;obtain⟨Z,rfl⟩:∃n:Nat,a1=(n:Int):=⟨a1.toNat,by have:=(Aa.1 b6).1;omega⟩
   have bA:Z<12:=by have:=(Aa.1 b6).2;omega
   have oe:(Z:Int)<12:=ω;clear b6;obtain⟨d0,d1,_⟩:=HS.JK (f:=Z) (by rw[A.len];exact bA);replace d0:=yv d0;replace d1:=yv d1
   by_cases h0:(JK k.ZJ Z).k=0
   .have vs:=AA (HP.trans (Kz (.inr (.inl h0))))
    have t0:((JK k.ZJ Z).k==0)=true:=by simp[h0]
    clear h0;refine Bb ?_
    repeat(go_big_quiet_step (first|exact cF _ _|exact cT _ _))
    refine Ba λwq bq=>?_
    clear V y1 y2 y3 y4 y5 y6 z d0 d1;go_wp2;go_ret2;exact GZ.bad vs ψ (HS.below bq).bel
   have t0:((JK k.ZJ Z).k==0)=false:=by simp[h0]
   have cq:=AA (HP.trans (WS T h0 χ));clear h0;refine Bb ?_
   repeat(go_big_quiet_step (first|exact cF _ _|exact cT _ _))
   refine Ba λwq bq=>?_
   have S1:=AA (HS.below bq);obtain⟨W1,rfl⟩:∃W1:Ω,W1=wq:=⟨_,rfl⟩
   clear V y1 y2 y3 y4 y5 y6 z d0 d1 t0 cF cT bq;obtain⟨V,y1,y2,y3,y4,y5,y6⟩:=S1.ys;have z:=S1.xs.2.1;obtain⟨d0,d1,_⟩:=S1.JK (f:=Z) (by rw[A.len];exact bA);have CM:=U5 (w1:=W1) (λW hW=>CY W _ _ _ _ (S1.below hW).yS Z);replace V:=yv V;replace y1:=yv y1;replace y2:=yv y2;replace y3:=yv y3;replace y4:=yv y4;replace y5:=yv y5;replace y6:=yv y6;replace z:=yv z;replace d1:=yv d1;cases hm:Fg k (en:Int) (JK k.ZJ Z).g
   .have vs:=AA (cq.trans (if_pos hm))
    rw[hm] at CM;clear hm;go_wp2_with fail;refine Bb ?_
    repeat(go_big_quiet_step (exact CM _ _))
    refine Ba λwq bq=>?_
    clear V y1 y2 y3 y4 y5 y6 z d0 d1;go_wp2;go_ret2;exact GZ.bad vs ψ (S1.below bq).bel
   have cg:=AA (cq.trans (if_neg (by show ¬Fg k (en:Int) (JK k.ZJ Z).g=false;rw[hm];decide)));rw[hm] at CM;clear hm;go_wp2_with fail;refine Bb ?_
   repeat(go_big_quiet_step (exact CM _ _))
   refine Ba λwq bq=>?_
   have S2:=AA (S1.below bq);obtain⟨W2,rfl⟩:∃W2:Ω,W2=wq:=⟨_,rfl⟩
   clear V y1 y2 y3 y4 y5 y6 z d0 d1 bq CM;obtain⟨V,y1,y2,y3,y4,y5,y6⟩:=S2.ys;go_wp2_with (refine(CF W2 _ _ _ _ S2.yS S2.lo Z bA HF).mono ?_;rintro r w1 hr;obtain⟨n,rfl,hE⟩:=EL.two hr Rp S2.bel;have HE:=AA hE;clear hr hE V y1 y2 y3 y4 y5 y6);go_ret2;rw[cg.u];exact HE.u
 by_cases cl:k1=10∨k1=11
 .skip
  have HP:=AA (show Ad k ⟨k1,(en:Int),a1,b1,c1,nm⟩=PA k ⟨k1,(en:Int),a1,b1,c1,nm⟩ by rcases cl with rfl|rfl<;>rfl);have C:=dH HS.yS HS.lo A ⟨k1,(en:Int),a1,b1,c1,nm⟩ χ (by simp only;omega) cl;simp only[AV.on,AV.onCells] at C
  rcases cl with rfl|rfl
  all_goals
   go_in;go_wp2_with fail;generalize w.alloc _=W0 at*;refine C.mono ?_;rintro r w1 hr;obtain⟨v,n,rfl,hE⟩:=GZ.of hr HS.bel;have HE:=AA hE;clear C;clear hr hE V y1 y2 y3 y4 y5 y6 x0 z x2 x3;go_wp2;go_ret2;rw[HP.u];exact HE.u
 have l7:¬k1=10:=λx=>cl (.inl x)
 have l6:¬k1=11:=λx=>cl (.inr x)
 clear cl
 by_cases cl:k1=1
 .skip
  have HP:=AA (show Ad k ⟨k1,(en:Int),a1,b1,c1,nm⟩=Ju k ⟨k1,(en:Int),a1,b1,c1,nm⟩ by subst cl;rfl);have C:=aQ HS.yS HS.lo A ⟨k1,(en:Int),a1,b1,c1,nm⟩ χ (by simp only;omega) ji;simp only[AV.on,AV.onCells] at C;subst cl;go_in;go_wp2_with fail;generalize w.alloc _=W0 at*;refine C.mono ?_;rintro r w1 hr;obtain⟨v,n,rfl,hE⟩:=GZ.of hr HS.bel;have HE:=AA hE;clear C;clear hr hE V y1 y2 y3 y4 y5 y6 x0 z x2 x3;go_wp2;go_ret2;rw[HP.u];exact HE.u
 have me:=cl;clear cl
 by_cases cl:k1=7
 .skip
  have HP:=AA (show Ad k ⟨k1,(en:Int),a1,b1,c1,nm⟩=Lt k ⟨k1,(en:Int),a1,b1,c1,nm⟩ by subst cl;rfl);have C:=aI HS.yS HS.lo A ⟨k1,(en:Int),a1,b1,c1,nm⟩ χ (by simp only;omega);simp only[AV.on,AV.onCells] at C;subst cl;go_in;go_wp2_with fail;generalize w.alloc _=W0 at*;refine C.mono ?_;rintro r w1 hr;obtain⟨n,rfl,hE⟩:=EL.two hr aJ HS.bel;have HE:=AA hE;clear C;clear hr hE V y1 y2 y3 y4 y5 y6 x0 z x2 x3;go_wp2;go_ret2;rw[HP.u];exact HE.u
 have md:=cl;clear cl
 by_cases cl:k1=8
 .skip
  have HP:=AA (show Ad k ⟨k1,(en:Int),a1,b1,c1,nm⟩=Ft k ⟨k1,(en:Int),a1,b1,c1,nm⟩ by subst cl;rfl);have C:=Xv HS.yS HS.lo A ⟨k1,(en:Int),a1,b1,c1,nm⟩ χ (by simp only;omega) ji;simp only[AV.on,AV.onCells] at C;subst cl;go_in;go_wp2_with fail;generalize w.alloc _=W0 at*;refine C.mono ?_;rintro r w1 hr;obtain⟨n,rfl,hE⟩:=EL.two hr Xw HS.bel;have HE:=AA hE;clear C;clear hr hE V y1 y2 y3 y4 y5 y6 x0 z x2 x3;go_wp2;go_ret2;rw[HP.u];exact HE.u
 have l9:=cl;clear cl
 by_cases cl:k1=9
 .skip
  have HP:=AA (show Ad k ⟨k1,(en:Int),a1,b1,c1,nm⟩=EX k ⟨k1,(en:Int),a1,b1,c1,nm⟩ by subst cl;rfl);have C:=XC HS.yS HS.lo A ⟨k1,(en:Int),a1,b1,c1,nm⟩ χ (by simp only;omega) ji;simp only[AV.on,AV.onCells] at C;subst cl;go_in;go_wp2_with fail;generalize w.alloc _=W0 at*;refine C.mono ?_;rintro r w1 hr;obtain⟨n,rfl,hE⟩:=EL.two hr XD HS.bel;have HE:=AA hE;clear C;clear hr hE V y1 y2 y3 y4 y5 y6 x0 z x2 x3;go_wp2;go_ret2;rw[HP.u];exact HE.u
 have l8:=cl;clear cl;have nB:k1≠2:=ω;have nA:k1≠3:=ω;have jN:k1≠4:=ω;have nz:k1≠5:=ω;have ny:k1≠6:=ω;have vs:=AA (show Ad k ⟨k1,(en:Int),a1,b1,c1,nm⟩=(k,0,3) by unfold Ad;rw[if_neg me,if_neg (by rw[Bool.not_eq_true,VJ];show k1<2∨6<k1;omega),if_neg md,if_neg l9,if_neg l8,if_neg (by rintro(x|x);(· exact l7 x);(· exact l6 x))])
 have t1:(k1==1)=false:=by simp[me]
 have t2:(k1==2)=false:=by simp[nB]
 have t3:(k1==3)=false:=by simp[nA]
 have t4:(k1==4)=false:=by simp[jN]
 have t5:(k1==5)=false:=by simp[nz]
 have t6:(k1==6)=false:=by simp[ny]
 have t7:(k1==7)=false:=by simp[md]
 have t8:(k1==8)=false:=by simp[l9]
 have t9:(k1==9)=false:=by simp[l8]
 have ta:(k1==10)=false:=by simp[l7]
 have tb:(k1==11)=false:=by simp[l6]
 clear me nB nA jN nz ny md l9 l8 l7 l6 l4 V y2 y3 y4 y5 y6 x0 z x2 x3;go_in;go_wp2;go_ret2;exact GZ.bad vs ψ HS.bel
theorem VC{a b:ByteArray}:L3 a b=true↔a.data.toList<+:b.data.toList:=by unfold L3;exact List.isPrefixOf_iff_prefix
theorem UI{a b c:ByteArray}(L:L3 a b=true)(K:L3 b c=true):L3 a c=true:=VC.2 ((VC.1 L).trans (VC.1 K))
def RD(k:AQ)(f:Nat):Prop:=(JK k.ZJ f).r=1/\((∃t i,t<12/\Bp (A5 k t)=true/\i<4/\EP f (Aw k.mem t i)=true/\(JK k.ZJ t).g=gA)∨Ab k 0=(f:Int))
def EN(k k':AQ):Prop:=(∀e,e<3->Ci (BM k' e) gA=Ci (BM k e) gA)/\Ab k' 0=Ab k 0/\
 ∀f,f<12->(JK k.ZJ f).g=gA->A5 k f≠0->AJ k'.mem f=AJ k.mem f/\(JK k'.ZJ f).g=gA/\(RD k f->(JK k'.ZJ f).r=(JK k.ZJ f).r)
theorem EN.refl (k:AQ):EN k k:=⟨λ_ _=>rfl,rfl,λ_ _ h _=>⟨rfl,h,λ_=>rfl⟩⟩
section
variable {k:AQ} (h:Dg k)
include h
theorem QP{t:Nat}(hf:f<12)(X:RD k f)(ht:t<12)(jP:Bp (A5 k t)=true)(hg:(JK k.ZJ t).g≠gA):f∉named (AJ k.mem t):=λhm=>by
 obtain⟨i,D,R⟩:=h.named_at ht hm;obtain⟨L,K⟩:=X
 rcases K with⟨t',i',a,b,c,d,e⟩|K
 .have:=(h.once hf L ht jP D R a b c d).1
  subst this;exact hg e
 exact h.zm hf L ht jP D R (e:=0) ω K
theorem YN{e:Nat}(hf:f<12)(X:RD k f)(he:e<3)(h0:e≠0):Ab k e≠(f:Int):=λhr=>by
 obtain⟨L,K⟩:=X
 rcases K with⟨t',i',a,b,c,d,_⟩|K
 .exact h.zm hf L a b c d he hr
 have jh:=h.refs f hf
 rw[IZ h.zX] at jh;unfold Ab at hr K;have:e=1∨e=2:=ω;unfold Eg at jh
 rcases this with rfl|rfl<;>simp[hr,K] at jh<;>split at jh<;>omega
end
theorem Os{e:Nat}{m:List (List Int)}{i:List AW}{c:List Ag}(hl:k.XX.length=3)(ha:a<3):BM ⟨m,i,An k.XX a (BV ss),c⟩ e=if e=a then ss else BM k e:=by
 unfold BM
 show(AI (An k.XX a (BV ss)) e).PQ=_
 rw[HJ]
 by_cases h:e=a
 .rw[if_pos ⟨h,by rw[hl];exact ha⟩,if_pos h];rfl
 rw[if_neg (λx=>h x.1),if_neg h]
theorem Sw{e:Nat}{m:List (List Int)}{i:List AW}{c:List Ag}:Ab ⟨m,i,An k.XX a (BV ss),c⟩ e=Ab k e:=by
 unfold Ab
 show(AI (An k.XX a (BV ss)) e).root=_
 rw[HJ]
 split
 .next h=>rw[h.1];rfl
 rfl
section
variable {k:AQ} (h:Dg k) {c:AV} (he:c.e=1∨c.e=2) (a7:∀e,1<=e->e<3->Ci (BM k e) gA=false)
include h he a7
theorem SQ{g:ByteArray}(hm:Fg k c.e g=true):g≠gA:=λe=>by have _:=h;have _:=he;have _:=a7;subst e;have:=a7 c.e.toNat ω ω;unfold Fg at hm;unfold BM at this;rw[hm] at this;cases this
theorem cR{g:ByteArray}(hm:Fg k c.e g=true):L3 g gA=false:=by
 have _:=h;have _:=he;have _:=a7;cases hc:L3 g gA
 .rfl
 exfalso
 obtain⟨s,hs,L⟩:=Il.1 hm;have:=a7 c.e.toNat ω ω;have K:Ci (BM k c.e.toNat) gA=true:=Il.2 ⟨s,hs,UI L hc⟩;rw[K] at this;cases this
theorem Yk:EN k (Ju k c).1:=by
 have _:=h;have _:=he;have _:=a7;unfold Ju
 split
 .exact EN.refl k
 split
 .exact EN.refl k
 split
 .exact EN.refl k
 next b6=>
 obtain⟨g1,g2,g3⟩:=GO b6;refine⟨λ_ _=>rfl,rfl,λf hf hg hk=>?_⟩;have bP:f≠(Ao k.ZJ).toNat:=λe=>by unfold A5 at hk;rw[e] at hk;exact hk g2
 show AJ (k.mem.set _ _) f=_/\(JK (k.ZJ.set _ _) f).g=gA/\(_->(JK (k.ZJ.set _ _) f).r=_)
 rw[Pu,if_neg (λx=>bP x.1),IP,if_neg (λx=>bP x.1)];exact⟨rfl,hg,λ_=>rfl⟩
theorem Xt(hA:c.a.toNat<12)(hm:Fg k c.e (JK k.ZJ c.a.toNat).g=true):EN k (K4 k c).1:=by
 have _:=h;have _:=he;have _:=a7;have gN:=SQ h he a7 hm;unfold K4
 split
 .exact EN.refl k
 split
 .exact EN.refl k
 refine⟨λ_ _=>rfl,rfl,λf hf hg hk=>?_⟩
 have bP:f≠c.a.toNat:=λe=>gN (by rw[<-e];exact hg)
 show _/\(JK (k.ZJ.set _ _) f).g=gA/\(_->(JK (k.ZJ.set _ _) f).r=_)
 rw[IP,if_neg (λx=>bP x.1)];exact⟨rfl,hg,λ_=>rfl⟩
theorem YR(hm:Fg k c.e (JK k.ZJ c.a.toNat).g=true):EN k (LD k c).1:=by
 have _:=h;have _:=he;have _:=a7;have gN:=SQ h he a7 hm;unfold LD
 split
 .exact EN.refl k
 refine⟨λ_ _=>rfl,rfl,λf hf hg hk=>?_⟩
 have bP:f≠c.a.toNat:=λe=>gN (by rw[<-e];exact hg)
 show AJ (Cs _ _ _ _) f=_/\_/\_
 rw[Ia,if_neg (λx=>bP x.1)];exact⟨rfl,hg,λ_=>rfl⟩
theorem Na{fs:List Nat}{n:Int}(gN:(JK k.ZJ a).g≠gA)(pA:∀f,f<12->(JK k.ZJ f).g=gA->RD k f->f∉fs):EN k {k with ZJ:=An (BP k.ZJ fs n) a (Dn kind)}:=by
 have _:=h;have _:=he;have _:=a7;refine⟨λ_ _=>rfl,rfl,λf hf hg hk=>?_⟩;have bP:f≠a:=λe=>gN (by rw[<-e];exact hg)
 show AJ k.mem f=AJ k.mem f/\(JK (An (BP k.ZJ fs n) a (Dn kind)) f).g=gA/\(_->(JK (An (BP k.ZJ fs n) a (Dn kind)) f).r=_)
 rw[Fu,if_neg (λx=>bP x.1),Oq (by rw[h.len];exact hf)];refine⟨rfl,hg,λX=>?_⟩;have:=List.count_eq_zero_of_not_mem (pA f hf hg X)
 show(JK k.ZJ f).r+n*((fs.count f:Nat):Int)=_
 rw[this];simp
theorem Oj{r:List AW×Int}(hr:r.2=0->EN k {k with ZJ:=r.1}):EN k (EG k r).1:=by
 have _:=h;have _:=he;have _:=a7;unfold EG
 split
 .next h0=>exact hr h0
 exact EN.refl k
theorem Z9(hm:Fg k c.e (JK k.ZJ c.a.toNat).g=true):EN k (EG k (GV k.mem k.ZJ c.a.toNat c.b (AI k.XX c.e.toNat).PQ)).1:=by
 have _:=h;have _:=he;have _:=a7;have gN:=SQ h he a7 hm;refine Oj h he a7 λh0=>?_
 revert h0
 unfold GV
 split
 .intro x;cases x
 split
 .intro x;cases x
 next hgood=>
 split
 .intro _
  refine Na h he a7 gN λf hf hg _ ej=>?_
  obtain⟨w,hw,L,K⟩:=GC.1 ej;have:=Mq.1 (by simpa using hgood) w hw;unfold GI at this;rw[if_pos L,K] at this;simp only[yC] at this;have:=this.2;rw[hg] at this;have ha:=a7 c.e.toNat ω ω;unfold BM at ha;rw[this] at ha;cases ha
 intro x;cases x
theorem XL(hA:c.a.toNat<12)(hm:Fg k c.e (JK k.ZJ c.a.toNat).g=true):EN k (EG k (DT k.mem k.ZJ c.a.toNat)).1:=by
 have _:=h;have _:=he;have _:=a7;have gN:=SQ h he a7 hm;refine Oj h he a7 λh0=>?_
 revert h0
 unfold DT
 split
 .intro x;cases x
 next bX=>
 split
 .intro _
  have jP:Bp (A5 k c.a.toNat)=true:=by
   cases O:Bp (A5 k c.a.toNat)
   .exact absurd (.inl O) bX
   rfl
  exact Na h he a7 gN λf hf hg X=>QP h hf X hA jP gN
 intro x;cases x
theorem aL(hA:c.a.toNat<12)(hm:Fg k c.e (JK k.ZJ c.a.toNat).g=true):EN k (If k c).1:=by
 have _:=h;have _:=he;have _:=a7;have gN:=SQ h he a7 hm;unfold If
 split
 .exact EN.refl k
 next bX=>
 split
 .exact EN.refl k
 split
 .exact EN.refl k
 next hno2=>
 have jP:Bp (A5 k c.a.toNat)=true:=by
  cases O:Bp (A5 k c.a.toNat)
  .exact absurd (.inl O) bX
  rfl
 have iW:c.b.toNat<4:=by
  cases O:Bo c.b 0 3
  .exact absurd (.inr (.inl O)) bX
  have:=Aa.1 O;omega
 refine⟨λ_ _=>rfl,rfl,λf hf hg hk=>?_⟩;have bP:f≠c.a.toNat:=λe=>gN (by rw[<-e];exact hg)
 show AJ (Cs _ _ _ _) f=_/\(JK (BI (BI k.ZJ _ _) c.c 1) f).g=gA/\(_->(JK (BI (BI k.ZJ _ _) c.c 1) f).r=_)
 rw[Ia,if_neg (λx=>bP x.1),GE (by rw[Cy];exact h.len),GE h.len];refine⟨rfl,hg,λX=>?_⟩;have e1:EP f (Aw k.mem c.a.toNat c.b.toNat)=false:=by
  cases R:EP f (Aw k.mem c.a.toNat c.b.toNat)
  .rfl
  exfalso
  have kt:Bx (Aw k.mem c.a.toNat c.b.toNat)=true/\BQ (Aw k.mem c.a.toNat c.b.toNat)=f:=by simpa[EP] using R
  have:=KY kt.1;rw[kt.2] at this;exact QP h hf X hA jP gN this
 have e2:EP f c.c=false:=by
  cases R:EP f c.c
  .rfl
  exfalso
  have kt:Bx c.c=true/\BQ c.c=f:=by simpa[EP] using R
  refine hno2 ⟨kt.1,?_⟩;rw[kt.2,hg];have:=a7 c.e.toNat ω ω;exact this
 rw[e1,e2];simp[Eg]
theorem YW:EN k (Lt k c).1:=by
 have _:=h;have _:=he;have _:=a7;unfold Lt
 split
 .exact EN.refl k
 next bX=>
 split
 .exact EN.refl k
 next hno2=>
 have bw:c.e.toNat<3:=ω;have kH:c.e.toNat≠0:=ω;refine⟨λe _=>?_,?_,λf hf hg hk=>⟨rfl,?_⟩⟩
 .have:BM ⟨k.mem,k.ZJ,An k.XX c.e.toNat (ET c.a),Gb k.XU c.e⟩ e=BM k e:=by
   unfold BM
   show(AI (An k.XX c.e.toNat (ET c.a)) e).PQ=_
   rw[HJ]
   split
   .next h=>rw[h.1];rfl
   rfl
  show Ci (BM ⟨k.mem,k.ZJ,An k.XX c.e.toNat (ET c.a),Gb k.XU c.e⟩ e) gA=_
  rw[this]
 .show(AI (An k.XX c.e.toNat (ET c.a)) 0).root=_
  rw[HJ,if_neg (λx=>kH x.1.symm)];rfl
 have hl:=h.len
 show(JK (Gu k.ZJ (AI k.XX c.e.toNat).root c.a) f).g=gA/\(_->(JK (Gu k.ZJ (AI k.XX c.e.toNat).root c.a) f).r=_)
 rw[Ul hl hf];refine⟨hg,λX=>?_⟩;have e1:decide ((AI k.XX c.e.toNat).root=(f:Int))=false:=decide_eq_false (YN h hf X bw kH);have e2:decide (c.a=(f:Int))=false:=decide_eq_false λhx=>by
  have:BO k.ZJ (Bi k.mem c.a) (AI k.XX c.e.toNat).PQ=true:=by simpa using hno2
  have:=Gl.1 this f (EC.2 ⟨ω,.inl ω⟩);rw[hg] at this;have ha:=a7 c.e.toNat ω ω;unfold BM at ha;rw[this] at ha;cases ha
 rw[e1,e2];simp[Eg]
theorem cJ{s g:ByteArray}(hc:L3 s g=false):Ci (BW ss s).1 g=Ci ss g:=by
 have _:=h;have _:=he;have _:=a7;unfold BW
 split
 .rfl
 split
 .rfl
 rw[wL,Il,Il]
 constructor
 .rintro⟨x,hx,hxc⟩
  rcases OM.1 hx with rfl|hx
  .rw[hc] at hxc;cases hxc
  exact⟨x,hx,hxc⟩
 rintro⟨x,hx,hxc⟩
 exact⟨x,OM.2 (.inr hx),hxc⟩
theorem Zu{s g:ByteArray}(hc:L3 s g=false):Ci (Bk ss s) g=Ci ss g:=by
 have _:=h;have _:=he;have _:=a7;unfold Bk;rw[wL,Il,Il];constructor
 .rintro⟨x,hx,hxc⟩
  exact⟨x,(wQ.1 hx).1,hxc⟩
 rintro⟨x,hx,hxc⟩
 refine⟨x,wQ.2 ⟨hx,?_⟩,hxc⟩;cases hs:L3 s x
 .rfl
 rw[UI hs hxc] at hc;cases hc
theorem WX:EN k (Ft k c).1:=by
 have _:=h;have _:=he;have _:=a7;unfold Ft
 split
 .exact EN.refl k
 next bX=>
 split
 .exact EN.refl k
 next hm=>
 split
 .exact EN.refl k
 have mG:c.a.toNat<3:=by
  cases O:Bo c.a 0 2
  .exact absurd (.inl O) bX
  have:=Aa.1 O;omega
 have my:=cR h he a7 (g:=c.nm) (by simpa using hm);refine⟨λe _=>?_,Sw,λf hf hg hk=>⟨rfl,hg,λ_=>rfl⟩⟩;rw[Os h.zX mG]
 split
 .next hea=>rw[hea];exact cJ h he a7 my
 rfl
theorem Vi:EN k (EX k c).1:=by
 have _:=h;have _:=he;have _:=a7;unfold EX
 split
 .exact EN.refl k
 next bX=>
 split
 .exact EN.refl k
 next hm=>
 split
 .exact EN.refl k
 have mG:c.a.toNat<3:=by
  cases O:Bo c.a 0 2
  .exact absurd (.inl O) bX
  have:=Aa.1 O;omega
 have my:=cR h he a7 (g:=c.nm) (by simpa using hm);refine⟨λe _=>?_,Sw,λf hf hg hk=>⟨rfl,hg,λ_=>rfl⟩⟩;rw[Os h.zX mG]
 split
 .next hea=>rw[hea];exact Zu h he a7 my
 rfl
theorem Yp{m:List (List Int)}{root:Int}(h0:0<=root)(hw:(Cd m root.toNat a).1=0):(Cd m root.toNat a).2.1∈Bi m root:=by
 have _:=h;have _:=he;have _:=a7
 revert hw
 unfold Cd
 split
 .next L=>
  split
  .next K=>
   intro _;exact EC.2 ⟨h0,.inr (.inr ⟨_,KY L,KY K⟩)⟩
  intro x;cases x
 intro x;cases x
theorem aT:EN k (PA k c).1:=by
 have _:=h;have _:=he;have _:=a7;unfold PA;dsimp only
 split
 .exact EN.refl k
 next bX=>
 split
 .exact EN.refl k
 next hw=>
 split
 .exact EN.refl k
 split
 .have h0:0<=(AI k.XX c.e.toNat).root:=by
   rcases Int.lt_or_le (AI k.XX c.e.toNat).root 0 with hh|hh
   .exact absurd (.inr (.inl hh)) bX
   exact hh
  have hr:=Yp h he a7 (a:=c.a.toNat) h0 (by simpa using hw);have kL:=h.allow c.e.toNat ω _ hr;refine⟨λ_ _=>rfl,rfl,λf hf hg hk=>?_⟩;have bP:f≠(Cd k.mem (AI k.XX c.e.toNat).root.toNat c.a.toNat).2.1:=λe=>by rw[<-e,hg,a7 c.e.toNat ω ω] at kL;cases kL
  show AJ (Cs _ _ _ _) f=_/\_/\_
  rw[Ia,if_neg (λx=>bP x.1)];exact⟨rfl,hg,λ_=>rfl⟩
 exact⟨λ_ _=>rfl,rfl,λf hf hg hk=>⟨rfl,hg,λ_=>rfl⟩⟩
theorem WF:EN k (Ad k c).1:=by
 have _:=h;have _:=he;have _:=a7;unfold Ad
 split
 .exact Yk h he a7
 split
 .unfold IN
  split
  .exact EN.refl k
  next bX=>
  split
  .exact EN.refl k
  next hm=>
  have jk:Fg k c.e (JK k.ZJ c.a.toNat).g=true:=by simpa using hm
  have hA:c.a.toNat<12:=by
   cases O:Bo c.a 0 11
   .exact absurd (.inl O) bX
   have:=Aa.1 O;omega
  split
  .exact Xt h he a7 hA jk
  split
  .exact YR h he a7 jk
  split
  .exact Z9 h he a7 jk
  split
  .exact XL h he a7 hA jk
  exact aL h he a7 hA jk
 split
 .exact YW h he a7
 split
 .exact WX h he a7
 split
 .exact Vi h he a7
 split
 .exact aT h he a7
 exact EN.refl k
end
theorem Sc (h:Dz p)(he:c.e=1∨c.e=2):Dz (Io p c).1/\∀a,a<64->Gh (Io p c).1 a=Gh p a:=by
 have h2:=WF h.k he h.alone;have hL:Dg (Ad p.Ve c).1:=OR h.k ω;obtain⟨k1,k2,k3⟩:=h2;have fy:=h.zK;have g5:RD p.Ve (Ab p.Ve 0).toNat:=⟨h.yW.2,.inr (by have:=h.root;omega)⟩;have iq:∀i,i<4->RD p.Ve (Bf p.low i).toNat:=λi D=>⟨(h.lows i D).2.2.2.2,.inl ⟨_,i,fy.1,by rw[fy.2];rfl,D,h.zw D,h.yW.1⟩⟩
 have gL:∀n,n<16->(AD p.XY n).w=1->RD p.Ve (AD p.XY n).a.toNat:=λn R hw=>by obtain⟨f1,f2,f3⟩:=h.zQ R hw;have hl:=h.zU (i:=n/4) ω;exact⟨f3.2,.inl ⟨_,n%4,hl.1,by rw[hl.2];rfl,ω,f1,(h.lows (n/4) ω).2.2.2.1⟩⟩
 have h8:=k3 _ fy.1 h.yW.1 (by rw[fy.2];decide);have jz:=λi (D:i<4)=>k3 _ (h.zU D).1 (h.lows i D).2.2.2.1 (by rw[(h.zU D).2];decide)
 have gk:=λn (R:n<16) (hw:(AD p.XY n).w=1)=>k3 _ (h.zR R hw).1 (h.zQ R hw).2.2.1 (by rw[(h.zR R hw).2];decide)
 have kl:∀n,n<16->Ce (Io p c).1 n=Ce p n:=λn R=>by
  unfold Ce Io Aw
  show(AJ (Ad p.Ve c).1.mem (Bf p.low (n/4)).toNat).getD (n%4) 0=_
  rw[(jz (n/4) ω).1]
 refine⟨⟨hL,h.zN,h.zF,?_,λe L K=>?_,?_,h.zD,?_,λi D=>?_,h.zY,h.slots,λn R=>?_,h.FV,h.U4,h.count⟩,λa ha=>?_⟩
 .exact(k1 0 ω).trans h.may
 .exact(k1 e K).trans (h.alone e L K)
 .show 0<=Ab (Ad p.Ve c).1 0
  rw[k2];exact h.root
 .show Lz (Ad p.Ve c).1.ZJ (Ab (Ad p.Ve c).1 0).toNat
  rw[k2];exact⟨h8.2.1,(h8.2.2 g5).trans h.yW.2⟩
 .obtain⟨z,x2,x3,x4⟩:=h.lows i D
  refine⟨z,x2,?_,(jz i D).2.1,((jz i D).2.2 (iq i D)).trans x4.2⟩
  show Aw (Ad p.Ve c).1.mem (Ab (Ad p.Ve c).1 0).toNat i=_
  rw[k2];unfold Aw;rw[h8.1];exact x3
 .have:=h.XY n R
  unfold LT at this ⊢;rw[kl n R]
  rcases this with x|⟨z,x2,x3,x4⟩|x
  .exact .inl x
  .exact .inr (.inl ⟨z,x2,x3,(gk n R z).2.1,((gk n R z).2.2 (gL n R z)).trans x4.2⟩)
  exact .inr (.inr x)
 unfold Gh
 show(if(AD p.XY (a/4)).w=1 then Aw (Ad p.Ve c).1.mem (AD p.XY (a/4)).a.toNat (a%4) else _)=_
 by_cases w1:(AD p.XY (a/4)).w=1
 .rw[if_pos w1,if_pos w1]
  unfold Aw;rw[(gk _ ω w1).1]
 rw[if_neg w1,if_neg w1];rfl
def gB:ByteArray:=⟨#[98]⟩
def gC:ByteArray:=⟨#[99]⟩
def fZ:AQ:=⟨xZ 12 [0,0,0,0],xZ 12 ⟨0,⟨#[]⟩,0⟩,[⟨[gA],-1⟩,⟨[gB],-1⟩,⟨[gC],-1⟩],[]⟩
def LB:List AV:=[Ah 1 0 0 0,Ah 4 0 3 0,Ah 7 0 0 0,
 Ah 1 0 0 0,Ah 4 1 2 0,Ah 6 0 0 7,Ah 1 0 0 0,Ah 4 2 2 0,Ah 6 0 1 11,Ah 1 0 0 0,Ah 4 3 2 0,Ah 6 0 2 15,Ah 1 0 0 0,Ah 4 4 2 0,Ah 6 0 3 19]
def Eb(n:Nat):AQ:=(LB.take n).foldl (λk c=>(Ad k c).1) fZ
def eN:AQ:=⟨[7,11,15,19]::xZ 11 [0,0,0,0],⟨3,gA,1⟩::(xZ 4 ⟨2,gA,1⟩++xZ 7 ⟨0,⟨#[]⟩,0⟩),[⟨[gA],0⟩,⟨[gB],-1⟩,⟨[gC],-1⟩],[]⟩
theorem YK:Eb 15=eN:=φ
theorem du:Ad (Eb 0) (Ah 1 0 0 0)=(Eb 1,0,0):=φ
theorem ds:Ad (Eb 1) (Ah 4 0 3 0)=(Eb 2,0,0):=φ
theorem cO:Ad (Eb 2) (Ah 7 0 0 0)=(Eb 3,0,0):=φ
theorem cQ:∀i,i<4->Ad (Eb (3*i+3)) (Ah 1 0 0 0)=(Eb (3*i+4),((i+1:Nat):Int),0)
 |0,_|1,_|2,_|3,_=>φ
 |_+4,h=>ω
theorem dq:∀i,i<4->Ad (Eb (3*i+4)) (Ah 4 ((i+1:Nat):Int) 2 0)=(Eb (3*i+5),0,0)
 |0,_|1,_|2,_|3,_=>φ
 |_+4,h=>ω
theorem dt:∀i,i<4->Ad (Eb (3*i+5)) (Ah 6 0 (i:Int) (Ii ((i+1:Nat):Int)))=(Eb (3*i+6),0,0)
 |0,_|1,_|2,_|3,_=>φ
 |_+4,h=>ω
theorem cM:∀n,n<=15->Dg (Eb n):=by
 have h0:Dg (Eb 0):=FN.1 φ;intro n
 induction n with
 |zero=>exact λ_=>h0
 |succ n ih=>
  intro R;have bm:n<LB.length:=by show n<15;omega
  have e:Eb (n+1)=(Ad (Eb n) LB[n]).1:=by unfold Eb;rw[List.take_succ_eq_append_getElem bm,tU];rfl
  rw[e];have he:(LB[n]).e=0:=by
   have:∀c∈LB,c.e=0:=by
    intro c hc;simp only[LB,List.mem_cons,List.not_mem_nil,or_false] at hc
    rcases hc with h|h|h|h|h|h|h|h|h|h|h|h|h|h|h<;>(subst h;rfl)
   exact this _ (List.getElem_mem bm)
  exact OR (ih ω) (by rw[he];omega)
def Wu(U4:Int):AR:=⟨eN,xZ 16 [],[1,2,3,4],xZ 16 ⟨0,0,false⟩,0,U4⟩
theorem Yz{l:Int}(L:1<=l)(h6:l<=6):Dz (Wu l):=by
 have h:Dz (Wu 1):=EB.1 φ;exact⟨h.k,h.zN,h.zF,h.may,h.alone,h.root,h.zD,h.yW,h.lows,h.zY,h.slots,λn R=>h.XY n R,h.FV,⟨L,h6⟩,by
  show((Al (xZ 16 ⟨0,0,false⟩) 1:Nat):Int)<=l
  have:Al (xZ 16 ⟨0,0,false⟩) 1=0:=φ;omega⟩
def Fm(k:AQ)(r:Nm):Prop:=(r.2.2≠0->r=(k,0,r.2.2))/\0<=r.2.2/\r.2.2<=4
theorem Fm.code{n:Int}(h0:0<=n)(h4:n<=4):Fm k (k,0,n):=⟨λ_=>rfl,h0,h4⟩
theorem Fm.done{k':AQ}{v:Int}:Fm k (k',v,0):=⟨λh=>absurd rfl h,by show(0:Int)<=0;omega,by show(0:Int)<=4;omega⟩
theorem Fm.zL{p:Prop} [Decidable p] {a b:Nm}(ha:Fm k a)(O:Fm k b):Fm k (if p then a else b):=by split<;>assumption
theorem Sl{r:List AW×Int}:Fm k (EG k r):=by
 unfold EG IC
 split
 .exact .done
 split
 .exact .code ω ω
 exact .code ω ω
theorem bL:Fm k (Ad k c):=by
 have c1:Fm k (k,0,1):=.code ω ω;have c2:Fm k (k,0,2):=.code ω ω;have c3:Fm k (k,0,3):=.code ω ω;have c4:Fm k (k,0,4):=.code ω ω;unfold Ad;refine .zL (.zL c3 (.zL c1 (.zL c4 .done))) (.zL ?_ (.zL ?_ (.zL ?_ (.zL ?_ (.zL ?_ c3)))))
 .unfold IN
  refine .zL c3 (.zL c1 (.zL (.zL c3 (.zL c2 .done)) (.zL (.zL c3 .done) (.zL Sl (.zL Sl ?_)))));unfold If;exact .zL c3 (.zL c1 (.zL c1 .done))
 .unfold Lt
  exact .zL c3 (.zL c1 .done)
 .unfold Ft
  exact .zL c3 (.zL c1 (.zL c4 .done))
 .unfold EX
  exact .zL c3 (.zL c1 (.zL c2 .done))
 unfold PA
 exact .zL c3 (.zL c3 (.zL c1 (.zL .done .done)))
theorem Rf (h:(Ad k c).2.2≠0):Ad k c=(k,0,(Ad k c).2.2):=bL.1 h
theorem MI{e a c:Int}{s t:ByteArray}(h:kind≠1/\kind≠8/\kind≠9):Ad k ⟨kind,e,a,b,c,s⟩=Ad k ⟨kind,e,a,b,c,t⟩:=by unfold Ad;simp only[h.1,h.2.1,h.2.2,if_false];rfl
def Mk(w:Ω)(res:Nm)(e:Ending)(w':Ω):Prop:=∃m i ev c,e=.returned (.tuple #[.agg #[m,i,ev,c],res.2.1,res.2.2])/\Dy w w' m i ev c res.1/\Γ w w w'
theorem Dy.lower{lo':Nat}{c:Φ}(h:Dy lo w m i e c k)(hl:lo'<=lo):Dy lo' w m i e c k:=
 ⟨⟨_,h.1.choose_spec.lower hl⟩,h.2.1.lower hl,⟨_,h.2.2.1.choose_spec.lower hl⟩,h.2.2.2.lower hl⟩
theorem Dy.yV{c:Φ}{cs:Array Φ}{fr:Nat×Nat}(h:Dy lo w m i e c k)(hg:w.grownBy w' (some g))(hB:w.heap[g]?=some (.cells cs T fr))
 (L:29≠T:=by decide)(K:3≠T:=by decide)(h3:115≠T:=by decide)(h4:81≠T:=by decide)(h5:9≠T:=by decide)(h6:125≠T:=by decide):Dy lo w' m i e c k:=
 ⟨⟨_,h.1.choose_spec.yV hg hB L K⟩,h.2.1.yV hg hB h3,⟨_,h.2.2.1.choose_spec.yV hg hB h4 h5⟩,h.2.2.2.yV hg hB h6⟩
theorem LW{t:Nat}{a b c f:Φ}(h:w.heap[g]?=some (.cells #[a,b,c,d,e,f] t (0,0))):w.cell? g=some a/\w.cell? (g,1)=some b/\w.cell? (g,2)=some c/\w.cell? (g,3)=some d/\w.cell? (g,4)=some e/\w.cell? (g,5)=some f:=
 ⟨yx w g 0 _ _ _ h,yx w g 1 _ _ _ h,yx w g 2 _ _ _ h,yx w g 3 _ _ _ h,yx w g 4 _ _ _ h,yx w g 5 _ _ _ h⟩
theorem Aq (w:Ω)(g:Nat)(a b c d:Φ):w.grownBy ((((w.setCell g a).setCell (g,1) b).setCell (g,2) c).setCell (g,3) d) (some g):=
 Ar (Ar (Ar (At w g 0 a) 1 b) 2 c) 3 d
theorem Dy.Dq{c:Φ}(h:Dy lo w m i e c k):(∃a n q,m=.slice a n q)/\(∃a n q,i=.slice a n q)/\(∃a n q,e=.slice a n q)/\∃a n q,c=.slice a n q:=by obtain⟨⟨_,L⟩,K,⟨_,h3⟩,h4⟩:=h;obtain⟨_,_,rfl,_,_⟩:=L.1.rd.shape;obtain⟨_,_,rfl,_,_⟩:=K.rd.shape;obtain⟨_,_,rfl,_,_⟩:=h3.1.rd.shape;obtain⟨_,_,rfl,_,_⟩:=h4.rd.shape;exact⟨⟨_,_,_,rfl⟩,⟨_,_,_,rfl⟩,⟨_,_,_,rfl⟩,⟨_,_,_,rfl⟩⟩
theorem It (w:Ω)(a b c:Obj):(((w.alloc a).alloc b).alloc c).heap[w.heap.size]?=some a/\(((w.alloc a).alloc b).alloc c).heap[w.heap.size+1]?=some b/\(((w.alloc a).alloc b).alloc c).heap[w.heap.size+1+1]?=some c/\Γ w w (((w.alloc a).alloc b).alloc c)/\(((w.alloc a).alloc b).alloc c).heap.size=w.heap.size+3:=by have L:=yy w a;have K:=yy (w.alloc a) b;have h3:=yy ((w.alloc a).alloc b) c;have h4:=AB (AB L (AG _ b)) (AG _ c);have h5:=AB K (AG _ c);simp only[World.size_alloc] at K h3 h5;refine⟨h4,h5,h3,(Hv w a b).trans ((AG _ c).mono (Hv w a b).size),χ⟩
theorem KW{t:Nat}{c m' i' e' c':Φ}(h:w.heap[g]?=some (.cells #[m,i,e,c] t (0,0))):((((w.setCell g m').setCell (g,1) i').setCell (g,2) e').setCell (g,3) c').cell? g=some m'/\((((w.setCell g m').setCell (g,1) i').setCell (g,2) e').setCell (g,3) c').cell? (g,1)=some i'/\((((w.setCell g m').setCell (g,1) i').setCell (g,2) e').setCell (g,3) c').cell? (g,2)=some e'/\((((w.setCell g m').setCell (g,1) i').setCell (g,2) e').setCell (g,3) c').cell? (g,3)=some c':=AH (DP h)
theorem Rg (m i e c:Φ)(k:AQ)(call:AV)(w:Ω)(h:Nk w m i e c k)(hk:Dg k)(he:0<=call.e)(R:call.e<3)(ji:call.nm.size<=maxLen)(gh:call.c<=9223372036854775807):
 Ξ prog 26 #[.agg #[m,i,e,c],.agg #[call.k,call.e,call.a,call.b,call.c,call.nm]] w (Mk w (Ad k call)):=by
 have C:=AA (λ(lo g:Nat)(w:Ω)(m i e c:Φ)(h:Iv lo w g m i e c k)(a8:lo<=w.heap.size)=>di h a8 hk call he R ji gh);have HR:=AA h;have A:=AA hk;have HN:=AA (@Rf k call);generalize Ad k call=res at C HN ⊢;obtain⟨kr,vr,nr⟩:=res;obtain⟨ck,ce,ca,cb,cc,nm⟩:=call;simp only[AV.on,AV.onCells] at C;clear he R ji gh h hk;go_in;go_wp2_with fail;obtain⟨B0,B1,B2,ar,iC⟩:=It w (.cells #[m,i,e,c] 28) (.cells #[ck,ce,ca,cb,cc,nm] 34) (.cells #[ι,ι,ι,ι] 28);generalize((w.alloc _).alloc _).alloc _=W0 at*;refine(Vb m i e c k W0 (HR.below ar) A.u).mono ?_;rintro r w1 ⟨m1,i1,e1,c1,rfl,O1,b1⟩;have nJ:=b1.size;obtain⟨⟨ma,mn,mc,rfl⟩,⟨ia,iN,ic,rfl⟩,⟨ea,en,ec,rfl⟩,⟨qa,qn,qc,rfl⟩⟩:=O1.Dq;obtain⟨N3,b2⟩:=Ec w1 (.cells #[.slice ma mn mc,.slice ia iN ic,.slice ea en ec,.slice qa qn qc] 28);obtain⟨V,y1,y2,y3,y4,y5⟩:=LW (AB (AB B1 b1) b2);have hI:=AA (show Iv W0 _ w1.heap.size _ _ _ _ k from⟨N3,nJ,O1.below b2⟩);have bl:=AA (b1.trans (b2.mono nJ));clear N3 O1 b1 b2 B1;go_wp2_with fail;refine(C _ _ _ _ _ _ _ hI (by have:=bl.size;omega)).mono ?_;rintro r w3 ⟨rfl,jT,b3⟩;have ed:=bl.trans b3;have bm:w.heap.size+1+1<W0.heap.size:=ω;have na:=(ed.block _ ω).trans B0;have jK:=(ed.block _ ω).trans B2;have jD:=AA (ar.trans (ed.mono ar.size));clear V y1 y2 y3 y4 y5 hI bl b3 B0 B2 C
 by_cases h0:nr=0
 focus
  subst h0
  have t0:((0:Int)==0)=true:=rfl;obtain⟨m',i',e',c',ly⟩:=jT rfl;obtain⟨⟨lZ,lX,lY,rfl⟩,⟨mg,mh,mf,rfl⟩,⟨mP,mN,mO,rfl⟩,⟨lS,lQ,lR,rfl⟩⟩:=ly.2.2.Dq;obtain⟨x0,z,x2,x3⟩:=ly.cells;have gW:=AK jK;obtain⟨z0,z1,z2,z3⟩:=AH jK;obtain⟨E0,E1,E2,E3⟩:=KW (m':=.slice lZ lX lY) (i':=.slice mg mh mf) (e':=.slice mP mN mO) (c':=.slice lS lQ lR) jK;have HE:=AA (yj E0 (yj E1 (yj E2 E3)));have bt:=Aq w3 (w.heap.size+1+1) (.slice lZ lX lY) (.slice mg mh mf) (.slice mP mN mO) (.slice lS lQ lR);have ov:=AA (show Dy w _ (.slice lZ lX lY) (.slice mg mh mf) (.slice mP mN mO) (.slice lS lQ lR) kr from(ly.2.2.yV bt jK).lower ar.size);have la:=AA (AM jD bt ω jD.size);clear E0 E1 E2 E3 ly jT bt na jK HN ed
 rotate_left
 focus
  have t0:(nr==0)=false:=by simp[h0]
  have hN:=HN h0;simp only[Prod.mk.injEq,and_true] at hN;obtain⟨rfl,rfl⟩:=hN;obtain⟨x0,z,x2,x3⟩:=AH na;clear jT;go_wp2_with fail;refine(Vb m i e c kr w3 (HR.below jD.u) A.u).mono ?_;rintro r w4 ⟨m4,i4,e4,c4,rfl,O4,b4⟩;have B4:=AB jK b4;have gW:=AK B4;obtain⟨z0,z1,z2,z3⟩:=AH B4;obtain⟨E0,E1,E2,E3⟩:=KW (m':=m4) (i':=i4) (e':=e4) (c':=c4) B4;have HE:=AA (yj E0 (yj E1 (yj E2 E3)));have bt:=Aq w4 (w.heap.size+1+1) m4 i4 e4 c4;have ov:=AA (show Dy w _ m4 i4 e4 c4 kr from(O4.yV bt B4).lower jD.size);have la:=AA (AM (jD.trans (b4.mono jD.size)) bt ω (by have:=jD.size;have:=b4.size;omega));obtain⟨⟨_,_,_,rfl⟩,⟨_,_,_,rfl⟩,⟨_,_,_,rfl⟩,⟨_,_,_,rfl⟩⟩:=O4.Dq;clear E0 E1 E2 E3 O4 b4 B4 bt na jK x0 z x2 x3
 rotate_left
 all_goals
  go_wp2_with fail;exact yB (v:=.tuple #[.agg #[_,_,_,_],_,_]) (by simp[results,Tryz.results26,go_sem,HE.u]) rfl ⟨_,_,_,_,rfl,ov.u,la.u⟩
end Go.Proofs.YtlcnbkkcplllhaaGreatDoor
