/-
  Packed:11 texts.
-/
import Derived.Test.YtinbcpipjfljeaaGreatDoorY2
import Derived.Test.YtinbcpipjfljeaaGreatDoorY4
import Derived.Test.YtinbcpipjfljeaaGreatDoorY1
import Derived.Deep.DeepCutAuto
import Derived.Lib.Strings
import Derived.WalkKit
set_option linter.unusedVariables false
set_option linter.unusedSimpArgs false
set_option maxHeartbeats 16000000
set_option maxRecDepth 100000
open Go Go.Proofs.YtinbcpipjfljeaaGreatDoor
open Bool renaming and_eq_true->yt,eq_iff_iff->wF,or_eq_true->xv
open Go.Value renaming int->yf,slice->xB
open Go.World renaming block_lt_of_cell?->yC,ownsRow_nil->xj
open Go.World.ownsRow renaming lt->yr
open Go renaming cell_of_row->yi,cell_regrown->yb,heap_setCell_same->yu
open Int renaming toNat_natCast->xY
open List renaming contains_iff_mem->uT,countP_cons->xF,filter_append->wy,filter_cons->uW,filter_nil->ul,foldl_append->uB,foldl_cons->yA,foldl_nil->yy,length_set->xV,mem_append->wu,mem_filter->wX,mem_range->yj,mem_singleton->xi,range->yE,range_succ->xx,replicate->xX
open List.range renaming loop->yB
open Nat renaming eq_zero_or_pos->vP,le_trans->yD,zero_le->yh
variable {a f g j lo:Nat} {p:AR} {m:List (List Int)} {r:List Int} {W w w':World} {b:List Bi} {ss:List ByteArray}
namespace Go.Proofs.YtinbcpipjfljeaaGreatDoor
open Go.Proofs.Tryz
theorem PZ:Db g 0=false:=by simp[Db,Bf]
theorem Rh {f:Int} (h0:0<=f) (h1:f<=11) (g:Nat):Db g (Gv f)=decide (g=f.toNat):=by
 obtain⟨x,y,_⟩:=Gi h0 h1;unfold Db;rw[x,y,Bool.true_and]
 by_cases e:f.toNat=g
 .simp[e]
 .have:¬g=f.toNat:=fun h=>e h.symm
  simp[e,this]
theorem EC.zh (h:EC p) {n i:Nat} (hn:n<16) (hw:(AB p.No n).w=1) (hi:i<4):(BG p.low i).toNat≠(AB p.No n).a.toNat:=fun e=>by have h1:=h.zM hi;have h2:=h.zJ hn hw;rw[e] at h1;omega
theorem EC.yV (h:EC p) {n:Nat} (hn:n<16) (hw:(AB p.No n).w=1):(AZ p.zX 0).toNat≠(AB p.No n).a.toNat:=fun e=>by have h1:=h.zC;have h2:=h.zJ hn hw;rw[e] at h1;omega
theorem EC.yX (h:EC p) {i:Nat} (hi:i<4):(AZ p.zX 0).toNat≠(BG p.low i).toNat:=fun e=>by have h1:=h.zC;have h2:=h.zM hi;rw[e] at h1;omega
theorem Zm {n m:Nat} (h1:n/4=m/4) (h2:n%4=m%4):n=m:=by omega
theorem EC.tab_ne (h:EC p) {n m:Nat} (hn:n<16) (hm:m<16) (al:m≠n):¬((BG p.low (m/4)).toNat=(BG p.low (n/4)).toNat/\m%4=n%4):=fun⟨e1,e2⟩=>al (Zm (h.yU (by omega) (by omega) e1) e2)
theorem EC.rowl (h:EC p) {f:Nat} (hf:f<12):(AH p.zX.mem f).length=4:=h.k.row hf
theorem EC.meml (h:EC p):p.zX.mem.length=12:=(Ah.1 h.k.mem).1
theorem Ft {k:AN} (h:DI k) {kind a b c:Int}:DI (Ad k (Ag kind a b c)).1:=MV h ⟨Int.le_refl 0,show(0:Int)<=2 by decide⟩
theorem Yv (h:EC p) {n:Nat} (hn:n<16) (hw:(AB p.No n).w=1) {g:Nat}:zU (EF p n).zX.Os g=if g=(AB p.No n).a.toNat then AU.zero else zU p.zX.Os g:=by
 rw[Nc h hn hw];have fk:=h.zJ hn hw;obtain⟨f1,f2,f3⟩:=h.zI hn hw
 show zU ((A3 (A3 p.zX.Os (As p.zX.mem (BG p.low (n/4)).toNat (n%4)) (-1)) 0 1).set _ AU.zero) g=_
 rw[Gc,Cd,Cd]
 by_cases e:g=(AB p.No n).a.toNat
 .rw[if_pos ⟨e,by rw[h.k.len];exact fk.1⟩,if_pos e]
 .rw[if_neg (fun h=>e h.1),if_neg e,FG (by rw[Cd];exact h.k.len),FG h.k.len]
  have e1:Db g (As p.zX.mem (BG p.low (n/4)).toNat (n%4))=false:=by
   rcases h.No n hn with⟨a,_⟩|⟨_,b,c,_⟩|⟨a,_⟩
   .omega
   .have c':As p.zX.mem (BG p.low (n/4)).toNat (n%4)=Gv (AB p.No n).a:=c
    rw[c',Rh b.1 b.2];exact decide_eq_false e
   .omega
  rw[e1,PZ];simp[D5]
theorem aL (h:EC p) {n:Nat} (hn:n<16) (hw:(AB p.No n).w=1) {f i:Nat}:As (EF p n).zX.mem f i=if f=(BG p.low (n/4)).toNat/\i=n%4 then 0 else As p.zX.mem f i:=by rw[Nc h hn hw];have hl:=h.zM (i:=n/4) (by omega);exact QA (by rw[h.meml];exact hl.1) (by rw[h.rowl hl.1];omega)
theorem Pe (h:EC p) {n:Nat} (hn:n<16) (hw:(AB p.No n).w=1) (e:Nat):AZ (EF p n).zX e=AZ p.zX e/\A4 (EF p n).zX e=A4 p.zX e:=by rw[Nc h hn hw];exact⟨rfl,rfl⟩
theorem KU {s:List (List Int)} {k:Nat} (hk:k<s.length):AH (s.set k r) j=if j=k then r else AH s j:=by
 rw[Nh]
 by_cases e:j=k
 .rw[if_pos ⟨e,hk⟩,if_pos e]
 .rw[if_neg (fun h=>e h.1),if_neg e]
theorem Za {Os:List AU} (hf:f<Os.length) (h:(zU Os f).k=0):0<=Am Os:=by unfold Am;rw[if_pos (LW.2 ⟨_,DG (d:=AU.zero) hf,by unfold zU at h;simpa using h⟩)];omega
theorem TA (h:EC p) {n:Nat} (hn:n<16) (hw:(AB p.No n).w=1):
 EC (EF p n)/\(∀a,a<64->Fn (EF p n) a=Fn p a)/\Ai (EF p n).No 1+1=Ai p.No 1/\0<=Am (EF p n).zX.Os:=by
 have am:=h.slot hn (by omega);obtain⟨f1,f2,f3⟩:=h.zI hn hw;have fk:=h.zJ hn hw;have a9:=fun g=>Yv h hn hw (g:=g)
 have ar:=fun f i=>aL h hn hw (f:=f) (i:=i)
 have c2:(EF p n).No=p.No.set n ⟨2,BW p.swap,false⟩:=rfl;have dY:(EF p n).swap=p.swap.set (BW p.swap).toNat (AH p.zX.mem (AB p.No n).a.toNat):=rfl;have du:(EF p n).low=p.low:=rfl;have cu:∀m,AB (EF p n).No m=if m=n then⟨2,BW p.swap,false⟩ else AB p.No m:=fun m=>by
  rw[c2,De]
  by_cases e:m=n
  .rw[if_pos ⟨e,by rw[h.zQ];exact hn⟩,if_pos e]
  .rw[if_neg (fun h=>e h.1),if_neg e]
 have a7:∀s,AH (EF p n).swap s=if s=(BW p.swap).toNat then AH p.zX.mem (AB p.No n).a.toNat else AH p.swap s:=fun s=>by rw[dY,KU (by rw[h.zF];exact am.2.1)]
 have au:Dh (AH p.zX.mem (AB p.No n).a.toNat)=true:=(Ah.1 h.k.mem).2 _ fk.1;have bv:AH p.zX.mem (AB p.No n).a.toNat≠[]:=fun e=>by have:=(A5.1 au).1;rw[e] at this;simp at this
 have bW:Ai (EF p n).No 1+1=Ai p.No 1:=by
  have:=NQ (l:=p.No) (n:=n) (y:=⟨2,BW p.swap,false⟩) (w:=1) (by rw[h.zQ];exact hn);rw[c2];have e1:D5 (NW 1 (AB p.No n))=1:=by simp[NW,hw,D5]
  have e2:D5 (NW 1 ⟨2,BW p.swap,false⟩)=0:=by simp[NW,D5]
  omega
 have ae:∀g,g≠(AB p.No n).a.toNat->Kf p.zX.Os g->Kf (EF p n).zX.Os g:=fun g hg hm=>by unfold Kf;rw[a9 g,if_neg hg];exact hm
 have dq:=(Pe h hn hw 0).1;have bV:DI (EF p n).zX:=Ft (Ft h.k);refine⟨⟨bV,?_,?_,?_,?_,?_,?_,?_,?_,?_,?_,?_,h.zT,h.zW,?_⟩,?_,bW,?_⟩
 .rw[dY,xV];exact h.zF
 .intro s hs
  rw[a7 s]
  by_cases e:s=(BW p.swap).toNat
  .rw[if_pos e];exact .inr au
  .rw[if_neg e];exact h.zx s hs
 .rw[(Pe h hn hw 0).2];exact h.may
 .intro e h1 h2
  rw[(Pe h hn hw e).2];exact h.alone e h1 h2
 .rw[dq];exact h.root
 .exact h.zv
 .rw[dq];exact ae _ (h.yV hn hw) h.yO
 .intro i hi
  obtain⟨a,b,c,d⟩:=h.lows i hi;refine⟨a,b,?_,ae _ (h.zh hn hw hi) d⟩;rw[dq,ar,if_neg (fun e=>h.yX (i:=n/4) (by omega) e.1)];exact c
 .rw[c2,xV];exact h.zQ
 .intro s hs
  have h1:=Mr (l:=p.No) (n:=n) (s:=s) (y:=⟨2,BW p.swap,false⟩) (by rw[h.zQ];exact hn);have e1:D5 (Cu s (AB p.No n))=0:=by simp[Cu,hw,D5]
  have h2:=h.slots s hs;rw[a7 s,c2]
  by_cases e:s=(BW p.swap).toNat
  .rw[if_pos e]
   have e2:D5 (Cu s ⟨2,BW p.swap,false⟩)=1:=by
    have:BW p.swap=(s:Int):=by omega
    simp[Cu,this,D5]
   rw[if_neg (by rw[Is];exact bv)];rw[e,am.2.2] at h2;rw[<-e] at h2;simp at h2;omega
  .rw[if_neg e]
   have e2:D5 (Cu s ⟨2,BW p.swap,false⟩)=0:=by
    have:¬BW p.swap=(s:Int):=by omega
    simp[Cu,this,D5]
   omega
 .intro m hm
  have cs:Br (EF p n) m=if m=n then 0 else Br p m:=by
   unfold Br;rw[du,ar]
   by_cases e:m=n
   .subst e;rw[if_pos ⟨rfl,rfl⟩,if_pos rfl]
   .rw[if_neg (h.tab_ne hn hm e),if_neg e]
  unfold KB;rw[cu m,cs]
  by_cases e:m=n
  .simp only[if_pos e]
   refine .inr (.inr ⟨by simp,⟨am.1,by have:=am.2.1;show BW p.swap<=15;omega⟩,?_,by simp,by simp⟩);rw[a7,if_pos rfl];exact bv
  .simp only[if_neg e]
   rcases h.No m hm with x|⟨x1,x2,x3,x4⟩|⟨x1,x2,x3,x4,x5⟩
   .exact .inl x
   .refine .inr (.inl ⟨x1,x2,x3,ae _ (fun e'=>e (h.zd hm hn x1 hw e')) x4⟩)
   .refine .inr (.inr ⟨x1,x2,?_,x4,x5⟩)
    rw[a7,if_neg]
    .exact x3
    .intro e'
     rw[e'] at x3;exact x3 am.2.2
 .have:=h.count
  show(Ai (EF p n).No 1:Int)<=p.zW
  omega
 .intro a ha
  unfold Fn;rw[cu (a/4)]
  by_cases e:a/4=n
  .subst e
   rw[if_pos rfl,if_neg (show ¬(2:Int)=1 by decide),if_pos (show(2:Int)=2 from rfl),if_pos hw];unfold As;rw[a7,if_pos rfl]
  .rw[if_neg e]
   by_cases w1:(AB p.No (a/4)).w=1
   .rw[if_pos w1,if_pos w1,ar,if_neg (fun e'=>h.zh (i:=n/4) (n:=a/4) (by omega) w1 (by omega) e'.1.symm)]
   .rw[if_neg w1,if_neg w1]
    by_cases w2:(AB p.No (a/4)).w=2
    .rw[if_pos w2,if_pos w2]
     unfold As;rw[a7,if_neg]
     rcases h.No (a/4) (by omega) with⟨x,_⟩|⟨x,_⟩|⟨x1,x2,x3,x4,x5⟩
     .omega
     .omega
     .intro e'
      rw[e'] at x3;exact x3 am.2.2
    .rw[if_neg w2,if_neg w2]
 .have ad:(EF p n).zX.Os.length=12:=bV.len
  exact Za (f:=(AB p.No n).a.toNat) (by rw[ad];exact fk.1) (by rw[a9,if_pos rfl];rfl)
theorem row4 (h:r.length=4):(((r.set 0 (r.getD 0 0)).set 1 (r.getD 1 0)).set 2 (r.getD 2 0)).set 3 (r.getD 3 0)=r:=by
 match r,h with
 | [a,b,c,d],_=>rfl
theorem set4 {x:List Int} (hx:x.length=4) (h:r.length=4):(((x.set 0 (r.getD 0 0)).set 1 (r.getD 1 0)).set 2 (r.getD 2 0)).set 3 (r.getD 3 0)=r:=by
 match x,hx,r,h with
 | [_,_,_,_],_,[a,b,c,d],_=>rfl
theorem Rr {i:Nat} {w:Int}:CZ m f i w=m.set f ((AH m f).set i w):=Mq
theorem Ni {i:Nat} {w:Int} (hf:f<m.length):CZ (m.set f r) f i w=m.set f (r.set i w):=by rw[Rr,KU hf,if_pos rfl,List.set_set]
theorem Yz {k:AN} (hm:Bv (A4 k 0) gA=true) {f:Int} (h0:0<=f) (h1:f<=11) (hl:k.mem.length=12) (hk:Av k f.toNat=1) (hg:(zU k.Os f.toNat).g=gA) (dZ:(AH k.mem f.toNat).length=4) {ws:List Int} (hw:Dh ws=true):
 Uf k f ws= {k with mem:=k.mem.set f.toNat ws}:=by
 obtain⟨eL,eK⟩:=A5.1 hw;have ok:∀i,i<4->Dy (ws.getD i 0)=true:=fun i hi=>Ac.2 (eK _ (DG (by omega)))
 have hf:f.toNat<k.mem.length:=by rw[hl];omega
 have st:∀(k':AN) (i:Nat),k'.Os=k.Os->k'.zZ=k.zZ->i<4->(Ad k' (Ag 3 f (i:Nat) (ws.getD i 0))).1= {k' with mem:=CZ k'.mem f.toNat i (ws.getD i 0)}:=fun k' i e1 e2 hi=>by
  have bK:Bv (A4 k' 0) gA=true:=by unfold A4;rw[e2];exact hm
  rw[Xb bK h0 h1 (by unfold Av;rw[e1];exact hk) (by rw[e1];exact hg) hi (ok i hi)]
 have e:(yE 4)=[0,1,2,3]:=rfl;unfold Uf;rw[e];simp only[yA,yy];rw[st k 0 rfl rfl (by omega)];rw[st {k with mem:=CZ k.mem f.toNat 0 (ws.getD 0 0)} 1 rfl rfl (by omega)];rw[st {k with mem:=CZ (CZ k.mem f.toNat 0 (ws.getD 0 0)) f.toNat 1 (ws.getD 1 0)} 2 rfl rfl (by omega)];rw[st {k with mem:=CZ (CZ (CZ k.mem f.toNat 0 (ws.getD 0 0)) f.toNat 1 (ws.getD 1 0)) f.toNat 2 (ws.getD 2 0)} 3 rfl rfl (by omega)]
 congr 1
 show CZ (CZ (CZ (CZ k.mem f.toNat 0 _) f.toNat 1 _) f.toNat 2 _) f.toNat 3 _=_
 rw[Rr (m:=k.mem),Ni hf,Ni hf,Ni hf,set4 dZ eL]
def Gx (k:AN) (f t b:Nat) (row:List Int):AN:=IF {k with Os:=k.Os.set f ⟨1,gA,0⟩,mem:=k.mem.set f row} t b (Gv f)
theorem VY (h:EC p) {n:Nat} (hn:n<16) (hw:(AB p.No n).w≠1) (hf:0<=Am p.zX.Os):
 OR p n=({p with zX:=Gx p.zX (Am p.zX.Os).toNat (BG p.low (n/4)).toNat (n%4) (if(AB p.No n).w=2 then AH p.swap (AB p.No n).a.toNat else[0,0,0,0]),swap:=if(AB p.No n).w=2 then p.swap.set (AB p.No n).a.toNat [] else p.swap,No:=p.No.set n ⟨1,Am p.zX.Os,true⟩},true)/\
 DI (Gx p.zX (Am p.zX.Os).toNat (BG p.low (n/4)).toNat (n%4) (if(AB p.No n).w=2 then AH p.swap (AB p.No n).a.toNat else[0,0,0,0])):=by
 obtain⟨g1,g2,g3⟩:=FO (Os:=p.zX.Os) (by omega);have ad:=h.k.len;rw[ad] at g1;have hl:=h.lows (n/4) (by omega);have cw:=h.zM (i:=n/4) (by omega);have dr:=h.meml;have al:(BG p.low (n/4)).toNat≠(Am p.zX.Os).toNat:=fun e=>by have:=cw.2;unfold Av at this;rw[e,g2] at this;omega
 have e1:=Lm (k:=p.zX) h.may hf (a:=0) (b:=0) (c:=0);have eV:DI (Ad p.zX (Ag 1 0 0 0)).1:=Ft h.k;rw[e1] at eV;have a5:∀g,zU (p.zX.Os.set (Am p.zX.Os).toNat ⟨1,gA,0⟩) g=if g=(Am p.zX.Os).toNat then⟨1,gA,0⟩ else zU p.zX.Os g:=fun g=>by
  rw[Gc,ad]
  by_cases e:g=(Am p.zX.Os).toNat
  .rw[if_pos ⟨e,g1⟩,if_pos e]
  .rw[if_neg (fun h=>e h.1),if_neg e]
 have e2:(if(AB p.No n).w=2 then Uf {p.zX with Os:=p.zX.Os.set (Am p.zX.Os).toNat ⟨1,gA,0⟩,mem:=p.zX.mem.set (Am p.zX.Os).toNat [0,0,0,0]} (Am p.zX.Os) (AH p.swap (AB p.No n).a.toNat) else {p.zX with Os:=p.zX.Os.set (Am p.zX.Os).toNat ⟨1,gA,0⟩,mem:=p.zX.mem.set (Am p.zX.Os).toNat [0,0,0,0]})=
  {p.zX with Os:=p.zX.Os.set (Am p.zX.Os).toNat ⟨1,gA,0⟩,mem:=p.zX.mem.set (Am p.zX.Os).toNat (if(AB p.No n).w=2 then AH p.swap (AB p.No n).a.toNat else[0,0,0,0])}:=by
  by_cases w2:(AB p.No n).w=2
  .rw[if_pos w2,if_pos w2]
   have bo:Dh (AH p.swap (AB p.No n).a.toNat)=true:=by
    rcases h.No n hn with⟨x,_⟩|⟨x,_⟩|⟨x1,x2,x3,x4,x5⟩
    .omega
    .omega
    .rcases h.zx (AB p.No n).a.toNat (by omega) with x|x
     .exact absurd x x3
     .exact x
   rw[Yz (k:= {p.zX with Os:=p.zX.Os.set (Am p.zX.Os).toNat ⟨1,gA,0⟩,mem:=p.zX.mem.set (Am p.zX.Os).toNat [0,0,0,0]}) h.may hf (by omega) (by show(p.zX.mem.set _ _).length=12;rw[xV];exact dr) (by unfold Av;rw[a5,if_pos rfl]) (by rw[a5,if_pos rfl]) (by show(AH (p.zX.mem.set _ _) _).length=4;rw[KU (by omega),if_pos rfl];rfl) bo]
   show AN.mk _ _ _ _=AN.mk _ _ _ _
   rw[List.set_set]
  .rw[if_neg w2,if_neg w2]
 have bo:Dh (if(AB p.No n).w=2 then AH p.swap (AB p.No n).a.toNat else[0,0,0,0])=true:=by
  by_cases w2:(AB p.No n).w=2
  .rw[if_pos w2]
   rcases h.No n hn with⟨x,_⟩|⟨x,_⟩|⟨x1,x2,x3,x4,x5⟩
   .omega
   .omega
   .rcases h.zx (AB p.No n).a.toNat (by omega) with x|x
    .exact absurd x x3
    .exact x
  .rw[if_neg w2];rfl
 generalize hR:(if(AB p.No n).w=2 then AH p.swap (AB p.No n).a.toNat else[0,0,0,0])=row at e2 bo ⊢;have ec:DI {p.zX with Os:=p.zX.Os.set (Am p.zX.Os).toNat ⟨1,gA,0⟩,mem:=p.zX.mem.set (Am p.zX.Os).toNat row}:=by have:=DI.data h.k g1 (.inl g2) bo (x:=⟨1,gA,0⟩) (.inr ⟨by decide,by decide,by decide⟩) (.inr rfl) (by rw[DI.zu h.k g1 g2]) (.inr (DI.zu h.k g1 g2)) h.k.zY h.k.trans;exact this
 have e3:=Ul ec h.may h.alone hl.1 hl.2.1 (by unfold Av;rw[a5,if_neg al];exact cw.2) (by rw[a5,if_neg al];exact hl.2.2.2.1) (b:=n%4) (by omega) (w:=Gv (Am p.zX.Os)) (.inr ⟨_,hf,by omega,rfl,by unfold Av;rw[a5,if_pos rfl],by rw[a5,if_pos rfl]⟩);have e4:((Am p.zX.Os).toNat:Int)=Am p.zX.Os:=by omega
 have ea:=Ft ec (kind:=6) (a:=BG p.low (n/4)) (b:=((n%4:Nat):Int)) (c:=Gv (Am p.zX.Os));rw[e3] at ea;refine⟨?_,by unfold Gx;rw[e4];exact ea⟩;unfold OR;rw[e1];simp only;rw[if_neg (by simp),e2];unfold II;rw[e3];unfold Gx;rw[e4]
theorem EC.tab_zero (h:EC p) {n:Nat} (hn:n<16) (hw:(AB p.No n).w≠1):Br p n=0:=by
 rcases h.No n hn with⟨_,_,_,x⟩|⟨x,_⟩|⟨_,_,_,_,x⟩
 .exact x
 .exact absurd x hw
 .exact x
theorem Sk (h:EC p) {n:Nat} (hn:n<16) (hw:(AB p.No n).w≠1) (hf:0<=Am p.zX.Os) (hc:(Ai p.No 1:Int)+1<=p.zW):
 EC (OR p n).1/\(OR p n).2=true/\(∀a,a<64->Fn (OR p n).1 a=Fn p a)/\Ai (OR p n).1.No 1=Ai p.No 1+1/\(OR p n).1.No=p.No.set n ⟨1,Am p.zX.Os,true⟩:=by
 obtain⟨a5,bV⟩:=VY h hn hw hf;obtain⟨g1,g2,g3⟩:=FO (Os:=p.zX.Os) (by omega);have ad:=h.k.len;rw[ad] at g1;generalize hR:(if(AB p.No n).w=2 then AH p.swap (AB p.No n).a.toNat else[0,0,0,0])=row at a5 bV;generalize hS:(if(AB p.No n).w=2 then p.swap.set (AB p.No n).a.toNat [] else p.swap)=sw at a5;have dr:=h.meml;have hl:=h.lows (n/4) (by omega);have cw:=h.zM (i:=n/4) (by omega);have dk:∀g,Av p.zX g≠0->g≠(Am p.zX.Os).toNat:=fun g hg e=>by unfold Av at hg;rw[e] at hg;exact hg g2
 have ct:(AZ p.zX 0).toNat≠(Am p.zX.Os).toNat:=dk _ (by rw[h.zC.2];decide);have a8:∀i,i<4->(BG p.low i).toNat≠(Am p.zX.Os).toNat:=fun i hi=>dk _ (by rw[(h.zM hi).2];decide)
 have cC:∀m,m<16->(AB p.No m).w=1->(AB p.No m).a.toNat≠(Am p.zX.Os).toNat:=fun m hm eQ=>dk _ (by rw[(h.zJ hm eQ).2];decide)
 have au:Dh row=true:=by
  rw[<-hR]
  by_cases w2:(AB p.No n).w=2
  .rw[if_pos w2]
   rcases h.No n hn with⟨x,_⟩|⟨x,_⟩|⟨x1,x2,x3,x4,x5⟩
   .omega
   .omega
   .rcases h.zx (AB p.No n).a.toNat (by omega) with x|x
    .exact absurd x x3
    .exact x
  .rw[if_neg w2];rfl
 have dZ:=(A5.1 au).1;have e0:As (p.zX.mem.set (Am p.zX.Os).toNat row) (BG p.low (n/4)).toNat (n%4)=0:=by unfold As;rw[KU (by omega),if_neg (a8 _ (by omega))];exact h.tab_zero hn hw
 have e4:((Am p.zX.Os).toNat:Int)=Am p.zX.Os:=by omega
 have ar:∀f i,As (Gx p.zX (Am p.zX.Os).toNat (BG p.low (n/4)).toNat (n%4) row).mem f i=if f=(BG p.low (n/4)).toNat/\i=n%4 then Gv (Am p.zX.Os) else if f=(Am p.zX.Os).toNat then row.getD i 0 else As p.zX.mem f i:=fun f i=>by
  unfold Gx IF
  show As (CZ (p.zX.mem.set (Am p.zX.Os).toNat row) _ _ _) f i=_
  rw[QA (by rw[xV,dr];exact cw.1) (by rw[KU (by omega),if_neg (a8 _ (by omega)),h.rowl cw.1];omega),e4]
  congr 1
  unfold As;rw[KU (by omega)]
  by_cases e:f=(Am p.zX.Os).toNat
  .rw[if_pos e,if_pos e]
  .rw[if_neg e,if_neg e]
 have a9:∀g,zU (Gx p.zX (Am p.zX.Os).toNat (BG p.low (n/4)).toNat (n%4) row).Os g=if g=(Am p.zX.Os).toNat then⟨1,gA,1⟩ else zU p.zX.Os g:=fun g=>by
  unfold Gx IF
  show zU (A3 (A3 (p.zX.Os.set (Am p.zX.Os).toNat ⟨1,gA,0⟩) (As (p.zX.mem.set (Am p.zX.Os).toNat row) _ _) (-1)) (Gv _) 1) g=_
  rw[FG (by rw[Cd,xV];exact ad),FG (by rw[xV];exact ad),e0,PZ,e4,Rh hf (by omega),Gc,ad]
  by_cases e:g=(Am p.zX.Os).toNat
  .rw[if_pos ⟨e,g1⟩,if_pos e]
   simp[D5,e]
  .rw[if_neg (fun h=>e h.1),if_neg e]
   simp[D5,e]
 have cu:∀m,AB (p.No.set n ⟨1,Am p.zX.Os,true⟩) m=if m=n then⟨1,Am p.zX.Os,true⟩ else AB p.No m:=fun m=>by
  rw[De]
  by_cases e:m=n
  .rw[if_pos ⟨e,by rw[h.zQ];exact hn⟩,if_pos e]
  .rw[if_neg (fun h=>e h.1),if_neg e]
 have bW:Ai (p.No.set n ⟨1,Am p.zX.Os,true⟩) 1=Ai p.No 1+1:=by
  have:=NQ (l:=p.No) (n:=n) (y:=⟨1,Am p.zX.Os,true⟩) (w:=1) (by rw[h.zQ];exact hn);have e1:D5 (NW 1 (AB p.No n))=0:=by simp[NW,hw,D5]
  have e2:D5 (NW 1 ⟨1,Am p.zX.Os,true⟩)=1:=by simp[NW,D5]
  omega
 have ae:∀g,g≠(Am p.zX.Os).toNat->Kf p.zX.Os g->Kf (Gx p.zX (Am p.zX.Os).toNat (BG p.low (n/4)).toNat (n%4) row).Os g:=fun g hg hm=>by unfold Kf;rw[a9 g,if_neg hg];exact hm
 have eR:Kf (Gx p.zX (Am p.zX.Os).toNat (BG p.low (n/4)).toNat (n%4) row).Os (Am p.zX.Os).toNat:=by unfold Kf;rw[a9,if_pos rfl];exact⟨rfl,rfl⟩
 have a7:∀s,AH sw s=if(AB p.No n).w=2/\s=(AB p.No n).a.toNat then[] else AH p.swap s:=fun s=>by
  rw[<-hS]
  by_cases w2:(AB p.No n).w=2
  .rcases h.No n hn with⟨x,_⟩|⟨x,_⟩|⟨x1,x2,x3,x4,x5⟩
   .omega
   .omega
   .rw[if_pos w2,KU (by rw[h.zF];omega)]
    by_cases e:s=(AB p.No n).a.toNat
    .rw[if_pos e,if_pos ⟨w2,e⟩]
    .rw[if_neg e,if_neg (fun h=>e h.2)]
  .rw[if_neg w2,if_neg (fun h=>w2 h.1)]
 have dp:sw.length=16:=by
  rw[<-hS]
  split
  .rw[xV];exact h.zF
  .exact h.zF
 rw[a5];have aq:∀m,m<16->m≠n->(AB p.No m).w=2->¬((AB p.No n).w=2/\(AB p.No m).a.toNat=(AB p.No n).a.toNat):=by
  rintro m hm al m2 ⟨n2,e⟩;have r1:0<=(AB p.No m).a/\(AB p.No m).a<=15:=by
   rcases h.No m hm with⟨x,_⟩|⟨x,_⟩|⟨x1,x2,x3,x4,x5⟩
   .omega
   .omega
   .exact x2
  have r2:0<=(AB p.No n).a/\(AB p.No n).a<=15:=by
   rcases h.No n hn with⟨x,_⟩|⟨x,_⟩|⟨x1,x2,x3,x4,x5⟩
   .omega
   .omega
   .exact x2
  have hs:=h.slots (AB p.No n).a.toNat (by omega);have h1:=Mr (l:=p.No) (n:=n) (s:=(AB p.No n).a.toNat) (y:=⟨0,0,false⟩) (by rw[h.zQ];exact hn);have h2:=Mr (l:=p.No.set n ⟨0,0,false⟩) (n:=m) (s:=(AB p.No n).a.toNat) (y:=⟨0,0,false⟩) (by rw[xV,h.zQ];exact hm);rw[De,if_neg (fun h=>al h.1)] at h2;have b1:D5 (Cu (AB p.No n).a.toNat (AB p.No n))=1:=by
   have:(AB p.No n).a=(((AB p.No n).a.toNat:Nat):Int):=by omega
   unfold Cu;rw[decide_eq_true n2,decide_eq_true this];rfl
  have b2:D5 (Cu (AB p.No n).a.toNat (AB p.No m))=1:=by
   have:(AB p.No m).a=(((AB p.No n).a.toNat:Nat):Int):=by omega
   unfold Cu;rw[decide_eq_true m2,decide_eq_true this];rfl
  have b3:D5 (Cu (AB p.No n).a.toNat ⟨0,0,false⟩)=0:=by simp[Cu,D5]
  split at hs<;>omega
 refine⟨⟨bV,dp,?_,h.may,h.alone,h.root,h.zv,ae _ ct h.yO,?_,?_,?_,?_,h.zT,h.zW,?_⟩,rfl,?_,bW,rfl⟩
 .intro s hs
  rw[a7 s]
  split
  .exact .inl rfl
  .exact h.zx s hs
 .intro i hi
  obtain⟨a,b,c,d⟩:=h.lows i hi;refine⟨a,b,?_,ae _ (a8 i hi) d⟩
  show As (Gx p.zX _ _ _ row).mem (AZ p.zX 0).toNat i=_
  rw[ar,if_neg (fun e=>h.yX (i:=n/4) (by omega) e.1),if_neg ct];exact c
 .show(p.No.set n _).length=16
  rw[xV];exact h.zQ
 .intro s hs
  have h1:=Mr (l:=p.No) (n:=n) (s:=s) (y:=⟨1,Am p.zX.Os,true⟩) (by rw[h.zQ];exact hn);have e2:D5 (Cu s ⟨1,Am p.zX.Os,true⟩)=0:=by simp[Cu,D5]
  have h2:=h.slots s hs
  show CJ (p.No.set n _) s=if(AH sw s).isEmpty then 0 else 1
  rw[a7 s]
  by_cases e:(AB p.No n).w=2/\s=(AB p.No n).a.toNat
  .rw[if_pos e]
   have a0:0<=(AB p.No n).a/\AH p.swap (AB p.No n).a.toNat≠[]:=by
    rcases h.No n hn with⟨x,_⟩|⟨x,_⟩|⟨x1,x2,x3,x4,x5⟩
    .omega
    .omega
    .exact⟨x2.1,x3⟩
   have e1:D5 (Cu s (AB p.No n))=1:=by
    have:(AB p.No n).a=(s:Int):=by omega
    unfold Cu;rw[decide_eq_true e.1,decide_eq_true this];rfl
   rw[if_neg (by rw[Is,e.2];exact a0.2)] at h2;simp;omega
  .rw[if_neg e]
   have e1:D5 (Cu s (AB p.No n))=0:=by
    unfold Cu
    by_cases w2:(AB p.No n).w=2
    .have:¬(AB p.No n).a=(s:Int):=fun h=>e ⟨w2,by omega⟩
     rw[decide_eq_false this];simp[D5]
    .rw[decide_eq_false w2];simp[D5]
   omega
 .intro m hm
  have cs:Br {p with zX:=Gx p.zX (Am p.zX.Os).toNat (BG p.low (n/4)).toNat (n%4) row,swap:=sw,No:=p.No.set n ⟨1,Am p.zX.Os,true⟩} m=if m=n then Gv (Am p.zX.Os) else Br p m:=by
   unfold Br
   show As (Gx p.zX _ _ _ row).mem (BG p.low (m/4)).toNat (m%4)=_
   rw[ar]
   by_cases e:m=n
   .subst e;rw[if_pos ⟨rfl,rfl⟩,if_pos rfl]
   .rw[if_neg (h.tab_ne hn hm e),if_neg (a8 _ (by omega)),if_neg e]
  unfold KB;rw[cs]
  show(AB (p.No.set n _) m).w=0/\(AB (p.No.set n _) m).a=0/\(AB (p.No.set n _) m).u=false/\_∨(AB (p.No.set n _) m).w=1/\_/\_=Gv (AB (p.No.set n _) m).a/\Kf _ (AB (p.No.set n _) m).a.toNat∨(AB (p.No.set n _) m).w=2/\_/\AH sw (AB (p.No.set n _) m).a.toNat≠[]/\(AB (p.No.set n _) m).u=false/\_
  rw[cu m]
  by_cases e:m=n
  .simp only[if_pos e]
   exact .inr (.inl ⟨by simp,⟨hf,by show Am p.zX.Os<=11;omega⟩,by simp,eR⟩)
  .simp only[if_neg e]
   rcases h.No m hm with x|⟨x1,x2,x3,x4⟩|⟨x1,x2,x3,x4,x5⟩
   .exact .inl x
   .exact .inr (.inl ⟨x1,x2,x3,ae _ (cC m hm x1) x4⟩)
   .refine .inr (.inr ⟨x1,x2,?_,x4,x5⟩)
    rw[a7,if_neg (aq m hm e x1)];exact x3
 .show(Ai (p.No.set n _) 1:Int)<=p.zW
  omega
 .intro a ha
  unfold Fn
  show(if(AB (p.No.set n _) (a/4)).w=1 then As (Gx p.zX _ _ _ row).mem (AB (p.No.set n _) (a/4)).a.toNat (a%4) else if(AB (p.No.set n _) (a/4)).w=2 then As sw (AB (p.No.set n _) (a/4)).a.toNat (a%4) else 0)=_
  rw[cu (a/4)]
  by_cases e:a/4=n
  .subst e
   rw[if_pos rfl,if_pos (show(1:Int)=1 from rfl),ar,if_neg (fun e'=>a8 (a/4/4) (by omega) e'.1.symm),if_pos rfl,if_neg hw,<-hR]
   by_cases w2:(AB p.No (a/4)).w=2
   .rw[if_pos w2,if_pos w2];rfl
   .rw[if_neg w2,if_neg w2]
    have:a%4=0∨a%4=1∨a%4=2∨a%4=3:=by omega
    rcases this with h|h|h|h<;>rw[h]<;>rfl
  .rw[if_neg e]
   by_cases w1:(AB p.No (a/4)).w=1
   .rw[if_pos w1,if_pos w1,ar,if_neg (fun e'=>h.zh (i:=n/4) (n:=a/4) (by omega) w1 (by omega) e'.1.symm),if_neg (cC _ (by omega) w1)]
   .rw[if_neg w1,if_neg w1]
    by_cases w2:(AB p.No (a/4)).w=2
    .rw[if_pos w2,if_pos w2]
     unfold As;rw[a7,if_neg (aq _ (by omega) e w2)]
    .rw[if_neg w2,if_neg w2]
def yN (zT:Int) (i:Nat):Nat:=((i:Int) - zT).toNat+(if(i:Int)<zT then((i:Int)+16 - zT).toNat else 0)
theorem T0 {zT:Int} (h0:0<=zT):yN zT zT.toNat=0:=by
 unfold yN
 split<;>omega
theorem PG {zT:Int} (h0:0<=zT) (h1:zT<=15) {i:Nat} (hi:i<16):yN zT i<16:=by
 unfold yN
 split<;>omega
theorem MY {zT:Int} (h0:0<=zT) (h1:zT<=15) {i:Nat} (hi:i<16) (al:zT.toNat≠i):yN (EV zT) i+1=yN zT i:=by
 have e:EV zT=if zT=15 then 0 else zT+1:=by
  unfold EV
  split<;>omega
 rw[e];unfold yN
 split
 .subst_vars
  split<;>split<;>omega
 .split<;>split<;>omega
theorem PF {zT:Int} (h0:0<=zT) (h1:zT<=15):yN (EV zT) zT.toNat=15:=by
 have e:EV zT=if zT=15 then 0 else zT+1:=by
  unfold EV
  split<;>omega
 rw[e];unfold yN
 split
 .subst_vars
  split<;>omega
 .split<;>omega
theorem Le {zT:Int} (h0:0<=zT) (h1:zT<=15):0<=EV zT/\EV zT<=15:=by unfold EV;omega
theorem JU {No:List Bi} {i:Nat}:(AB (No.set j (Mv (AB No j))) i).w=(AB No i).w/\(AB (No.set j (Mv (AB No j))) i).a=(AB No i).a/\
 ((AB (No.set j (Mv (AB No j))) i).u=true->(AB No i).u=true)/\(i≠j->AB (No.set j (Mv (AB No j))) i=AB No i):=by
 rw[De]
 by_cases e:i=j/\j<No.length
 .rw[if_pos e]
  obtain⟨rfl,_⟩:=e;exact⟨rfl,rfl,(fun h=>by cases h),fun h=>absurd rfl h⟩
 .rw[if_neg e]
  exact⟨rfl,rfl,fun h=>h,fun _=>rfl⟩
structure C8 (a b:List Bi):Prop where
 len:b.length=a.length
 w:∀i,(AB b i).w=(AB a i).w
 at':∀i,(AB b i).a=(AB a i).a
 u:∀i,(AB b i).u=true->(AB a i).u=true
theorem C8.refl (a:List Bi):C8 a a:=⟨rfl,fun _=>rfl,fun _=>rfl,fun _ h=>h⟩
theorem C8.step {a:List Bi} (h:C8 (a.set j (Mv (AB a j))) b):C8 a b:=
 ⟨by rw[h.len,xV],fun i=>(h.w i).trans JU.1,fun i=>(h.at' i).trans JU.2.1,fun i hi=>JU.2.2.1 (h.u i hi)⟩
theorem IK:∀(n:Nat) (No:List Bi) (zT:Int),C8 No (CQ n No zT).1
 |0,No,zT=>C8.refl _
 |n+1,No,zT=>by
  unfold CQ
  split
  .exact C8.refl _
  .exact(IK n _ _).step
theorem Jj:∀(n:Nat) (No:List Bi) (zT:Int),0<=zT->zT<=15->0<=(CQ n No zT).2.1/\(CQ n No zT).2.1<=15
 |0,No,zT,h0,h1=>⟨h0,h1⟩
 |n+1,No,zT,h0,h1=>by
  have:=Le h0 h1;unfold CQ
  split
  .exact this
  .exact Jj n _ _ this.1 this.2
theorem Ia:∀(n:Nat) (No:List Bi) (zT:Int),0<=zT->zT<=15->No.length=16->∀i,i<16->(AB No i).w=1->
 ((AB No i).u=false/\yN zT i+1<=n)∨yN zT i+17<=n->∃m,(CQ n No zT).2.2=some m
 |0,No,zT,h0,h1,hl,i,hi,hw,h=>by omega
 |n+1,No,zT,h0,h1,hl,i,hi,hw,h=>by
  unfold CQ
  split
  .exact⟨_,rfl⟩
  .next ac=>
   have hn:=Le h0 h1;have hu:=JU (No:=No) (j:=zT.toNat) (i:=i);refine Ia n _ _ hn.1 hn.2 (by rw[xV];exact hl) i hi (hu.1.trans hw) ?_
   by_cases e:zT.toNat=i
   .subst e
    rw[PF h0 h1];left
    rcases h with⟨h,_⟩|h
    .exact absurd ⟨hw,h⟩ ac
    .refine⟨?_,by omega⟩
     rw[De,if_pos ⟨rfl,by omega⟩];rfl
   .have hf:=MY h0 h1 hi e
    rw[hu.2.2.2 (fun h=>e h.symm)]
    rcases h with⟨h,h'⟩|h
    .exact .inl ⟨h,by omega⟩
    .exact .inr (by omega)
theorem Gq:∀(n:Nat) (No:List Bi) (zT:Int),0<=zT->zT<=15->∀m,(CQ n No zT).2.2=some m->m<16/\(AB No m).w=1
 |0,No,zT,h0,h1,m,h=>by cases h
 |n+1,No,zT,h0,h1,m,h=>by
  unfold CQ at h
  split at h
  .next hy=>
   cases h;exact⟨by omega,hy.1⟩
  .have hn:=Le h0 h1
   have:=Gq n _ _ hn.1 hn.2 m h;exact⟨this.1,JU.1.symm.trans this.2⟩
theorem Mx:∀(n:Nat) (No:List Bi) (zT:Int),0<=zT->zT<=15->∀i,i<16->(AB No i).w=1->(AB No i).u=false->∀m,(CQ n No zT).2.2=some m->
 yN zT m<=yN zT i/\(AB No m).u=false
 |0,No,zT,h0,h1,i,hi,hw,hu,m,h=>by cases h
 |n+1,No,zT,h0,h1,i,hi,hw,hu,m,h=>by
  unfold CQ at h
  split at h
  .next hy=>
   cases h;rw[T0 h0];exact⟨yh _,hy.2⟩
  .next ac=>
   have hn:=Le h0 h1;have e:zT.toNat≠i:=fun e=>ac (by rw[e];exact⟨hw,hu⟩)
   have eN:=JU (No:=No) (j:=zT.toNat) (i:=i);have ed:=eN.2.2.2 (fun h=>e h.symm);have:=Mx n _ _ hn.1 hn.2 i hi (by rw[ed];exact hw) (by rw[ed];exact hu) m h;have hm:=Gq n _ _ hn.1 hn.2 m h;have hf:=MY h0 h1 hi e;have c5:=PG h0 h1 hi;have em:zT.toNat≠m:=fun e'=>by subst e';rw[PF h0 h1] at this;omega
   have fC:=MY h0 h1 hm.1 em;refine⟨by omega,?_⟩;rw[<-JU.2.2.2 (fun h=>em h.symm)];exact this.2
theorem JA {No:List Bi} {w:Int}:0<Ai No w↔∃i,i<No.length/\(AB No i).w=w:=by
 unfold Ai;rw[List.countP_pos_iff];constructor
 .rintro⟨x,hx,h⟩
  obtain⟨i,hi,rfl⟩:=IV (d:=⟨0,0,false⟩) hx;exact⟨i,hi,of_decide_eq_true (p:=(AB No i).w=w) h⟩
 .rintro⟨i,hi,h⟩
  refine⟨No.getD i ⟨0,0,false⟩,DG hi,?_⟩;exact decide_eq_true (p:=(AB No i).w=w) h
theorem IQ {q:Bi->Bool}:∀{a b:List Bi},b.length=a.length->(∀i,q (AB b i)=q (AB a i))->b.countP q=a.countP q
 | [],[],_,_=>rfl
 |x::a,y::b,hl,h=>by
  rw[xF,xF,IQ (by simpa using hl) (fun i=>by simpa[AB] using h (i+1))];have:=h 0;simp only[AB,List.getD_cons_zero] at this;rw[this]
theorem C8.count {a:List Bi} (h:C8 a b) (w:Int):Ai b w=Ai a w:=IQ h.len fun i=>by unfold NW;rw[h.w i]
theorem C8.slots {a:List Bi} (h:C8 a b) (s:Nat):CJ b s=CJ a s:=IQ h.len fun i=>by unfold Cu;rw[h.w i,h.at' i]
theorem C8.word (h:C8 p.No b) (zT:Int) (a:Nat):Fn {p with No:=b,zT:=zT} a=Fn p a:=by
 unfold Fn
 show(if(AB b (a/4)).w=1 then _ else if(AB b (a/4)).w=2 then _ else _)=_
 rw[h.w,h.at']
theorem C8.ok (h:C8 p.No b) (hp:EC p) {zT:Int} (h0:0<=zT) (h1:zT<=15):EC {p with No:=b,zT:=zT}:=by
 refine⟨hp.k,hp.zF,hp.zx,hp.may,hp.alone,hp.root,hp.zv,hp.yO,hp.lows,h.len.trans hp.zQ,fun s hs=>(h.slots s).trans (hp.slots s hs),fun n hn=>?_,⟨h0,h1⟩,hp.zW,?_⟩
 .have e:Br {p with No:=b,zT:=zT} n=Br p n:=rfl
  unfold KB;rw[e]
  show((AB b n).w=0/\(AB b n).a=0/\(AB b n).u=false/\_)∨((AB b n).w=1/\_/\_=Gv (AB b n).a/\Kf _ (AB b n).a.toNat)∨((AB b n).w=2/\_/\AH p.swap (AB b n).a.toNat≠[]/\(AB b n).u=false/\_)
  rw[h.w,h.at'];have hu:=h.u n;have un:(AB p.No n).u=false->(AB b n).u=false:=fun x=>by
   cases hb:(AB b n).u
   .rfl
   .rw[hu hb] at x;cases x
  rcases hp.No n hn with⟨x1,x2,x3,x4⟩|x|⟨x1,x2,x3,x4,x5⟩
  .exact .inl ⟨x1,x2,un x3,x4⟩
  .exact .inr (.inl x)
  .exact .inr (.inr ⟨x1,x2,x3,un x4,x5⟩)
 .show(Ai b 1:Int)<=p.zW
  rw[h.count];exact hp.count
theorem IC {No:List Bi} {n m:Nat}:(AB (Ee No n) m).w=(AB No m).w/\(AB (Ee No n) m).a=(AB No m).a/\(m≠n->(AB (Ee No n) m)=AB No m):=by
 unfold Ee;rw[De]
 by_cases e:m=n/\n<No.length
 .rw[if_pos e]
  obtain⟨rfl,_⟩:=e;exact⟨rfl,rfl,fun h=>absurd rfl h⟩
 .rw[if_neg e]
  exact⟨rfl,rfl,fun _=>rfl⟩
theorem aU (h:EC p) {n:Nat} (hn:n<16) (hw:(AB p.No n).w=1):EC {p with No:=Ee p.No n}:=by
 have ad:(Ee p.No n).length=p.No.length:=by unfold Ee;rw[xV]
 refine⟨h.k,h.zF,h.zx,h.may,h.alone,h.root,h.zv,h.yO,h.lows,ad.trans h.zQ,fun s hs=>?_,fun m hm=>?_,h.zT,h.zW,?_⟩
 .have:CJ (Ee p.No n) s=CJ p.No s:=IQ ad fun i=>by unfold Cu;rw[IC.1,IC.2.1]
  rw[this];exact h.slots s hs
 .have e:Br {p with No:=Ee p.No n} m=Br p m:=rfl
  unfold KB;rw[e]
  show((AB (Ee p.No n) m).w=0/\(AB (Ee p.No n) m).a=0/\(AB (Ee p.No n) m).u=false/\_)∨((AB (Ee p.No n) m).w=1/\_/\_=Gv (AB (Ee p.No n) m).a/\Kf _ (AB (Ee p.No n) m).a.toNat)∨((AB (Ee p.No n) m).w=2/\_/\AH p.swap (AB (Ee p.No n) m).a.toNat≠[]/\(AB (Ee p.No n) m).u=false/\_)
  rw[IC.1,IC.2.1]
  rcases h.No m hm with⟨x1,x2,x3,x4⟩|x|⟨x1,x2,x3,x4,x5⟩
  .rw[IC.2.2 (fun e=>by subst e;omega)]
   exact .inl ⟨x1,x2,x3,x4⟩
  .exact .inr (.inl x)
  .rw[IC.2.2 (fun e=>by subst e;omega)]
   exact .inr (.inr ⟨x1,x2,x3,x4,x5⟩)
 .have:Ai (Ee p.No n) 1=Ai p.No 1:=IQ ad fun i=>by unfold NW;rw[IC.1]
  show(Ai (Ee p.No n) 1:Int)<=p.zW
  rw[this];exact h.count
structure ZO (p q:AR) (n:Nat):Prop where
 ok:EC q
 w:(AB q.No n).w=1
 u:(AB q.No n).u=true
 words:∀a,a<64->Fn q a=Fn p a
 zW:q.zW=p.zW
 one:∃m,(m=n∨((AB p.No m).w=1/\(AB q.No m).w=2/\(Am p.zX.Os<0∨(Ai p.No 1:Int)=p.zW)))/\∀i,i<16->i≠n->i≠m->(AB q.No i).w=(AB p.No i).w/\(AB q.No i).a=(AB p.No i).a
 used:∀i,i<16->(AB p.No i).w=1->(AB p.No i).u=true->(AB q.No i).w=2->∀j,j<16->(AB p.No j).w=1->(AB p.No j).u=true
theorem Up (h:EC p) {n:Nat} (hn:n<16):(BI p n).2=false↔(Am p.zX.Os<0/\Ai p.No 1=0):=by
 by_cases hw:(AB p.No n).w=1
 .unfold BI
  rw[if_pos hw];have:=JA.2 ⟨n,by rw[h.zQ];exact hn,hw⟩;constructor
  .intro x;cases x
  .intro x;omega
 .by_cases ac:Am p.zX.Os<0/\Ai p.No 1=0
  .unfold BI
   rw[if_neg hw,if_pos ac];exact⟨fun _=>ac,fun _=>rfl⟩
  .refine⟨fun x=>?_,fun x=>absurd x ac⟩
   exfalso;unfold BI at x;rw[if_neg hw,if_neg ac] at x
   by_cases hf:IS p=true
   .rw[if_pos hf] at x
    have hc:0<Ai p.No 1:=by
     rcases vP (Ai p.No 1) with h0|h0
     .exfalso
      unfold IS at hf;simp only[xv,decide_eq_true_eq] at hf;have:=h.zW
      rcases hf with hf|hf
      .exact ac ⟨hf,h0⟩
      .omega
     .exact h0
    obtain⟨i,hi,dw⟩:=JA.1 hc;rw[h.zQ] at hi;obtain⟨m,hm⟩:=Ia 32 p.No p.zT h.zT.1 h.zT.2 h.zQ i hi dw (.inr (by have:=PG h.zT.1 h.zT.2 hi;omega));have hU:=IK 32 p.No p.zT;have hH:=Jj 32 p.No p.zT h.zT.1 h.zT.2;have hI:=Gq 32 p.No p.zT h.zT.1 h.zT.2 m hm
    revert x hU hH hI hm
    generalize CQ 32 p.No p.zT=r;obtain⟨pg,hd,o⟩:=r;intro x hm hU hH hI;cases hm;have h':=hU.ok h hH.1 hH.2;have ho:=TA h' hI.1 ((hU.w m).trans hI.2);have c3:n≠m:=fun e=>hw (by rw[e];exact hI.2)
    have c0:(AB (EF {p with No:=pg,zT:=hd} m).No n).w≠1:=by
     show(AB (pg.set m _) n).w≠1
     rw[De,if_neg (fun h=>c3 h.1),hU.w];exact hw
    have dA:(Ai (EF {p with No:=pg,zT:=hd} m).No 1:Int)+1<=(EF {p with No:=pg,zT:=hd} m).zW:=by
     have h1:Ai (EF {p with No:=pg,zT:=hd} m).No 1+1=Ai pg 1:=ho.2.2.1;have h2:Ai pg 1=Ai p.No 1:=hU.count 1;have h3:=h.count
     show _<=p.zW
     omega
    have:=(Sk ho.1 hn c0 ho.2.2.2 dA).2.1;have x':(OR (EF {p with No:=pg,zT:=hd} m) n).2=false:=x;rw[this] at x';cases x'
   .rw[if_neg hf] at x
    unfold IS at hf;simp only[xv,decide_eq_true_eq,not_or] at hf;have:=h.count;have:=(Sk h hn hw (by omega) (by omega)).2.1;rw[this] at x;cases x
theorem Gd (h:EC p) {n:Nat} (hn:n<16) (ac:(BI p n).2=false):(BI p n).1=p:=by
 have h1:=(Up h hn).1 ac
 by_cases hw:(AB p.No n).w=1
 .unfold BI at ac
  rw[if_pos hw] at ac;cases ac
 .unfold BI
  rw[if_neg hw,if_pos h1]
theorem Mt (h:EC p) {n:Nat} (hw:(AB p.No n).w=1):BI p n=({p with No:=Ee p.No n},true):=by unfold BI;rw[if_pos hw]
theorem Mu (h:EC p) {n:Nat} (hn:n<16) (hy:(BI p n).2=true):ZO p (BI p n).1 n:=by
 by_cases hw:(AB p.No n).w=1
 .rw[Mt h hw]
  refine⟨aU h hn hw,IC.1.trans hw,?_,fun a _=>?_,rfl,⟨n, .inl rfl,fun i _ _ _=>⟨IC.1,IC.2.1⟩⟩,fun i _ hi _ eW=>?_⟩
  .show(AB (Ee p.No n) n).u=true
   unfold Ee;rw[De,if_pos ⟨rfl,by rw[h.zQ];exact hn⟩]
  .unfold Fn
   show(if(AB (Ee p.No n) (a/4)).w=1 then _ else if(AB (Ee p.No n) (a/4)).w=2 then _ else _)=_
   rw[IC.1,IC.2.1]
  .have:(AB (Ee p.No n) i).w=2:=eW
   rw[IC.1,hi] at this;cases this
 .have ac:¬(Am p.zX.Os<0/\Ai p.No 1=0):=fun e=>by
   rw[(Up h hn).2 e] at hy;cases hy
  by_cases hf:IS p=true
  .have ej:Am p.zX.Os<0∨(Ai p.No 1:Int)=p.zW:=by
    unfold IS at hf;simpa using hf
   have hc:0<Ai p.No 1:=by
    rcases vP (Ai p.No 1) with h0|h0
    .exfalso
     have:=h.zW
     rcases ej with hf|hf
     .exact ac ⟨hf,h0⟩
     .omega
    .exact h0
   obtain⟨i,hi,dw⟩:=JA.1 hc;rw[h.zQ] at hi;obtain⟨m,hm⟩:=Ia 32 p.No p.zT h.zT.1 h.zT.2 h.zQ i hi dw (.inr (by have:=PG h.zT.1 h.zT.2 hi;omega));have hU:=IK 32 p.No p.zT;have hH:=Jj 32 p.No p.zT h.zT.1 h.zT.2;have hI:=Gq 32 p.No p.zT h.zT.1 h.zT.2 m hm;have dE:=fun i h1 h2 h3=>Mx 32 p.No p.zT h.zT.1 h.zT.2 i h1 h2 h3 m hm
   have e:BI p n=OR (EF {p with No:=(CQ 32 p.No p.zT).1,zT:=(CQ 32 p.No p.zT).2.1} m) n:=by
    unfold BI;rw[if_neg hw,if_neg ac,if_pos hf]
    revert hm
    generalize CQ 32 p.No p.zT=r;obtain⟨pg,hd,o⟩:=r;intro hm;cases hm;rfl
   rw[e];clear e hy
   revert hU hH
   generalize(CQ 32 p.No p.zT).1=pg;generalize(CQ 32 p.No p.zT).2.1=hd;intro hU hH;have h':=hU.ok h hH.1 hH.2;have ho:=TA h' hI.1 ((hU.w m).trans hI.2);have c3:n≠m:=fun e=>hw (by rw[e];exact hI.2)
   have d4:∀j,AB (EF {p with No:=pg,zT:=hd} m).No j=if j=m then⟨2,BW p.swap,false⟩ else AB pg j:=fun j=>by
    show AB (pg.set m _) j=_
    rw[De]
    by_cases e:j=m
    .rw[if_pos ⟨e,by rw[hU.len,h.zQ];exact hI.1⟩,if_pos e]
    .rw[if_neg (fun h=>e h.1),if_neg e]
   have c0:(AB (EF {p with No:=pg,zT:=hd} m).No n).w≠1:=by rw[d4,if_neg c3,hU.w];exact hw
   have dA:(Ai (EF {p with No:=pg,zT:=hd} m).No 1:Int)+1<=(EF {p with No:=pg,zT:=hd} m).zW:=by
    have h1:Ai (EF {p with No:=pg,zT:=hd} m).No 1+1=Ai pg 1:=ho.2.2.1;have h2:=hU.count 1;have h3:=h.count
    show _<=p.zW
    omega
   obtain⟨i1,i2,i3,i4,i5⟩:=Sk ho.1 hn c0 ho.2.2.2 dA;have bg:∀j,AB (OR (EF {p with No:=pg,zT:=hd} m) n).1.No j=if j=n then⟨1,Am (EF {p with No:=pg,zT:=hd} m).zX.Os,true⟩ else if j=m then⟨2,BW p.swap,false⟩ else AB pg j:=fun j=>by
    rw[i5,De]
    by_cases e:j=n
    .rw[if_pos ⟨e,by rw[ho.1.zQ];exact hn⟩,if_pos e]
    .rw[if_neg (fun h=>e h.1),if_neg e,d4]
   refine⟨i1,?_,?_,fun a ha=>?_,?_,⟨m, .inr ⟨hI.2,?_,ej⟩,fun j hj h1 h2=>?_⟩,fun j hj dv cy a4=>?_⟩
   .rw[bg,if_pos rfl]
   .rw[bg,if_pos rfl]
   .rw[i3 a ha,ho.2.1 a ha,hU.word]
   .rw[(VY ho.1 hn c0 ho.2.2.2).1];rfl
   .rw[bg,if_neg (fun e=>c3 e.symm),if_pos rfl]
   .rw[bg,if_neg h1,if_neg h2]
    exact⟨hU.w j,hU.at' j⟩
   .rw[bg] at a4
    by_cases e1:j=n
    .rw[if_pos e1] at a4;cases a4
    .rw[if_neg e1] at a4
     by_cases e2:j=m
     .subst e2
      intro x hx eI;cases eJ:(AB p.No x).u
      .rw[(dE x hx eI eJ).2] at cy
       cases cy
      .rfl
     .rw[if_neg e2,hU.w,dv] at a4
      cases a4
  .have e:BI p n=OR p n:=by
    unfold BI;rw[if_neg hw,if_neg ac,if_neg hf]
   rw[e];unfold IS at hf;simp only[xv,decide_eq_true_eq,not_or] at hf;have:=h.count;have bj:(Ai p.No 1:Int)+1<=p.zW:=by omega
   have ei:0<=Am p.zX.Os:=by omega
   obtain⟨i1,i2,i3,i4,i5⟩:=Sk h hn hw ei bj;have bg:∀j,AB (OR p n).1.No j=if j=n then⟨1,Am p.zX.Os,true⟩ else AB p.No j:=fun j=>by
    rw[i5,De]
    by_cases e:j=n
    .rw[if_pos ⟨e,by rw[h.zQ];exact hn⟩,if_pos e]
    .rw[if_neg (fun h=>e h.1),if_neg e]
   refine⟨i1,?_,?_,i3,?_,⟨n, .inl rfl,fun j hj h1 _=>?_⟩,fun j hj dv cy a4=>?_⟩
   .rw[bg,if_pos rfl]
   .rw[bg,if_pos rfl]
   .rw[(VY h hn hw ei).1]
   .rw[bg,if_neg h1];exact⟨rfl,rfl⟩
   .rw[bg] at a4
    by_cases e1:j=n
    .rw[if_pos e1] at a4;cases a4
    .rw[if_neg e1,dv] at a4
     cases a4
theorem EC.walk (h:EC p) {a:Nat} (ha:a<64) (hw:(AB p.No (a/4)).w=1):Bu p.zX.mem (AZ p.zX 0).toNat a=(0,(AB p.No (a/4)).a.toNat,true):=by
 obtain⟨l0,l1,l2,_⟩:=h.lows (a/16) (by omega);obtain⟨x1,x2,x3⟩:=Gi l0 l1
 rcases h.No (a/4) (by omega) with⟨y,_⟩|⟨_,b,c,_⟩|⟨y,_⟩
 .omega
 .obtain⟨y1,y2,y3⟩:=Gi b.1 b.2
  have e1:a/4/4=a/16:=by omega
  have c':As p.zX.mem (BG p.low (a/16)).toNat (a/4%4)=Gv (AB p.No (a/4)).a:=by rw[<-e1];exact c
  unfold Bu;rw[l2,if_pos x1,x2,c',if_pos y1,y2,x3,y3];rfl
 .omega
theorem ZE {k:AN} {kind:Int} (hk:kind=10∨kind=11) {a b:Int}:Ad k (Ag kind a b 0)=QI k (Ag kind a b 0):=by
 unfold Ad;rw[if_neg (show ¬(Ag kind a b 0).k=1 by show ¬kind=1;omega),if_neg (by rw[show Bd (Ag kind a b 0).k 2 6=false from VX.2 (by show kind<2∨6<kind;omega)];simp),if_neg (show ¬(Ag kind a b 0).k=7 by show ¬kind=7;omega),
  if_neg (show ¬(Ag kind a b 0).k=8 by show ¬kind=8;omega),if_neg (show ¬(Ag kind a b 0).k=9 by show ¬kind=9;omega),if_pos (show(Ag kind a b 0).k=10∨(Ag kind a b 0).k=11 from hk)]
def Mw (c:List Ak) (e p:Int) (f:Nat) (w:Bool):List Ak:=if Hj c e p<0 then Mk c ⟨e,p,f,w⟩ else c
theorem Zu {k:AN} {c:Ab}:QI k c=
 if Bd c.a 0 63=false∨(AJ k.zZ c.e.toNat).root<0∨(c.k=11/\Dy c.b=false) then(k,0,3)
 else if(Bu k.mem (AJ k.zZ c.e.toNat).root.toNat c.a.toNat).1≠0 then(k,0,3)
 else if c.k=11/\(Bu k.mem (AJ k.zZ c.e.toNat).root.toNat c.a.toNat).2.2=false then(k,0,1)
 else if c.k=11 then({k with mem:=CZ k.mem (Bu k.mem (AJ k.zZ c.e.toNat).root.toNat c.a.toNat).2.1 (c.a%4).toNat c.b,zY:=Mw k.zY c.e (c.a/4) (Bu k.mem (AJ k.zZ c.e.toNat).root.toNat c.a.toNat).2.1 (Bu k.mem (AJ k.zZ c.e.toNat).root.toNat c.a.toNat).2.2},0,0)
 else({k with zY:=Mw k.zY c.e (c.a/4) (Bu k.mem (AJ k.zZ c.e.toNat).root.toNat c.a.toNat).2.1 (Bu k.mem (AJ k.zZ c.e.toNat).root.toNat c.a.toNat).2.2},As k.mem (Bu k.mem (AJ k.zZ c.e.toNat).root.toNat c.a.toNat).2.1 (c.a%4).toNat,0):=rfl
theorem XN (h:EC p) {a:Nat} (ha:a<64) (hw:(AB p.No (a/4)).w=1):
 Ad p.zX (Ag 10 (a:Int) 0 0)=({p.zX with zY:=Mw p.zX.zY 0 ((a/4:Nat):Int) (AB p.No (a/4)).a.toNat true},As p.zX.mem (AB p.No (a/4)).a.toNat (a%4),0):=by
 rw[ZE (.inl rfl)];have dl:=h.walk ha hw;have hr:=h.root;unfold QI;have e0:(AJ p.zX.zZ (Ag 10 (a:Int) 0 0).e.toNat).root=AZ p.zX 0:=rfl;have e1:(Ag 10 (a:Int) 0 0).a.toNat=a:=rfl;have e2:(Ag 10 (a:Int) 0 0).a/4=((a/4:Nat):Int):=by show(a:Int)/4=_;omega
 have e3:((Ag 10 (a:Int) 0 0).a%4).toNat=a%4:=by show((a:Int)%4).toNat=_;omega
 simp only[e0,e1,e2,e3,dl];rw[if_neg,if_neg (by decide),if_neg,if_neg]
 .rfl
 .show ¬(10:Int)=11;decide
 .rintro⟨_,x⟩;cases x
 .rintro(x|x|⟨x,_⟩)
  .rw[show Bd (Ag 10 (a:Int) 0 0).a 0 63=true from Ac.2 ⟨by show(0:Int)<=(a:Int);omega,by show(a:Int)<=63;omega⟩] at x;cases x
  .omega
  .exact absurd (show(10:Int)=11 from x) (by decide)
theorem WE (h:EC p) {a:Nat} (ha:a<64) (hw:(AB p.No (a/4)).w=1) {w:Int} (ar:Dy w=true):
 Ad p.zX (Ag 11 (a:Int) w 0)=({p.zX with mem:=CZ p.zX.mem (AB p.No (a/4)).a.toNat (a%4) w,zY:=Mw p.zX.zY 0 ((a/4:Nat):Int) (AB p.No (a/4)).a.toNat true},0,0):=by
 rw[ZE (.inr rfl)];have dl:=h.walk ha hw;have hr:=h.root;unfold QI;have e0:(AJ p.zX.zZ (Ag 11 (a:Int) w 0).e.toNat).root=AZ p.zX 0:=rfl;have e1:(Ag 11 (a:Int) w 0).a.toNat=a:=rfl;have e2:(Ag 11 (a:Int) w 0).a/4=((a/4:Nat):Int):=by show(a:Int)/4=_;omega
 have e3:((Ag 11 (a:Int) w 0).a%4).toNat=a%4:=by show((a:Int)%4).toNat=_;omega
 simp only[e0,e1,e2,e3,dl];rw[if_neg,if_neg (by decide),if_neg,if_pos]
 .rfl
 .rfl
 .rintro⟨_,x⟩;cases x
 .rintro(x|x|⟨_,x⟩)
  .rw[show Bd (Ag 11 (a:Int) w 0).a 0 63=true from Ac.2 ⟨by show(0:Int)<=(a:Int);omega,by show(a:Int)<=63;omega⟩] at x;cases x
  .omega
  .rw[show Dy (Ag 11 (a:Int) w 0).b=true from ar] at x;cases x
theorem EC.zY (h:EC p) {c:List Ak} (hk:DI {p.zX with zY:=c}):EC {p with zX:= {p.zX with zY:=c}}:=
 ⟨hk,h.zF,h.zx,h.may,h.alone,h.root,h.zv,h.yO,h.lows,h.zQ,h.slots,fun n hn=>h.No n hn,h.zT,h.zW,h.count⟩
theorem Ze (h:EC p) {a:Nat} (ha:a<64) (hy:(BI p (a/4)).2=true):
 (Kb p a).2.2=true/\(Kb p a).2.1=Fn p a/\EC (Kb p a).1/\∀b,b<64->Fn (Kb p a).1 b=Fn p b:=by
 have T:=Mu h (n:=a/4) (by omega) hy;have hd:=XN T.ok ha T.w;have hk:=Ft (k:=(BI p (a/4)).1.zX) T.ok.k (kind:=10) (a:=(a:Int)) (b:=0) (c:=0);rw[hd] at hk;unfold Kb;simp only[hy,if_true,hd];refine⟨trivial,?_,T.ok.zY hk,fun b hb=>?_⟩
 .rw[<-T.words a ha]
  unfold Fn;rw[if_pos T.w]
 .rw[<-T.words b hb];rfl
theorem WV (h:EC p) {a:Nat} (ha:a<64) (hy:(BI p (a/4)).2=false):Kb p a=(p,0,false):=by have:=Gd h (n:=a/4) (by omega) hy;unfold Kb;simp[hy,this]
theorem Um (h:EC p) {a:Nat} (ha:a<64) {w:Int} (hy:(BI p (a/4)).2=false):Ik p a w=(p,false):=by have:=Gd h (n:=a/4) (by omega) hy;unfold Ik;simp[hy,this]
theorem ZR {b:Nat} (h1:a/4=b/4) (h2:a%4=b%4):a=b:=by omega
theorem EC.put (h:EC p) {a:Nat} (ha:a<64) (hw:(AB p.No (a/4)).w=1) {w:Int} {c:List Ak} (hk:DI {p.zX with mem:=CZ p.zX.mem (AB p.No (a/4)).a.toNat (a%4) w,zY:=c}):
 EC {p with zX:= {p.zX with mem:=CZ p.zX.mem (AB p.No (a/4)).a.toNat (a%4) w,zY:=c}}/\
 ∀b,b<64->Fn {p with zX:= {p.zX with mem:=CZ p.zX.mem (AB p.No (a/4)).a.toNat (a%4) w,zY:=c}} b=if b=a then w else Fn p b:=by
 have fk:=h.zJ (n:=a/4) (by omega) hw;have c7:∀f i,As (CZ p.zX.mem (AB p.No (a/4)).a.toNat (a%4) w) f i=if f=(AB p.No (a/4)).a.toNat/\i=a%4 then w else As p.zX.mem f i:=fun f i=>QA (by rw[h.meml];exact fk.1) (by rw[h.rowl fk.1];omega)
 refine⟨⟨hk,h.zF,h.zx,h.may,h.alone,h.root,h.zv,h.yO,fun i hi=>?_,h.zQ,h.slots,fun n hn=>?_,h.zT,h.zW,h.count⟩,fun b hb=>?_⟩
 .obtain⟨x1,x2,x3,x4⟩:=h.lows i hi
  refine⟨x1,x2,?_,x4⟩
  show As (CZ p.zX.mem _ _ w) (AZ p.zX 0).toNat i=_
  rw[c7,if_neg (fun e=>h.yV (n:=a/4) (by omega) hw e.1)];exact x3
 .have e:Br {p with zX:= {p.zX with mem:=CZ p.zX.mem (AB p.No (a/4)).a.toNat (a%4) w,zY:=c}} n=Br p n:=by
   unfold Br
   show As (CZ p.zX.mem _ _ w) (BG p.low (n/4)).toNat (n%4)=_
   rw[c7,if_neg (fun e=>h.zh (n:=a/4) (i:=n/4) (by omega) hw (by omega) e.1)]
  have:=h.No n hn;unfold KB at this ⊢;rw[e];exact this
 .unfold Fn
  show(if(AB p.No (b/4)).w=1 then As (CZ p.zX.mem _ _ w) (AB p.No (b/4)).a.toNat (b%4) else if(AB p.No (b/4)).w=2 then _ else _)=_
  by_cases e:b=a
  .subst e
   rw[if_pos hw,if_pos rfl,c7,if_pos ⟨rfl,rfl⟩]
  .rw[if_neg e]
   by_cases w1:(AB p.No (b/4)).w=1
   .rw[if_pos w1,if_pos w1,c7,if_neg]
    rintro⟨x,y⟩;exact e (ZR (h.zd (by omega) (by omega) w1 hw x) y)
   .rw[if_neg w1,if_neg w1]
theorem Y9 (h:EC p) {a:Nat} (ha:a<64) {w:Int} (ar:Dy w=true) (hy:(BI p (a/4)).2=true):
 (Ik p a w).2=true/\EC (Ik p a w).1/\(∀b,b<64->Fn (Ik p a w).1 b=if b=a then w else Fn p b)/\(AB (Ik p a w).1.No (a/4)).w=1:=by
 have T:=Mu h (n:=a/4) (by omega) hy;have hd:=WE T.ok ha T.w ar;have hk:=Ft (k:=(BI p (a/4)).1.zX) T.ok.k (kind:=11) (a:=(a:Int)) (b:=w) (c:=0);rw[hd] at hk;have P:=T.ok.put ha T.w (w:=w) hk;unfold Ik;simp only[hy,if_true,hd];refine⟨trivial,P.1,fun b hb=>?_,T.w⟩;rw[<-T.words b hb];exact P.2 b hb
theorem Yi (h:EC p) {a:Nat} (ha:a<64):EC (Kb p a).1:=by
 cases hy:(BI p (a/4)).2
 .rw[WV h ha hy];exact h
 .exact(Ze h ha hy).2.2.1
theorem Rw (h:EC p) {a:Nat} (ha:a<64) {w:Int} (ar:Dy w=true):EC (Ik p a w).1:=by
 cases hy:(BI p (a/4)).2
 .rw[Um h ha hy];exact h
 .exact(Y9 h ha ar hy).2.1
theorem Ln (h:EC p) {n:Nat} (hn:n<16):EC (BI p n).1:=by
 cases hy:(BI p n).2
 .rw[Gd h hn hy];exact h
 .exact(Mu h hn hy).ok
theorem Uq (h:EC p) {n:Nat} (hn:n<16) (hy:(BI p n).2=true):BI (BI p n).1 n=((BI p n).1,true):=by
 have T:=Mu h hn hy;rw[Mt T.ok T.w];have e:Ee (BI p n).1.No n=(BI p n).1.No:=by
  unfold Ee;have:({AB (BI p n).1.No n with u:=true}:Bi)=AB (BI p n).1.No n:=by
   have:=T.u
   revert this
   generalize AB (BI p n).1.No n=x;intro hx;obtain⟨w,a,u⟩:=x;simp only at hx;subst hx;rfl
  rw[this];exact LJ
 rw[e]
def Bx (k:AN) (c:Ab) (kind:Int):Int:=
 if Bd c.a 0 11=false∨(zU k.Os c.a.toNat).k=0 then 3
 else if Bv (AJ k.zZ c.e.toNat).zV (zU k.Os c.a.toNat).g=false then 1
 else if(0<kind/\(zU k.Os c.a.toNat).k≠kind)∨(kind=0/\Bb (zU k.Os c.a.toNat).k=false) then 3
 else 0
theorem Jd {k:AN} {c:Ab} (h1:2<=c.k) (h2:c.k<=6):Ad k c=Gb k c:=by unfold Ad;rw[if_neg (by omega),if_pos (Ac.2 ⟨h1,h2⟩)]
theorem VD {k:AN} {c:Ab} (h:c.k=2):Ad k c=if Bx k c 1=0 then(if(zU k.Os c.a.toNat).r≠0 then(k,0,2) else({k with Os:=k.Os.set c.a.toNat AU.zero},0,0)) else(k,0,Bx k c 1):=by
 rw[Jd (by omega) (by omega)];unfold Gb Bx Jw FV;rw[h]
 by_cases a1:Bd c.a 0 11=false∨(zU k.Os c.a.toNat).k=0
 .rw[if_pos a1,if_pos (by rcases a1 with a1|a1<;>simp[a1])];rfl
 .have bd:=not_or.1 a1
  rw[if_neg a1,if_neg (by simp[bd.1,bd.2])];cases Bv (AJ k.zZ c.e.toNat).zV (zU k.Os c.a.toNat).g
  .rfl
  .by_cases a2:(zU k.Os c.a.toNat).k=1
   .simp[a2]
   .simp[a2]
theorem VE {k:AN} {c:Ab} (h:c.k=3):Ad k c=if Bx k c 1=0 then(if Bd c.b 0 3=false∨Dy c.c=false then(k,0,3) else({k with mem:=CZ k.mem c.a.toNat c.b.toNat c.c},0,0)) else(k,0,Bx k c 1):=by
 rw[Jd (by omega) (by omega)];unfold Gb Bx J2 FV;rw[h]
 by_cases a1:Bd c.a 0 11=false∨(zU k.Os c.a.toNat).k=0
 .rw[if_pos a1,if_pos (by rcases a1 with a1|a1<;>simp[a1])];rfl
 .have bd:=not_or.1 a1
  rw[if_neg a1,if_neg (by simp[bd.1,bd.2])];cases Bv (AJ k.zZ c.e.toNat).zV (zU k.Os c.a.toNat).g
  .rfl
  .by_cases a2:(zU k.Os c.a.toNat).k=1
   .simp[a2]
   .simp[a2]
theorem Wo {k:AN} {c:Ab} (h:c.k=4∨c.k=5):Ad k c=if Bd c.a 0 11=false∨(zU k.Os c.a.toNat).k=0∨(c.k=4/\Bb c.b=false) then(k,0,3)
 else if FV k c.e (zU k.Os c.a.toNat).g=false then(k,0,1)
 else EA k (if c.k=4 then Gz k.mem k.Os c.a.toNat c.b (AJ k.zZ c.e.toNat).zV else Di k.mem k.Os c.a.toNat):=by
 rw[Jd (by omega) (by omega)];unfold Gb
 rcases h with h|h<;>simp[h]
def Y8 (k:AN) (c:Ab):L8:=
 if Bd c.b 0 3=false∨Dg k c=false then(k,0,3)
 else if(FY k c.a.toNat).all (fun e=>BC k.Os (DJ k c.c) (AJ k.zZ e).zV)=false then(k,0,1)
 else if Bf c.c=true/\FV k c.e (zU k.Os (A8 c.c)).g=false then(k,0,1)
 else({k with mem:=CZ k.mem c.a.toNat c.b.toNat c.c,Os:=A3 (A3 k.Os (As k.mem c.a.toNat c.b.toNat) (-1)) c.c 1,zY:=(FY k c.a.toNat).foldl (fun c e=>Fu c (e:Nat)) k.zY},0,0)
theorem Wp {k:AN} {c:Ab} (h:c.k=6):Ad k c=if Bx k c 0=0 then Y8 k c else(k,0,Bx k c 0):=by
 rw[Jd (by omega) (by omega)];unfold Gb Bx Gt Y8 FV;rw[h]
 by_cases a1:Bd c.a 0 11=false∨(zU k.Os c.a.toNat).k=0
 .rw[if_pos a1,if_pos (by rcases a1 with a1|a1<;>simp[a1])];rfl
 .have bd:=not_or.1 a1
  rw[if_neg a1,if_neg (by simp[bd.1,bd.2])];cases Bv (AJ k.zZ c.e.toNat).zV (zU k.Os c.a.toNat).g
  .rfl
  .cases a2:Bb (zU k.Os c.a.toNat).k<;>simp
theorem JN {k:AN} {c:Ab} {kind:Int} (h:Bx k c kind=0):Bd c.a 0 11=true/\(zU k.Os c.a.toNat).k≠0/\Bv (AJ k.zZ c.e.toNat).zV (zU k.Os c.a.toNat).g=true/\(0<kind->(zU k.Os c.a.toNat).k=kind)/\(kind=0->Bb (zU k.Os c.a.toNat).k=true):=by
 unfold Bx at h
 by_cases a1:Bd c.a 0 11=false∨(zU k.Os c.a.toNat).k=0
 .rw[if_pos a1] at h;cases h
 .rw[if_neg a1] at h
  have bd:=not_or.1 a1;cases hm:Bv (AJ k.zZ c.e.toNat).zV (zU k.Os c.a.toNat).g
  .rw[hm] at h;cases h
  .rw[hm,if_neg (by simp)] at h
   by_cases a2:(0<kind/\(zU k.Os c.a.toNat).k≠kind)∨(kind=0/\Bb (zU k.Os c.a.toNat).k=false)
   .rw[if_pos a2] at h;cases h
   .have el:=not_or.1 a2
    refine⟨by simpa using bd.1,bd.2,rfl,fun h0=>?_,fun h0=>?_⟩
    .exact Classical.byContradiction fun hx=>el.1 ⟨h0,hx⟩
    .cases ht:Bb (zU k.Os c.a.toNat).k
     .exact absurd ⟨h0,ht⟩ el.2
     .rfl
def HZ (Os:List AU) (old:Int):List AU:=if 0<=old then Ar Os old.toNat (JJ (-1)) else Os
def Mn (Os:List AU) (new:Int):List AU:=if 0<=new then Ar Os new.toNat (JJ 1) else Os
theorem Y2 {k:AN} {c:Ab}:OK k c=
 if c.a≠ -1/\(Bd c.a 0 11=false∨(zU k.Os c.a.toNat).k≠3) then(k,0,3)
 else if BC k.Os (BY k.mem c.a) (AJ k.zZ c.e.toNat).zV=false then(k,0,1)
 else({k with Os:=Mn (HZ k.Os (AJ k.zZ c.e.toNat).root) c.a,zZ:=Ar k.zZ c.e.toNat (Dk c.a),zY:=Fu k.zY c.e},0,0):=rfl
theorem VF {k:AN} {c:Ab} (h:c.k=7):Ad k c=OK k c:=by unfold Ad;rw[if_neg (by omega),if_neg (by rw[h];decide),if_pos h]
theorem Tp {k:AN} {c:Ab} (h:c.k=8):Ad k c=Kx k c:=by unfold Ad;rw[if_neg (by omega),if_neg (by rw[h];decide),if_neg (by omega),if_pos h]
theorem Sa {k:AN} {c:Ab} (h:c.k=9):Ad k c=Jg k c:=by unfold Ad;rw[if_neg (by omega),if_neg (by rw[h];decide),if_neg (by omega),if_neg (by omega),if_pos h]
theorem Wq {k:AN} {c:Ab} (h:c.k=10∨c.k=11):Ad k c=QI k c:=by unfold Ad;rw[if_neg (by omega),if_neg (by rcases h with h|h<;>rw[h]<;>decide),if_neg (by omega),if_neg (by omega),if_neg (by omega),if_pos h]
theorem To {k:AN} (h:DI k) {e p:Nat} {j:Nat} (hj:j<k.zY.length) (hs:Bj (e:Int) (p:Int) (AT k.zY j)=true) {a:Nat} (ha:a/4=p):
 ∃fr:Nat,fr<12/\AT k.zY j=⟨(e:Int),(p:Int),(fr:Int),(AT k.zY j).w⟩/\Bu k.mem (AJ k.zZ e).root.toNat a=(0,fr,(AT k.zY j).w):=by
 have hx:AT k.zY j∈k.zY:=List.mem_of_getElem? (A1 hj);have ht:=h.trans _ hx;have hc:=(Ek.1 h.zY).1 _ hx;generalize AT k.zY j=x at*;obtain⟨xe,xp,xf,xw⟩:=x;simp only[Bj,yt,decide_eq_true_eq] at hs;obtain⟨rfl,rfl⟩:=hs;simp only[CU,yt,Ac] at hc;obtain⟨_,h0,fF⟩:=hc;obtain⟨fr,rfl⟩:∃fr:Nat,xf=(fr:Int):=⟨xf.toNat,by omega⟩
 refine⟨fr,by omega,rfl,?_⟩;simp only[Cm,yt,decide_eq_true_eq,xY] at ht;have e1:Bu k.mem (AJ k.zZ e).root.toNat a=Bu k.mem (AJ k.zZ e).root.toNat (4*p):=by unfold Bu;rw[show 4*p/16=a/16 by omega,show 4*p/4%4=a/4%4 by omega]
 rw[e1];exact ht.2
open Go.RowKit
def SS (lo:Nat) (w:World) (v:Value) (f a:Nat) (b:Bool):Prop:=∃q,v= .pointer (some ⟨q,0,none⟩)/\lo<=q/\w.heap[q]? =some (.cells #[.int .i64 f, .int .i64 a, .bool b] 100 (0,0))
theorem SS.below {v:Value} {b:Bool} (h:SS lo w v f a b) (hb:Below w.heap.size w w'):SS lo w' v f a b:=by obtain⟨q,h0,h1,h2⟩:=h;exact⟨q,h0,h1,AC h2 hb⟩
theorem Xa {q T:Nat} {x y z a b c:Value} (h:w'.heap[q]? =some (.cells #[x,y,z] T (0,0))) (hb:Below W.heap.size W w') (hq:W.heap.size<=q):
 (((w'.setCell ⟨q,0,none⟩ a).setCell ⟨q,1,none⟩ b).setCell ⟨q,2,none⟩ c).heap[q]? =some (.cells #[a,b,c] T (0,0))/\Below W.heap.size W (((w'.setCell ⟨q,0,none⟩ a).setCell ⟨q,1,none⟩ b).setCell ⟨q,2,none⟩ c):=by
 refine⟨?_,((hb.setCell hq _).setCell hq _).setCell hq _⟩;have h1:=yu w' q 0 _ T a h;have h2:=yu _ q 1 _ T b h1;have h3:=yu _ q 2 _ T c h2;simpa using h3
def MQ (lo:Nat) (b:Bool) (v:Value) (w:World) (f a:Int) (t:Bool):Prop:=∃q,v= .pointer (some ⟨q,0,none⟩)/\lo<=q/\w.heap[q]? =some (.cells (if b then #[.int .i64 f, .int .i64 a, .bool t] else #[.int .i64 0, .int .i64 0, .bool false]) 100 (0,0))
theorem MQ.below {b:Bool} {v:Value} {f a:Int} {t:Bool} (h:MQ lo b v w f a t) (hb:Below w.heap.size w w'):MQ lo b v w' f a t:=by obtain⟨q,h0,h1,h2⟩:=h;exact⟨q,h0,h1,AC h2 hb⟩
theorem MQ.zero {q:Nat} {b:Bool} {f a:Int} {t:Bool} (hb:b=false) (hq:lo<=q) (hh:w.heap[q]? =some (.cells #[.int .i64 0, .int .i64 0, .bool false] 100 (0,0))):MQ lo b (.pointer (some ⟨q,0,none⟩)) w f a t:=⟨q,rfl,hq,by rw[hb];exact hh⟩
def EB (k:AN) (a j:Nat):List Nat:=(yE j).filter fun e=>(BY k.mem (AJ k.zZ e).root).contains a
theorem WK {k:AN} (h:(BY k.mem (AJ k.zZ j).root).contains a=false):EB k a (j+1)=EB k a j:=by unfold EB;rw[xx,wy];simp only[uW,h,ul];simp
theorem Ut {k:AN} (h:(BY k.mem (AJ k.zZ j).root).contains a=true):EB k a (j+1)=EB k a j++[j]:=by unfold EB;rw[xx,wy];simp only[uW,h,ul];simp
theorem LQ {k:AN}:(EB k a j).length<=j:=by unfold EB;exact yD (List.length_filter_le _ _) (by simp)
theorem WJ {k:AN} {e:Nat} (h:e∈EB k a j):e<j:=yj.1 (wX.1 h).1
theorem IZ {k:AN}:EB k a 3=FY k a:=rfl
theorem QW {ts l:List Nat} (h:∀g,g∈ts↔g∈l):(Ay ts).contains (a:Int)=l.contains a:=by rw[wF,uT,uT,KL,h]
def GZ (es:List Nat) (c:List Ak):List Ak:=es.foldl (fun c e=>Fu c (e:Nat)) c
theorem Q8 {c:List Ak} (es:List Nat) (h:BQ c=true):BQ (GZ es c)=true:=Tx h
theorem Nr {es:List Nat} {c:List Ak} (h:j<es.length):GZ (es.take (j+1)) c=Fu (GZ (es.take j) c) ((es.getD j 0:Nat):Int):=by unfold GZ;rw[Cw (A1 (d:=0) h),uB];rfl
theorem Zq {k:AN} {c:Ab}:Gt k c=
 if Bb (zU k.Os c.a.toNat).k=false∨Bd c.b 0 3=false∨Dg k c=false then(k,0,3)
 else if(FY k c.a.toNat).all (fun e=>BC k.Os (DJ k c.c) (AJ k.zZ e).zV)=false then(k,0,1)
 else if Bf c.c=true/\FV k c.e (zU k.Os (A8 c.c)).g=false then(k,0,1)
 else({k with mem:=CZ k.mem c.a.toNat c.b.toNat c.c,Os:=A3 (A3 k.Os (As k.mem c.a.toNat c.b.toNat) (-1)) c.c 1,zY:=GZ (FY k c.a.toNat) k.zY},0,0):=rfl
theorem MK {Os:List AU} (h:BK Os=true):JI Os 50:=by
 intro f hf;have:=(A0.1 h).2 f (by rw[<-(A0.1 h).1];exact hf);unfold DH at this;simp only[xv,yt,decide_eq_true_eq,Ac] at this
 rcases this with h|h
 .rw[h];decide
 .omega
theorem JI.refer {Os:List AU} {b x n:Int} (h:JI Os b) (hl:Os.length=12) (hn:n=1∨n= -1):JI (A3 Os x n) (b+1):=by
 intro f hf;rw[Cd] at hf;have:=h f hf;rw[FG hl]
 show -(b+1)<=(zU Os f).r+n*((D5 (Db f x):Nat):Int)/\(zU Os f).r+n*((D5 (Db f x):Nat):Int)<=b+1
 unfold D5
 split<;>rcases hn with rfl|rfl<;>omega
theorem JI.mono {Os:List AU} {b b':Int} (h:JI Os b) (hb:b<=b'):JI Os b':=fun f hf=>by have:=h f hf;omega
theorem Nd {v u:Value} {xs:List Int} (h:AG lo w v xs) (hg:g<lo):AG lo (w.setCell ⟨g,j,none⟩ u) v xs:=
 Au h (Aq w g j u) (by
  rcases hv:v.ownBlock with _|b
  .exact .inl rfl
  .refine .inr fun e=>?_
   cases e;have:=(yr h g hv).1;omega)
theorem EL.refer {b0:Nat} {call:Ab} {m e c:Value} {k:AN} {gi bZ:Nat} (h:CS lo g b0 call w W m (.slice (some ⟨gi,0,none⟩) 12 bZ) e c k) (x n:Int) (hx:x<=9223372036854775807) (hl:k.Os.length=12) (hn:n=1∨n= -1) (hs:JI k.Os 1000):
 Calls prog 254 #[call.on g, .int .i64 x, .int .i64 n] W fun r w'=>r= .returned (.tuple #[])/\CS lo g b0 call w w' m (.slice (some ⟨gi,0,none⟩) 12 bZ) e c {k with Os:=A3 k.Os x n}/\W.grownBy w' (some gi):=by
 have dI:=AA (AD W (.cells (call.onCells g) 162));have N:=heap_alloc_new W (.cells (call.onCells g) 162);have hb:=AD W (.cells (call.onCells g) 162);have h1:=h.below hb;have eP: -1<=n/\n<=1:=by omega
 have CE:=AA (fun W=>FN x W hx);have dT:=h1.zg h1.yK.2.2.2.1 rfl (by decide) (by decide);obtain⟨fH,cE⟩:=A6 h1.yK.2.2.2.1 gi rfl;have e5:gi≠W.heap.size:=by have:=h.zo;omega
 have fD:W.heap.size≠gi:=e5.symm;have ef:g≠W.heap.size:=by have:=h.lts.2.1;omega
 obtain⟨k1,e1,a1,b1,c1,eF⟩:=call;simp only[Ab.on,Ab.onCells] at N hb h1 dI ⊢;obtain⟨y0,y1,y2,y3,y4,y5,y6⟩:=J0 (c:=⟨k1,e1,a1,b1,c1,eF⟩) N;cases hg:Bf x
 .have V:=AA (Eb hg)
  have S:=AA (show A3 k.Os x n=k.Os by simp[A3,hg]);have H1:=AA h1;clear hg h h1 hs hn y0 y1 y2 y3 y4 y5 y6 N hl dT cE;go_in;go_wp2_with (go_at_call 126;refine(CE.out _).mono ?_;rintro e w' ⟨rfl,rfl⟩;rw[V.out]);go_returns;exact⟨rfl,by rw[S.out];exact H1.out,AW dI.out _⟩
 .have hF:=EH hg
  have V:=AA (ER hg);have S:=AA (show A3 k.Os x n=Ar k.Os (A8 x) (JJ n) by unfold A3;rw[hg,if_pos rfl]);generalize A8 x=f at*;have c5:f<k.Os.length:=by omega
  obtain⟨s1,s2⟩:=hs f c5;obtain⟨_,_,d2⟩:=h1.zU c5;have T:=AA (h1.info hl.symm c5 n);have x1:=h1.xs.2.1;have Fr:=h1.fzi (f*3+2);have fb:(f:Int)<12:=by omega
  clear hg h h1 hs hn N y1 y2 y3 y4 y5 y6 hl dT cE;go_in;go_wp2_with (go_at_call 126;refine(CE.out _).mono ?_;rintro e w' ⟨rfl,rfl⟩;rw[V.out]);go_returns;exact⟨rfl,by rw[S.out];exact T.out,AO (AW dI.out _) (Aq _ _ _ _)⟩
theorem Y6 {m i e c:Value} {k:AN} (h:Ic lo w g m i e c k) (bw:lo<=w.heap.size) (hK:DI k) (call:Ab) (he:0<=call.e) (hn:call.e<3) (ha:0<=call.a/\call.a<12) (bj:call.c<=9223372036854775807):
 Calls prog 227 #[call.on g] w (Gf lo g w (Gt k call)):=by
 have S0:=EL.start h bw call;have P:=Zq (k:=k) (c:=call);obtain⟨k1,e1,a1,b1,c1,nm⟩:=call;obtain⟨en,rfl⟩:∃n:Nat,e1=(n:Int):=⟨e1.toNat,by simp only at he;omega⟩
 obtain⟨an,rfl⟩:∃n:Nat,a1=(n:Int):=⟨a1.toNat,by simp only at ha;omega⟩
 have c6:en<3:=by simp only at hn;omega
 have av:an<12:=by simp only at ha;omega
 simp only[Ab.on,Ab.onCells] at S0 P bj ⊢;simp only[xY] at P;obtain⟨ge,bZ,e9,_,⟨⟨cr,cq⟩,cp,co⟩,_⟩:=S0.zZ (by rw[hK.zP];omega);rw[hK.zP] at e9;obtain⟨gi,br,e8,_,_,⟨⟨cn,cm⟩,cl,ck⟩,_⟩:=S0.Os (by rw[hK.len];omega);rw[hK.len] at e8;obtain⟨gm,a3,e7,_,⟨cj,ci⟩,ch,cg⟩:=S0.mems (Aw hK).1;subst e7 e8 e9;obtain⟨y0,y1,y2,y3,y4,y5,y6⟩:=S0.ys;have HK:=AA hK;have HS:=AA S0;have HP:=AA P;have ff:(an:Int)<12:=by omega
 have eA:=AA (fun W=>FN c1 W bj);replace y3:=yb y3;replace y4:=yb y4;replace y5:=yb y5;clear hK h S0 bw he hn P y0 y1 y2 y6 ha;go_in;go_wp2_with fail;generalize w.alloc _=W0 at*;refine Bn ?_
 repeat(go_big_quiet_step (fail))
 refine Bm fun wq bq=>?_
 clear y3 y4 y5;have S2:=AA (HS.out.below bq);obtain⟨W2,rfl⟩:∃W2:World,W2=wq:=⟨_,rfl⟩
 clear bq;obtain⟨y0,_,_,_,_,_,_⟩:=S2.out.ys;obtain⟨x0,x1,_,_⟩:=S2.out.xs;obtain⟨d0,_,_⟩:=S2.out.zU (f:=an) (by rw[HK.out.len];exact av);have cT:=Wj (w1:=W2) (fun W=>IT (zU k.Os an).k W);have cP:=Wj (w1:=W2) (fun W=>Nt b1 W);have cN:=Wj (w1:=W2) (fun W=>Ko (zU k.Os an).k W);cases hg:Bf c1
 focus
  have V:=AA (Eb hg);have b5:=AA hg;have d6:DJ k c1=[]:=by unfold DJ;rw[hg];rfl
  have fi:=AA d6;have bs:Dg k ⟨k1,(en:Int),(an:Int),b1,c1,nm⟩=decide (c1=0):=by unfold Dg;rw[hg];rfl
  clear hg d6;go_wp2_with (go_at_call 126;refine(eA.out _).mono ?_;rintro e w' ⟨rfl,rfl⟩;rw[V.out]);clear x1 d0 y0 x0;cases ht:Bb (zU k.Os an).k
  .rw[ht] at cT
   have E:=AA (show Gt k ⟨k1,(en:Int),(an:Int),b1,c1,nm⟩=(k,0,3) by rw[HP.out,if_pos (.inl ht)]);refine Bn ?_
   repeat(go_big_quiet_step (first|exact cT _ _|exact cP _ _|exact cN _ _))
   refine Bm fun wq bq=>?_
   go_wp2_with fail;go_ret;exact Gf.bad E.out (by decide) (S2.out.below bq).bel
  rw[ht] at cT;cases hb:Bd b1 0 3
  .rw[hb] at cP
   have E:=AA (show Gt k ⟨k1,(en:Int),(an:Int),b1,c1,nm⟩=(k,0,3) by rw[HP.out,if_pos (.inr (.inl hb))]);refine Bn ?_
   repeat(go_big_quiet_step (first|exact cT _ _|exact cP _ _|exact cN _ _))
   refine Bm fun wq bq=>?_
   go_wp2_with fail;go_ret;exact Gf.bad E.out (by decide) (S2.out.below bq).bel
  rw[hb] at cP
  by_cases h0:c1=0
  rotate_left
  .have t0:(c1 !=0)=true:=by simp[h0]
   have E:=AA (show Gt k ⟨k1,(en:Int),(an:Int),b1,c1,nm⟩=(k,0,3) by rw[HP.out,if_pos (.inr (.inr (by rw[bs];simp[h0])))]);refine Bn ?_
   repeat(go_big_quiet_step (first|exact cT _ _|exact cP _ _|exact cN _ _))
   refine Bm fun wq bq=>?_
   go_wp2_with fail;go_ret;exact Gf.bad E.out (by decide) (S2.out.below bq).bel
  have t0:(c1 !=0)=false:=by simp[h0]
  have bA:=AA (show Gt k ⟨k1,(en:Int),(an:Int),b1,c1,nm⟩=_ by rw[HP.out,if_neg (by rintro(x|x|x);(· rw[ht] at x;cases x);(· rw[hb] at x;cases x);(· rw[bs,h0] at x;cases x))]);obtain⟨bn,rfl⟩:∃n:Nat,b1=(n:Int):=⟨b1.toNat,by have:=(Ac.1 hb).1;omega⟩
  have bz:bn<4:=by have:=(Ac.1 hb).2;omega
  simp only[xY] at bA;have fI:=AA h0;clear bs ht hb h0;refine Bn ?_
  repeat(go_big_quiet_step (first|exact cT _ _|exact cP _ _|exact cN _ _))
  refine Bm fun wq bq=>?_
  clear cT cP cN t0;have S5:=AA (S2.out.below bq);obtain⟨W5,rfl⟩:∃W5:World,W5=wq:=⟨_,rfl⟩
  clear bq S2;have cR:=AA (xj W5 W5.heap.size 3 1);have cR:Hid (AG W5.heap.size W5 (.slice none 0 0) (Ay [])):=AA cR.out;obtain⟨ts,hts⟩:∃ts:List Nat,ts=[]:=⟨_,rfl⟩
  have Hm:=AA (show ∀g,g∈ts↔g∈DJ k c1 by rw[hts,fi.out];exact fun _=>Iff.rfl);have Ht:=AA (show ∀g,g∈ts->g<12 by rw[hts];intro g hg;cases hg);rw[<-hts] at cR;clear hts
 rotate_left
 focus
  have hF:=EH hg;have V:=AA (ER hg);have b5:=AA hg;have bs:Dg k ⟨k1,(en:Int),(an:Int),b1,c1,nm⟩=decide ((zU k.Os (A8 c1)).k=(zU k.Os an).k - 1):=by unfold Dg;rw[hg];rfl
  have h0:c1≠0:=by rintro rfl;cases hg
  have t0:(c1 !=0)=true:=by simp[h0]
  have HN:=AA (show DJ k c1=A8 c1::(if Bb (zU k.Os (A8 c1)).k then named (AH k.mem (A8 c1)) else[]) by unfold DJ;rw[hg];rfl);clear hg;obtain⟨f,hfe⟩:∃f,f=A8 c1:=⟨_,rfl⟩
  have HF:=AA hfe.symm;rw[<-hfe] at V HN bs hF;clear hfe;obtain⟨cb,_,_⟩:=S2.out.zU (f:=f) (by rw[HK.out.len];exact hF);have fb:(f:Int)<12:=by omega
  go_wp2_with (go_at_call 126;refine(eA.out _).mono ?_;rintro e w' ⟨rfl,rfl⟩;rw[V.out]);replace y0:=yb y0;replace x1:=yb x1;replace cb:=yb cb;clear d0 x0;cases ht:Bb (zU k.Os an).k
  .rw[ht] at cT
   have E:=AA (show Gt k ⟨k1,(en:Int),(an:Int),b1,c1,nm⟩=(k,0,3) by rw[HP.out,if_pos (.inl ht)]);refine Bn ?_
   repeat(go_big_quiet_step (first|exact cT _ _|exact cP _ _|exact cN _ _))
   refine Bm fun wq bq=>?_
   go_wp2_with fail;go_ret;exact Gf.bad E.out (by decide) (S2.out.below bq).bel
  rw[ht] at cT;rw[Ri ht] at cN;cases hb:Bd b1 0 3
  .rw[hb] at cP
   have E:=AA (show Gt k ⟨k1,(en:Int),(an:Int),b1,c1,nm⟩=(k,0,3) by rw[HP.out,if_pos (.inr (.inl hb))]);refine Bn ?_
   repeat(go_big_quiet_step (first|exact cT _ _|exact cP _ _|exact cN _ _))
   refine Bm fun wq bq=>?_
   go_wp2_with fail;go_ret;exact Gf.bad E.out (by decide) (S2.out.below bq).bel
  rw[hb] at cP
  by_cases h0:(zU k.Os f).k=(zU k.Os an).k - 1
  rotate_left
  .have t2:((zU k.Os f).k !=(zU k.Os an).k - 1)=true:=by simp[h0]
   have E:=AA (show Gt k ⟨k1,(en:Int),(an:Int),b1,c1,nm⟩=(k,0,3) by rw[HP.out,if_pos (.inr (.inr (by rw[bs];exact decide_eq_false h0)))]);refine Bn ?_
   repeat(go_big_quiet_step (first|exact cT _ _|exact cP _ _|exact cN _ _))
   refine Bm fun wq bq=>?_
   go_wp2_with fail;go_ret;exact Gf.bad E.out (by decide) (S2.out.below bq).bel
  have t2:((zU k.Os f).k !=(zU k.Os an).k - 1)=false:=by simp[h0]
  have bA:=AA (show Gt k ⟨k1,(en:Int),(an:Int),b1,c1,nm⟩=_ by rw[HP.out,if_neg (by rintro(x|x|x);(· rw[ht] at x;cases x);(· rw[hb] at x;cases x);(· rw[bs,decide_eq_true h0] at x;cases x))]);obtain⟨bn,rfl⟩:∃n:Nat,b1=(n:Int):=⟨b1.toNat,by have:=(Ac.1 hb).1;omega⟩
  have bz:bn<4:=by have:=(Ac.1 hb).2;omega
  simp only[xY] at bA;have ba:=hF;clear bs ht hb h0 hF;refine Bn ?_
  repeat(go_big_quiet_step (first|exact cT _ _|exact cP _ _|exact cN _ _))
  refine Bm fun wq bq=>?_
  clear cT cP cN t0 t2 y0 x1 cb;have S3:=AA (S2.out.below bq);obtain⟨W3,rfl⟩:∃W3:World,W3=wq:=⟨_,rfl⟩
  clear bq S2;have dG:=AD W3 (.cells #[.int .i64 f] 3);have O4:=AA (LD W3 (f:Int));have S4:=AA (S3.out.below dG);have ez:=AA dG;clear dG;obtain⟨y0,_,_,_,_,_,_⟩:=S4.out.ys;obtain⟨x0,x1,_,_⟩:=S4.out.xs;obtain⟨cb,_,_⟩:=S4.out.zU (f:=f) (by rw[HK.out.len];exact ba);have CT:=AA (fun W=>IT (zU k.Os f).k W);go_wp2_with fail;refine(CT.out _).mono ?_;rintro r w9 ⟨rfl,rfl⟩;generalize W3.alloc _=W4 at*;go_upto_if 83 with fail;go_cut [10] (fun eD wx=>∃ts b3,AG b3 wx eD (Ay ts)/\(∀g,g∈ts↔g∈DJ k c1)/\(∀g,g∈ts->g<12)/\CS lo g w.heap.size ⟨k1,(en:Int),(an:Int),(bn:Int),c1,nm⟩ w wx (.slice (some ⟨gm,0,none⟩) 12 a3) (.slice (some ⟨gi,0,none⟩) 12 br) (.slice (some ⟨ge,0,none⟩) 3 bZ) c k)
  case first=>
   cases dn:Bb (zU k.Os f).k
   .go_wp2_with fail
    go_meet
    case rel=>exact⟨[f],_,O4.out,by rw[HN.out,dn];exact fun _=>Iff.rfl,by intro g hg;rw[xi] at hg;omega,S4.out⟩
   .have RM:=S4.out.yK.2.2.rd.1
    have CN:=Rg _ (.slice (some ⟨W3.heap.size,0,none⟩) 1 1) k.mem [f] W4 RM (Aw HK.out).1 (AG.rd O4.out) (by simpa using ba) (by simp);have cL:=Kp (Aw HK.out).1 (ns:=[f]) (by simpa using ba);go_wp2_with fail;refine CN.mono ?_;rintro r w5 ⟨v5,t5,rfl,P5,m5,l5,cH⟩;have O5:=AA (show w5.ownsRow W3.heap.size 3 1 (.slice (some ⟨W3.heap.size,0,none⟩) 1 1) 1 ((Ay [f]).map (yf .i64)) from O4.out.below cH);have R5:=AA (show Rd w5 v5 1 t5.length ((Ay t5).map (yf .i64)) by have:=AG.rd P5;unfold Ax at this;rwa [Cc] at this);have eT:W3.heap.size<=w5.heap.size:=yD (by have:=(yr O4.out _ rfl);omega) cH.size;have cd:=AA (S4.out.below cH);have fq:=AA (ez.out.trans (cH.mono ez.out.size));have h5:t5.length<=4:=by simp at cL;omega
    have Hm:=AA (show ∀g,g∈[f]++t5↔g∈DJ k c1 by intro g;rw[HN.out,dn,if_pos rfl,wu,xi,List.mem_cons,m5];simp[Gs])
    have Ht:=AA (show ∀g,g∈[f]++t5->g<12 by
     intro g hg;rw[wu,xi] at hg
     rcases hg with rfl|hg
     .exact ba
     .obtain⟨_,_,hg⟩:=Kq.1 ((m5 g).1 hg)
      exact FD hg)
    clear dn O4 S4 x0 x1 y0 cb CT RM P5 m5 l5 cH cL CN;go_wp2_with (at_builtin;go_must (refine Eg (lo:=W3.heap.size) (v:= .slice (some ⟨W3.heap.size,0,none⟩) 1 1) (n:=1) (xs:=(Ay [f]).map (yf .i64)) (m:=t5.length) (news:=(Ay t5).map (yf .i64)) rfl rfl 3 (.int .i64 0) 1 8 underlying29 Tryz.zK rfl (by decide) rfl O5.out rfl R5.out LB (by unfold maxLen;omega) (by omega) (by omega) ?_;intro fw W5 cX b8 cW;have y0:=(Fx (o:=0) b8 cd.out.lts.1 (Dd O5.out cd.out.yM (by decide))).trans cd.out.ys.1;have x2:=(Fx (o:=2) b8 cd.out.lts.2.1 (Dd O5.out cd.out.yK.1 (by decide))).trans cd.out.xs.2.2.1));go_meet
    case rel=>exact⟨[f]++t5,_,MU (a:=[f]) (b:=t5) cX,Hm.out,Ht.out,S3.out.below (fq.out.trans cW)⟩
  case' rest=>
  obtain⟨ts,b3,dU,d9,dX,dO⟩:=hcut;have cR:=AA dU;have Hm:=AA d9;have Ht:=AA dX;have S5:=AA dO;obtain⟨W5,rfl⟩:∃W5:World,W5=wc:=⟨_,rfl⟩
  clear dU d9 dX dO O4 S4 x0 x1 y0 cb CT
 all_goals
  obtain⟨y0,_,_,_,_,_,_⟩:=S5.out.ys;obtain⟨_,_,x2,_⟩:=S5.out.xs;go_wp2_with fail;clear y0 x2;go_loopw [11,99] (fun eC dc wr=>∃j:Nat,j<=3/\dc= .int .i64 j/\AG W5.heap.size wr eC (Ay (EB k an j))/\Below W5.heap.size W5 wr/\∀e,e∈EB k an j->BC k.Os (DJ k c1) (AJ k.zZ e).zV=true) (fun _ dc _=>3 - (intOf dc).toNat)
  case atStart=>exact⟨0,yh _,rfl,xj _ _ _ _,Below.refl _ _,fun e he=>by cases he⟩
  case round=>
   obtain⟨j,hj,rfl,hO,bX,cJ⟩:=hrel;have bf:=AA cJ;clear cJ;have eU:=LQ (k:=k) (a:=an) (j:=j);have S6:=AA (S5.out.below bX);have HO:=AA hO;have ai:=AA bX;obtain⟨bl,bk,rfl,_,_,_⟩:=hO.rd.open;rw[Cc] at HO ⊢;clear hO bX
   by_cases bh:j<3
   .obtain⟨ua,uc,dN,dM,R5⟩:=S5.out.env (j:=j) (by rw[HK.out.zP];exact bh)
    have D0:=(ai.out.cell (yC _ _ dN)).trans dN;have D1:=(ai.out.cell (yC _ _ dM)).trans dM;have R:=BJ.below R5 ai.out;have fm:=AA R5;clear dN dM R5;have cG:=AD wr (.cells #[.slice ua (AJ k.zZ j).zV.length uc, .int .i64 (AJ k.zZ j).root] 62);have NE:=heap_alloc_new wr (.cells #[.slice ua (AJ k.zZ j).zV.length uc, .int .i64 (AJ k.zZ j).root] 62);have S7:=AA (S6.out.below cG);have eS:(j:Int)<3:=by omega
    obtain⟨y0,_,_,_,_,_,_⟩:=S7.out.ys;obtain⟨x0,x1,_,_⟩:=S7.out.xs;obtain⟨dt,dy,_,_⟩:=S7.out.lts;have ds:=zC HK.out bh;have RM:=Bc.below S6.out.yK.2.2.rd.1 cG;have eo:BU _ _ k.Os:=S7.out.yK.2.2.2.1.rd;have R7:=BJ.below R cG;have ew:=AA NE;have d3:=AY NE;have n0:=yi _ _ 0 _ _ _ NE;have n1:=yi _ _ 1 _ _ _ NE;have fj:=AA cG;clear cG NE R;go_wp2_with fail;clear D0 D1;generalize wr.alloc _=W7 at*;obtain⟨qe,hqe⟩:∃q,q=wr.heap.size:=⟨_,rfl⟩
    rw[<-hqe] at ew d3 n0 n1 ⊢;have CX:=AA (fun W (hW:Below W7.heap.size W7 W)=>TI _ k.mem (AJ k.zZ j).root W (RM.below hW) (Aw HK.out).1 ds);have cM:=fj.out;obtain⟨bu,hbu⟩:∃b,(BY k.mem (AJ k.zZ j).root).contains an=b:=⟨_,rfl⟩
    have c9:=AA hbu;clear hbu hqe;refine BS 10 188 [.p w.heap.size 0, .p g 0, .p g 0, .p g 0, .s gm 12 a3, .p qe 1, .i ((AJ k.zZ j).root), .z, .i ((an:Int)), .b bu] (fun ix vv ww=>match ix with
     |7=>GQ wr.heap.size k.mem (AJ k.zZ j).root ww vv
     |_=>True) ?_ ?_ ?_
    .intro i hi o ho a wx Hb Hd hG K HK
     have dj:=bc hG dt y0;have di:=bc hG dy x0;have dW:=bc hG d3 n1
     match i,hi with
     |0,_|2,_|3,_|5,_|8,_=>exact sP ho HK Hb Hd
     |1,_=>exact sL ho HK Hb Hd (hl:=UW ‹_›)
     |4,_=>exact sL ho HK Hb Hd (hl:=GM ‹_›)
     |6,_=>exact sL ho HK Hb Hd (hl:=Fo ‹_›)
     |7,_=>exact sC ho HK Hb Hd (CX.out _ hG) (by rintro e w_ ⟨v',db,rfl,hO,bD,_,cI⟩;exact⟨_,rfl,⟨db,BR hO (yD cM.size hG.size),bD⟩,cI⟩)
     |9,_=>clear dj di dW;obtain rfl:=yH ho;have d7:GQ wr.heap.size k.mem (AJ k.zZ j).root wx (a.tmps[111]?.getD undef):=BT Hd 7;have d8:(a.tmps[112]?.getD undef)= .int .i64 an:=BT Hd 8;clear Hd Hb;generalize e111:a.tmps[111]?.getD undef=v2 at d7;obtain⟨db,hO,bD⟩:=d7;have CC:=BM (ND v2 db (an:Int) wx (AG.rd hO));rw[QW bD,c9.out] at CC;refine yG ?_;go_simp;refine CC.mono ?_;rintro e w_ ⟨rfl,cI⟩;exact HK.out _ _ rfl cI
    .intro i hi vv wz eB dB hz
     match i,hi with
     |7,_=>exact(GQ.below hz dB)
     |0,_|1,_|2,_|3,_|4,_|5,_|6,_|8,_|9,_=>exact hz
    .intro vs wx hR hG
     have q9:(vs 9)= .bool bu:=BZ hR 9;clear hR;simp only[Al,AV,yE,yB,yA,yy,q9];simp;clear q9;have ca:=cM.trans (hG.mono cM.size);cases bu
     .have HU:=AA (WK c9.out)
      have cS:=AA (HO.out.below ca);have c8:=AA (ai.out.trans (ca.mono ai.out.size));clear hG ca y0 x0 x1 n0 n1 cM RM eo R7;go_wp2_with fail;go_roundw
      case rel=>exact⟨j+1,by omega,by go_num,by rw[HU.out];exact cS.out,c8.out,by rw[HU.out];exact bf.out⟩
      case measure=>simp[intOf];omega
     .have HU:=AA (Ut c9.out)
      have cy:j∈FY k an:=by rw[<-IZ];exact wX.2 ⟨yj.2 bh,c9.out⟩
      have cS:=HO.out.below ca;have c8:=AA (ai.out.trans (ca.mono ai.out.size));have b1:=AD wx (.cells #[.int .i64 j] 3);have O1:=AA (show(wx.alloc (.cells #[.int .i64 j] 3)).ownsRow W5.heap.size 3 1 (.slice bl (EB k an j).length bk) (EB k an j).length ((Ay (EB k an j)).map (yf .i64)) by have:=cS.below b1;unfold AG at this;rwa [Cc] at this);have L1:=AA (show Rd (wx.alloc (.cells #[.int .i64 j] 3)) (.slice (some ⟨wx.heap.size,0,none⟩) 1 1) 1 1 ((Ay [j]).map (yf .i64)) from AG.rd (LD wx (j:Int)));have s5:=c8.out.size;have eP:=AA (show ∀b,(xB bl (EB k an j).length bk).ownBlock=some b->W5.heap.size<=b from fun b hb=>(yr HO.out b hb).1);have S8:=AA ((S7.out.below hG).below b1);have b6:=AA (AC (AC ew.out hG) b1);have Rx:=AA (BJ.below (BJ.below R7 hG) b1);have fE:=AA cS;have fp:=AA (c8.out.trans (b1.mono s5));clear hG ca y0 x0 x1 n0 n1 cM RM eo R7 cS b1;go_wp2_with (at_builtin;go_must (refine Eg (lo:=W5.heap.size) (v:= .slice bl (EB k an j).length bk) (n:=(EB k an j).length) (xs:=(Ay (EB k an j)).map (yf .i64)) (m:=1) (news:=(Ay [j]).map (yf .i64)) rfl rfl 3 (.int .i64 0) 1 8 underlying29 Tryz.zK rfl (by decide) rfl O1.out rfl L1.out LB (by unfold maxLen;omega) (by omega) (by simp;omega) ?_;intro fv W9 cX b8 cW;have y0:=(Fx (o:=0) b8 S8.out.lts.1 (Dd O1.out S8.out.yM (by decide))).trans S8.out.ys.1;have n0:=(Fx (o:=0) b8 (AY b6.out) (Dd O1.out b6.out (by decide))).trans (yi _ _ 0 _ _ _ b6.out)));have cf:=AA (fp.out.trans cW);have S9:=AA (S5.out.below cf.out);have O9:=AA (MU (a:=EB k an j) (b:=[j]) cX);have cV:=Kr g _ _ _ (AJ k.zZ j).zV ts k.Os W9 S9.out.xs.2.1 (BJ.below fm.out cf.out) (BJ.below S5.out.yK.2.2.2.1.rd cf.out) (Ax.below (AG.rd cR.out) cf.out) (fun g hg=>by rw[HK.out.len];exact Ht.out g hg);rw[Fq Hm.out] at cV;clear y0 n0 cX b8 cW O1 L1;cases ab:BC k.Os (DJ k c1) (AJ k.zZ j).zV
      .have ep:=AA ab
       have E:=AA (show Gt k ⟨k1,(en:Int),(an:Int),(bn:Int),c1,nm⟩=(k,0,1) by rw[bA.out,if_pos (List.all_eq_false.2 ⟨j,cy,by rw[ab];decide⟩)]);rw[ab] at cV;clear ab;refine cV.mono ?_;rintro r da ⟨rfl,bb⟩;go_wp2_with fail;go_ret;exact Gf.bad E.out (by decide) (S9.out.below bb).bel
      .have ep:=AA ab
       rw[ab] at cV;clear ab;refine cV.mono ?_;rintro r da ⟨rfl,bb⟩;have fh:=AA (O9.out.below bb);have ft:=AA (cf.out.trans (bb.mono cf.out.size));clear bb;go_wp2_with fail;go_roundw
       case rel=>exact⟨j+1,by omega,by go_num,by rw[HU.out];exact fh.out,ft.out,fun e he=>by
        rw[HU.out,wu,xi] at he
        rcases he with he|rfl
        .exact bf.out e he
        .exact ep.out⟩
       case measure=>simp[intOf];omega
   .obtain rfl:j=3:=by omega
    rw[IZ] at HO bf ⊢;obtain⟨us,hus⟩:∃us,us=FY k an:=⟨_,rfl⟩
    have eM:us.length<=3:=by rw[hus,<-IZ];exact LQ
    rw[<-hus] at HO bf ⊢;have ce:=AA (show Gt k ⟨k1,(en:Int),(an:Int),(bn:Int),c1,nm⟩=_ by rw[bA.out,if_neg (by rw[Bool.not_eq_false,List.all_eq_true,<-hus];exact bf.out)]);rw[<-hus] at ce;clear hus eU;obtain⟨W6,rfl⟩:∃W6:World,W6=wr:=⟨_,rfl⟩
    go_wp2_with fail
    first
    |have CM:=Tl (w1:=W6) (fun W hW=>Yn (S6.out.below hW).yK ⟨k1,(en:Int),(an:Int),(bn:Int),c1,nm⟩ (zU k.Os f).g (by simp) (by rw[HK.out.zP];simp only;omega))
     simp only[Ab.on,Ab.onCells] at CM;obtain⟨y0,y1,y2,y3,y4,y5,y6⟩:=S6.out.ys;replace y0:=yb y0;replace y1:=yb y1;replace y2:=yb y2;replace y3:=yb y3;replace y4:=yb y4;replace y5:=yb y5;replace y6:=yb y6;have x1:=yb S6.out.xs.2.1;have dg:=yb (S6.out.zU (f:=f) (by rw[HK.out.len];exact ba)).2.1;cases bC:FV k (en:Int) (zU k.Os f).g
     .have ex:=AA bC
      have E:=AA (show Gt k ⟨k1,(en:Int),(an:Int),(bn:Int),c1,nm⟩=(k,0,1) by rw[ce.out,if_pos ⟨b5.out,by rw[HF.out];exact bC⟩]);rw[bC] at CM;clear bC;refine Bn ?_
      repeat(go_big_quiet_step (exact CM _ _))
      refine Bm fun wq bq=>?_
      clear y0 y1 y2 y3 y4 y5 y6 x1 dg;go_wp2_with fail;go_ret;exact Gf.bad E.out (by decide) (S6.out.below bq).bel
     have ex:=AA bC;rw[bC] at CM;clear bC;have eq:=AA (show Gt k ⟨k1,(en:Int),(an:Int),(bn:Int),c1,nm⟩=_ by rw[ce.out,if_neg (by rintro⟨_,x⟩;rw[HF.out,ex.out] at x;cases x)]);refine Bn ?_
     repeat(go_big_quiet_step (exact CM _ _))
     refine Bm fun wq bq=>?_
     clear y0 y1 y2 y3 y4 y5 y6 x1 dg CM
    |have eq:=AA (show Gt k ⟨k1,(en:Int),(an:Int),(bn:Int),c1,nm⟩=_ by rw[ce.out,if_neg (by rintro⟨x,_⟩;rw[b5.out] at x;cases x)])
     refine Bn ?_
     repeat(go_big_quiet_step (fail))
     refine Bm fun wq bq=>?_
    have S7:=AA (S6.out.below bq);obtain⟨W7,rfl⟩:∃W7:World,W7=wq:=⟨_,rfl⟩
    have ev:=AA (HO.out.below bq);have fA:=yD ai.out.size bq.size;obtain⟨y0,y1,y2,y3,y4,y5,y6⟩:=S7.out.ys;obtain⟨x0,_,_,_⟩:=S7.out.xs;obtain⟨gw,cQ,Dw,eY,fc,Dj,bY,⟨⟨dh,df⟩,de,dd⟩,_,hT,SW⟩:=S7.out.mrow (Aw HK.out).1 (f:=an) av;have Dv:=Dj bn bz;have fz:=bY bn;have S8:=AA (SW bn c1 bz);have dC:(bn:Int)<4:=by omega
    have eO:=AA (HK.out.word (f:=an) (i:=bn) av bz);have eX:gw<W5.heap.size:=by obtain⟨ek,cO,b7,dx,_⟩:=S5.out.mrow (Aw HK.out).1 (f:=an) av;have:=((ai.out.trans (bq.mono ai.out.size)).cell (yC _ _ b7)).trans b7;rw[Dw] at this;simp at this;rw[this.1];exact dx
    have eu:=AA (show AG W5.heap.size (W7.setCell ⟨gw,bn,none⟩ (.int .i64 c1)) (.slice bl us.length bk) (Ay us) from Au ev.out (Aq _ _ _ _) (by
     rcases hv:(xB bl us.length bk).ownBlock with _|b
     .exact .inl rfl
     .refine .inr fun e=>?_
      cases e;have:=(yr ev.out gw hv).1;omega))
    clear bq Dj bY SW hT;go_wp2_with fail;clear y0 y1 y2 y3 y4 y5 y6 x0 Dw Dv fz;generalize W7.setCell _ _=W8 at*;have CR:=S8.out.refer (As k.mem an bn) (-1) (by have:=eO.out.2;omega) HK.out.len (.inr rfl) ((MK (Aw HK.out).2.1).mono (by decide));simp only[Ab.on,Ab.onCells] at CR;refine CR.mono ?_;rintro r w9 ⟨rfl,S9,eh⟩;have S9:=AA S9;have eZ:=S5.out.zo;have er:=AA (show AG W5.heap.size w9 (.slice bl us.length bk) (Ay us) from Au eu.out eh (by
     rcases hv:(xB bl us.length bk).ownBlock with _|b
     .exact .inl rfl
     .refine .inr fun e=>?_
      cases e;have:=(yr eu.out gi hv).1;omega))
    clear eh CR;obtain⟨y0,y1,y2,y3,y4,y5,y6⟩:=S9.out.ys;go_wp2_with fail;clear y0 y1 y2 y3 y4 y5 y6;have CR:=S9.out.refer c1 1 bj (by simp only[Cd];exact HK.out.len) (.inl rfl) (JI.mono (JI.refer (MK (Aw HK.out).2.1) HK.out.len (.inr rfl)) (by decide));simp only[Ab.on,Ab.onCells] at CR;refine CR.mono ?_;rintro r da ⟨rfl,dH,cB⟩;have dH:=AA dH;have dJ:=AA (show AG W5.heap.size da (.slice bl us.length bk) (Ay us) from Au er.out cB (by
     rcases hv:(xB bl us.length bk).ownBlock with _|b
     .exact .inl rfl
     .refine .inr fun e=>?_
      cases e;have:=(yr er.out gi hv).1;omega))
    have e6:=S5.out.lts.2.1;clear cB CR;go_wp2_with fail;go_loopw [172] (fun bB wr=>∃j:Nat,j<=us.length/\bB= .int .i64 j/\AG W5.heap.size wr (.slice bl us.length bk) (Ay us)/\∃c',CS lo g w.heap.size ⟨k1,(en:Int),(an:Int),(bn:Int),c1,nm⟩ w wr (.slice (some ⟨gm,0,none⟩) 12 a3) (.slice (some ⟨gi,0,none⟩) 12 br) (.slice (some ⟨ge,0,none⟩) 3 bZ) c' {k with mem:=CZ k.mem an bn c1,Os:=A3 (A3 k.Os (As k.mem an bn) (-1)) c1 1,zY:=GZ (us.take j) k.zY}) (fun bB _=>us.length - (intOf bB).toNat)
    case atStart=>exact⟨0,yh _,rfl,dJ.out,c,dH.out⟩
    case round=>
     obtain⟨j,hj,rfl,hO,c',hS⟩:=hrel;have HOr:=AA hO;have S:=AA hS;clear hS
     by_cases bh:j<us.length
     .obtain⟨ax,cx,dm,_,_,H0⟩:=hO.rd.open
      rw[Cc] at dm;simp only[Value.slice.injEq] at dm;obtain⟨rfl,_,rfl⟩:=dm;obtain⟨bx,eE,rfl,DX⟩:=H0.at (k:=j) (by rw[Cc];exact bh);rw[Pb bh] at DX;obtain⟨un,hun⟩:∃u,u=us.getD j 0:=⟨_,rfl⟩
      rw[<-hun] at DX;have fl:=AA hun;obtain⟨cc,hcc'⟩:∃cc,cc=GZ (us.take j) k.zY:=⟨_,rfl⟩
      have ey:=AA hcc';clear hun;have fB:(j:Int)<us.length:=by omega
      obtain⟨y0,_,_,_,_,_,_⟩:=S.out.ys;obtain⟨_,_,_,x3⟩:=S.out.xs;obtain⟨dt,dy,eG,eH⟩:=S.out.lts;have RC:Dt wr c' cc:=by rw[hcc'];exact S.out.yK.2.2.2.2.2.rd
      clear hcc';have CD:=AA (fun W (hW:Below wr.heap.size wr W)=>QP c' cc (un:Int) W (BJ.below RC hW) (by rw[ey.out];exact Q8 _ (Aw HK.out).2.2));clear RC H0 hO;go_wp2_with fail;clear DX;refine BS 11 188 [.p w.heap.size 0, .p g 0, .p w.heap.size 0, .p g 0, .p g 0, .p g 3, .v c', .i ((un:Int)), .z, .p g 0, .p g 3] (fun ix vv ww=>match ix with
       |8=>AP wr.heap.size 98 4 Ae ww vv (Fu cc (un:Int))
       |_=>True) ?_ ?_ ?_
      .intro i hi o ho a wx Hb Hd hG K HK
       have dj:=bc hG dt y0;have di:=bc hG dy x3
       match i,hi with
       |0,_|2,_|4,_|5,_|7,_|9,_|10,_=>exact sP ho HK Hb Hd
       |1,_|3,_=>exact sL ho HK Hb Hd (hl:=UW ‹_›)
       |6,_=>exact sL ho HK Hb Hd (hl:=Zc ‹_›)
       |8,_=>exact sC ho HK Hb Hd (CD.out _ hG) (by rintro e w_ ⟨v',rfl,hO,cI⟩;exact⟨_,rfl,(hO.lower hG.size),cI⟩)
      .intro i hi vv wz eB dB hz
       match i,hi with
       |8,_=>exact(AP.below hz dB)
       |0,_|1,_|2,_|3,_|4,_|5,_|6,_|7,_|9,_|10,_=>exact hz
      .intro vs wx hR hG
       have q1:(vs 1)= .pointer (some ⟨g,0,none⟩):=BZ hR 1;have q8:AP wr.heap.size 98 4 Ae wx (vs 8) (Fu cc (un:Int)):=BZ hR 8;have q9:(vs 9)= .pointer (some ⟨g,0,none⟩):=BZ hR 9;have dS:(vs 10)= .pointer (some ⟨g,3,none⟩):=BZ hR 10;clear hR;simp only[Al,AV,yE,yB,yA,yy,q1,q9,dS];simp;generalize vs 8=z8 at q8 ⊢;clear q1 q9 dS;rw[ey.out,fl.out,<-Nr bh] at q8;have S8:=AA (S.out.zY hG q8);have fn:=AA (Nd (j:=3) (u:=z8) (AG.below HOr.out hG) e6);have fG:=AK (S.out.below hG).yK.1;have fu:=(S.out.below hG).xs.2.2.2;obtain⟨_,_,rfl,_,_⟩:=q8.rd.shape;clear q8 hG y0 x3;go_wp2_with fail;go_roundw
       case rel=>exact⟨j+1,by omega,by go_num,fn.out,_,S8.out⟩
       case measure=>simp[intOf];omega
     .obtain rfl:j=us.length:=by omega
      rw[List.take_length] at S;have HE:=AA (show Gt k ⟨k1,(en:Int),(an:Int),(bn:Int),c1,nm⟩=({k with mem:=CZ k.mem an bn c1,Os:=A3 (A3 k.Os (As k.mem an bn) (-1)) c1 1,zY:=GZ us k.zY},0,0) from eq.out);go_wp2_with fail;go_ret;exact⟨by rw[HE.out]<;>rfl,fun _=>⟨_,_,_,_,by rw[HE.out];exact S.out.yK⟩,S.out.bel⟩
def GL (k:AN) (c:Ab):L8:=
 if c.k=2 then Jw k c
 else if c.k=3 then J2 k c
 else if c.k=4 then EA k (Gz k.mem k.Os c.a.toNat c.b (AJ k.zZ c.e.toNat).zV)
 else if c.k=5 then EA k (Di k.mem k.Os c.a.toNat)
 else Gt k c
theorem VQ {m i e c:Value} {k:AN} (h:Ic lo w g m i e c k) (bw:lo<=w.heap.size) (hK:DI k) (call:Ab) (he:0<=call.e) (hn:call.e<3) (hk:call.k=2∨call.k=3∨call.k=6) (ha:0<=call.a/\call.a<12) (bj:call.c<=9223372036854775807):
 Calls prog 187 #[call.on g] w (Gf lo g w (GL k call)):=by
 have S0:=EL.start h bw call;have P:GL k call=if call.k=2 then Jw k call else if call.k=3 then J2 k call else if call.k=4 then EA k (Gz k.mem k.Os call.a.toNat call.b (AJ k.zZ call.e.toNat).zV) else if call.k=5 then EA k (Di k.mem k.Os call.a.toNat) else Gt k call:=rfl
 have cU:=fun(W:World) (hW:Below (w.alloc (.cells (call.onCells g) 162)).heap.size (w.alloc (.cells (call.onCells g) 162)) W)=>Y6 (S0.below hW).yK (S0.below hW).lo hK call he hn ha bj
 obtain⟨k1,e1,a1,b1,c1,nm⟩:=call;obtain⟨en,rfl⟩:∃n:Nat,e1=(n:Int):=⟨e1.toNat,by simp only at he;omega⟩
 obtain⟨an,rfl⟩:∃n:Nat,a1=(n:Int):=⟨a1.toNat,by simp only at ha;omega⟩
 have c6:en<3:=by simp only at hn;omega
 have av:an<12:=by simp only at ha;omega
 simp only[Ab.on,Ab.onCells] at S0 P hk cU ⊢;simp only[xY] at P;obtain⟨ge,bZ,e9,_,⟨⟨cr,cq⟩,cp,co⟩,_⟩:=S0.zZ (by rw[hK.zP];omega);rw[hK.zP] at e9;obtain⟨gi,br,e8,_,_,⟨⟨cn,cm⟩,cl,ck⟩,_⟩:=S0.Os (by rw[hK.len];omega);rw[hK.len] at e8;obtain⟨gm,a3,e7,_,⟨cj,ci⟩,ch,cg⟩:=S0.mems (Aw hK).1;subst e7 e8 e9;obtain⟨y0,y1,y2,y3,y4,y5,y6⟩:=S0.ys;obtain⟨x0,x1,x2,x3⟩:=S0.xs;obtain⟨d0,d1,d2⟩:=S0.zU (f:=an) (by rw[hK.len];exact av);have fe:(an:Int)<12:=by omega
 obtain⟨c4,cA,eG,eH⟩:=S0.lts;have HK:=AA hK;have HS:=AA S0;clear hK h S0 bw he hn
 rcases hk with rfl|rfl|rfl
 .have HP:=AA (show GL k ⟨2,(en:Int),(an:Int),b1,c1,nm⟩=Jw k ⟨2,(en:Int),(an:Int),b1,c1,nm⟩ from P)
  have HG:=AA (show Jw k ⟨2,(en:Int),(an:Int),b1,c1,nm⟩=if(zU k.Os an).k≠1 then(k,0,3) else if(zU k.Os an).r≠0 then(k,0,2) else({k with Os:=k.Os.set an AU.zero},0,0) from rfl);clear P cU
  by_cases h1:(zU k.Os an).k=1
  .have t1:((zU k.Os an).k==1)=true:=by simp[h1]
   by_cases h2:(zU k.Os an).r=0
   .have E:=AA (show GL k ⟨2,(en:Int),(an:Int),b1,c1,nm⟩=({k with Os:=k.Os.set an AU.zero},0,0) by rw[HP.out,HG.out,if_neg (by simp[h1]),if_neg (by simp[h2])])
    have H1:=AA h1;have H2:=AA h2;clear h1 h2;go_in;go_wp2_with fail;generalize w.alloc _=W0 at*;have CG:=AA (QT _ k.Os an W0 HS.out.yK.2.2.2.1.rd (Aw HK.out).2.1 av H1.out H2.out);refine CG.out.mono ?_;rintro r w1 ⟨v',rfl,hO,hb⟩;have S2:=AA (HS.out.zp hb hO);have fz:=AK (HS.out.below hb).yK.1;have x1:=(HS.out.below hb).xs.2.1;have y0:=(HS.out.below hb).ys.1;obtain⟨_,_,rfl,_,_⟩:=hO.rd.shape;rw[xV] at S2;clear hO hb;go_wp2_with fail;go_ret;exact⟨by rw[E.out]<;>rfl,fun _=>⟨_,_,_,_,by rw[E.out];exact S2.out.yK⟩,S2.out.bel⟩
   .have E:=AA (show GL k ⟨2,(en:Int),(an:Int),b1,c1,nm⟩=(k,0,2) by rw[HP.out,HG.out,if_neg (by simp[h1]),if_pos h2])
    have H1:=AA h1;have H2:=AA h2;clear h1 h2;go_in;go_wp2_with fail;generalize w.alloc _=W0 at*;have CG:=AA (SN _ k.Os an W0 HS.out.yK.2.2.2.1.rd (Aw HK.out).2.1 av H1.out H2.out);refine CG.out.mono ?_;rintro r w1 ⟨rfl,hb⟩;have S2:=AA (HS.out.below hb);go_wp2_with fail;go_ret;exact Gf.bad E.out (by decide) S2.out.bel
  .have t1:((zU k.Os an).k==1)=false:=by simp[h1]
   have E:=AA (show GL k ⟨2,(en:Int),(an:Int),b1,c1,nm⟩=(k,0,3) by rw[HP.out,HG.out,if_pos h1]);clear h1;go_in;go_wp2_with fail;go_ret;exact Gf.bad E.out (by decide) HS.out.bel
 .have HP:=AA (show GL k ⟨3,(en:Int),(an:Int),b1,c1,nm⟩=J2 k ⟨3,(en:Int),(an:Int),b1,c1,nm⟩ from P)
  have HG:=AA (show J2 k ⟨3,(en:Int),(an:Int),b1,c1,nm⟩=if(zU k.Os an).k≠1∨Bd b1 0 3=false∨Dy c1=false then(k,0,3) else({k with mem:=CZ k.mem an b1.toNat c1},0,0) from rfl);clear P cU;have C0:=AA (fun W=>BM (Nt b1 W));have C1:=AA (fun W=>BM (PL c1 W))
  by_cases h1:(zU k.Os an).k=1
  .have t1:((zU k.Os an).k==1)=true:=by simp[h1]
   have H1:=AA h1;clear h1;go_in;go_wp2_with fail;generalize w.alloc _=W0 at*;cases h2:Bd b1 0 3
   .have E:=AA (show GL k ⟨3,(en:Int),(an:Int),b1,c1,nm⟩=(k,0,3) by rw[HP.out,HG.out,if_pos (.inr (.inl h2))])
    have T:=AA h2;clear h2;refine(C0.out _).mono ?_;rintro r w1 ⟨rfl,hb⟩;rw[T.out];have S2:=AA (HS.out.below hb);clear y0 y1 y2 y3 y4 y5 y6 x0 x1 x2 x3 d0 d1 d2;go_wp2_with fail;go_ret;exact Gf.bad E.out (by decide) S2.out.bel
   .have T:=AA h2
    have fd:=Ac.1 h2;obtain⟨bn,rfl⟩:∃n:Nat,b1=(n:Int):=⟨b1.toNat,by omega⟩
    have bz:bn<4:=by omega
    clear h2 fd;refine(C0.out _).mono ?_;rintro r W1 ⟨rfl,hb⟩;rw[T.out];have S1:=AA (HS.out.below hb);clear y0 y1 y2 y3 y4 y5 y6 x0 x1 x2 x3 d0 d1 d2 hb;obtain⟨y0,y1,y2,y3,y4,y5,y6⟩:=S1.out.ys;go_wp2_with fail;cases h3:Bd c1 0 9999
    .have E:=AA (show GL k ⟨3,(en:Int),(an:Int),(bn:Int),c1,nm⟩=(k,0,3) by rw[HP.out,HG.out,if_pos (.inr (.inr h3))])
     have T3:=AA h3;clear h3;refine(C1.out _).mono ?_;rintro r w1 ⟨rfl,hb⟩;rw[T3.out];have S2:=AA (S1.out.below hb);clear y0 y1 y2 y3 y4 y5 y6;go_wp2_with fail;go_ret;exact Gf.bad E.out (by decide) S2.out.bel
    .have T3:=AA h3
     have E:=AA (show GL k ⟨3,(en:Int),(an:Int),(bn:Int),c1,nm⟩=({k with mem:=CZ k.mem an bn c1},0,0) by rw[HP.out,HG.out,if_neg (by rintro(x|x|x);(· exact x H1.out);(· rw[T.out] at x;cases x);(· rw[show Dy c1=true from h3] at x;cases x)),xY]);clear h3;refine(C1.out _).mono ?_;rintro r W2 ⟨rfl,hb⟩;rw[T3.out];have S2:=AA (S1.out.below hb);clear y0 y1 y2 y3 y4 y5 y6 hb;obtain⟨y0,_,_,_,y4,y5,_⟩:=S2.out.ys;obtain⟨x0,_,_,_⟩:=S2.out.xs;obtain⟨c4,cA,_,_⟩:=S2.out.lts;obtain⟨gw,cQ,Dw,eY,fc,Dj,bY,⟨⟨dh,df⟩,de,dd⟩,_,_,_⟩:=S2.out.mrow (Aw HK.out).1 (f:=an) av;have cz:=yC _ _ Dw;have dC:(bn:Int)<4:=by omega
     clear Dj bY;go_wp2_with fail;refine Aa 15 139 [.p w.heap.size 0, .p g 0, .p g 0, .p g 0, .s gm 12 a3, .i ((an:Int)), .p gm an, .s gw 4 cQ, .p w.heap.size 1, .p w.heap.size 4, .i ((bn:Int)), .p w.heap.size 1, .p w.heap.size 5, .i c1, .p gw bn] (fun _ _ _=>True) ?_ ?_
     .intro i hi o ho a wx Hb Hd hG K HK
      have dj:=bc hG c4 y0;have di:=bc hG cA x0;have dW:=bc hG cz Dw;have fy:=bc hG c4 y4;have fx:=bc hG c4 y5
      match i,hi with
      |0,_|2,_|3,_|5,_|8,_|9,_|11,_|12,_=>exact sP ho HK Hb Hd
      |1,_=>exact sL ho HK Hb Hd (hl:=UW ‹_›)
      |4,_=>exact sL ho HK Hb Hd (hl:=GM ‹_›)
      |6,_|14,_=>exact sI ho HK Hb Hd (hr:=by clear Hd Hb HK;go_simp)
      |7,_=>exact sL ho HK Hb Hd (hl:=Jx ‹_›)
      |10,_|13,_=>exact sL ho HK Hb Hd (hl:=Fo ‹_›)
      |_+15,hq=>omega
     .intro vs wx hR hG
      have dQ:(vs 13)= .int .i64 c1:=BZ hR 13;have dP:(vs 14)= .pointer (some ⟨gw,bn,none⟩):=BZ hR 14;clear hR;simp only[Al,AV,yE,yB,yA,yy,dQ,dP];simp;clear dQ dP;have S3:=AA (S2.out.below hG);obtain⟨ek,cO,b7,_,_,Dj,bY,_,_,_,SW⟩:=S3.out.mrow (Aw HK.out).1 (f:=an) av;have bt:=(hG.cell (p:=⟨gm,an,none⟩) cz).trans Dw;rw[bt] at b7;have ef:gw=ek:=by simp at b7;exact b7.1
      subst ef;have Dv:=Dj bn bz;have fz:=bY bn;have S4:=AA (SW bn c1 bz);clear hG y0 y4 y5 x0 Dw b7 bt Dj bY SW;go_wp2_with fail;go_ret;exact⟨by rw[E.out]<;>rfl,fun _=>⟨_,_,_,_,by rw[E.out];exact S4.out.yK⟩,S4.out.bel⟩
  .have t1:((zU k.Os an).k==1)=false:=by simp[h1]
   have E:=AA (show GL k ⟨3,(en:Int),(an:Int),b1,c1,nm⟩=(k,0,3) by rw[HP.out,HG.out,if_pos (.inl h1)]);clear h1;go_in;go_wp2_with fail;go_ret;exact Gf.bad E.out (by decide) HS.out.bel
 .have HP:=AA (show GL k ⟨6,(en:Int),(an:Int),b1,c1,nm⟩=Gt k ⟨6,(en:Int),(an:Int),b1,c1,nm⟩ from P)
  have fo:=AA cU;clear P cU d1 d2
  by_cases h1:(zU k.Os an).k=1
  all_goals
   first
   |have t1:((zU k.Os an).k==1)=true:=by simp[h1]
   |have t1:((zU k.Os an).k==1)=false:=by simp[h1]
   clear h1;go_in;go_wp2_with fail;generalize w.alloc _=W0 at*;refine(fo.out W0 (Below.refl _ _)).mono ?_;rintro r w1 ⟨rfl,fg,hb⟩;go_wp2_with fail;go_ret;exact⟨by rw[HP.out]<;>rfl,fun h=>by rw[HP.out] at h ⊢;exact fg h,(HS.out.bel).trans hb⟩
theorem Y7 {k:AN} {c:Ab}:(Gt k c).2.1=0:=by
 unfold Gt
 split
 .rfl
 .split
  .rfl
  .split<;>rfl
theorem OF {k:AN} {r:List AU×Int}:(EA k r).2.1=0:=by
 unfold EA
 split<;>rfl
theorem VR {k:AN} {c:Ab}:(GL k c).2.1=0:=by
 unfold GL
 split
 .unfold Jw
  split
  .rfl
  .split<;>rfl
 .split
  .unfold J2
   split<;>rfl
  .split
   .exact OF
   .split
    .exact OF
    .exact Y7
theorem Gf.two {res:L8} {r:Ending} (h:Gf lo g W res r w') (hv:res.2.1=0) (hb:Below lo w W):∃n,r= .returned (.int .i64 n)/\JF lo g w res (.returned (.tuple #[.int .i64 0, .int .i64 n])) w':=by obtain⟨h1,h2,h3⟩:=h;exact⟨_,h1,by rw[hv],h2,hb.trans h3⟩
theorem JF.of {res:L8} {r:Ending} (h:JF lo g W res r w') (hb:Below lo w W):∃v n,r= .returned (.tuple #[.int .i64 v, .int .i64 n])/\JF lo g w res (.returned (.tuple #[.int .i64 v, .int .i64 n])) w':=by obtain⟨h1,h2,h3⟩:=h;exact⟨_,_,h1,rfl,h2,hb.trans h3⟩
theorem RH {k:AN} {c:Ab}:Gb k c=if Bd c.a 0 11=false∨(zU k.Os c.a.toNat).k=0∨(c.k=4/\Bb c.b=false) then(k,0,3) else if FV k c.e (zU k.Os c.a.toNat).g=false then(k,0,1) else GL k c:=rfl
theorem RJ {k:AN} {c:Ab} (h:Bd c.a 0 11=false∨(zU k.Os c.a.toNat).k=0∨(c.k=4/\Bb c.b=false)):Gb k c=(k,0,3):=RH.trans (if_pos h)
theorem YP {k:AN} {c:Ab} (h1:Bd c.a 0 11=true) (h2:(zU k.Os c.a.toNat).k≠0) (h3:c.k=4->Bb c.b=true):Gb k c=if FV k c.e (zU k.Os c.a.toNat).g=false then(k,0,1) else GL k c:=
 RH.trans (if_neg (by rintro(x|x|⟨x,y⟩);(· rw[h1] at x;cases x);(· exact h2 x);(· rw[h3 x] at y;cases y)))
def Jb (c:Ab):Prop:=(c.k=2∨c.k=3∨c.k=6)∨c.k=1
theorem ZX {m i e c:Value} {k:AN} (h:Ic lo w g m i e c k) (bw:lo<=w.heap.size) (hK:DI k) (call:Ab) (he:0<=call.e) (hn:call.e<3) (d5:call.nm.size<=maxLen) (bi:Jb call) (bj:call.c<=9223372036854775807):
 Calls prog 163 #[call.on g] w (JF lo g w (Ad k call)):=by
 have S0:=EL.start h bw call;obtain⟨k1,e1,a1,b1,c1,nm⟩:=call;obtain⟨en,rfl⟩:∃n:Nat,e1=(n:Int):=⟨e1.toNat,by simp only at he;omega⟩
 have c6:en<3:=by simp only at hn;omega
 simp only[Ab.on,Ab.onCells] at S0 d5 bj ⊢;obtain⟨ge,bZ,e9,_,⟨⟨cr,cq⟩,cp,co⟩,_⟩:=S0.zZ (by rw[hK.zP];omega);rw[hK.zP] at e9;obtain⟨gi,br,e8,_,_,⟨⟨cn,cm⟩,cl,ck⟩,_⟩:=S0.Os (by rw[hK.len];omega);rw[hK.len] at e8;obtain⟨gm,a3,e7,_,⟨cj,ci⟩,ch,cg⟩:=S0.mems (Aw hK).1;subst e7 e8 e9;obtain⟨y0,y1,y2,y3,y4,y5,y6⟩:=S0.ys;obtain⟨x0,x1,x2,x3⟩:=S0.xs;have HK:=AA hK;have HS:=AA S0;clear hK h S0 bw he hn;have CY:=fun(W:World) (mm ii ee cc:Value) (h:Ic lo W g mm ii ee cc k) (an:Nat)=>Yn h ⟨k1,(en:Int),(an:Int),b1,c1,nm⟩ (zU k.Os an).g (by simp) (by rw[HK.out.zP];simp only;omega)
 simp only[Ab.on,Ab.onCells] at CY;replace CY:=AA CY;unfold Jb at bi;simp only at bi
 rcases bi with bi|bi
 .have HP:=AA (show Ad k ⟨k1,(en:Int),a1,b1,c1,nm⟩=Gb k ⟨k1,(en:Int),a1,b1,c1,nm⟩ by rcases bi with rfl|rfl|rfl<;>rfl)
  have CF:=fun(W:World) (mm ii ee cc:Value) (h:Ic lo W g mm ii ee cc k) (hl:lo<=W.heap.size) (an:Nat) (ha:an<12) (_:True)=>VQ h hl HK.out ⟨k1,(en:Int),(an:Int),b1,c1,nm⟩ (by simp) (by simp only;omega) bi (by simp only;omega) bj
  simp only[Ab.on,Ab.onCells] at CF;replace CF:=AA CF;have HF:=True.intro
  rcases bi with rfl|rfl|rfl
  all_goals
   go_in;go_wp2_with fail;generalize w.alloc _=W0 at*;have cF:=Wj (w1:=W0) (fun W=>Em a1 W);have cT:=Wj (w1:=W0) (fun W=>IT b1 W);replace y0:=yb y0;replace y1:=yb y1;replace y2:=yb y2;replace y3:=yb y3;replace y4:=yb y4;replace y5:=yb y5;replace y6:=yb y6;replace x1:=yb x1;clear x0 x2 x3;cases bp:Bd a1 0 11
   .have E:=AA (HP.out.trans (RJ (.inl bp)))
    rw[bp] at cF;have d0:=y0;have d1:=y0;refine Bn ?_
    repeat(go_big_quiet_step (first|exact cF _ _|exact cT _ _))
    refine Bm fun wq bq=>?_
    clear y0 y1 y2 y3 y4 y5 y6 x1 d0 d1;go_wp2_with fail;go_ret2;exact JF.bad E.out (by decide) (HS.out.below bq).bel
   have T:=AA bp;rw[bp] at cF;obtain⟨an,rfl⟩:∃n:Nat,a1=(n:Int):=⟨a1.toNat,by have:=(Ac.1 bp).1;omega⟩
   have av:an<12:=by have:=(Ac.1 bp).2;omega
   have ff:(an:Int)<12:=by omega
   clear bp;obtain⟨d0,d1,_⟩:=HS.out.zU (f:=an) (by rw[HK.out.len];exact av);replace d0:=yb d0;replace d1:=yb d1
   by_cases h0:(zU k.Os an).k=0
   .have E:=AA (HP.out.trans (RJ (.inr (.inl h0))))
    have t0:((zU k.Os an).k==0)=true:=by simp[h0]
    clear h0;refine Bn ?_
    repeat(go_big_quiet_step (first|exact cF _ _|exact cT _ _))
    refine Bm fun wq bq=>?_
    clear y0 y1 y2 y3 y4 y5 y6 x1 d0 d1;go_wp2_with fail;go_ret2;exact JF.bad E.out (by decide) (HS.out.below bq).bel
   have t0:((zU k.Os an).k==0)=false:=by simp[h0]
   have bA:=AA (HP.out.trans (YP T.out h0 (by simp)));clear h0;refine Bn ?_
   repeat(go_big_quiet_step (first|exact cF _ _|exact cT _ _))
   refine Bm fun wq bq=>?_
   have S1:=AA (HS.out.below bq);obtain⟨W1,rfl⟩:∃W1:World,W1=wq:=⟨_,rfl⟩
   clear y0 y1 y2 y3 y4 y5 y6 x1 d0 d1 t0 cF cT bq;obtain⟨y0,y1,y2,y3,y4,y5,y6⟩:=S1.out.ys;have x1:=S1.out.xs.2.1;obtain⟨d0,d1,_⟩:=S1.out.zU (f:=an) (by rw[HK.out.len];exact av);have CM:=Tl (w1:=W1) (fun W hW=>CY.out W _ _ _ _ (S1.out.below hW).yK an);replace y0:=yb y0;replace y1:=yb y1;replace y2:=yb y2;replace y3:=yb y3;replace y4:=yb y4;replace y5:=yb y5;replace y6:=yb y6;replace x1:=yb x1;replace d1:=yb d1;cases hm:FV k (en:Int) (zU k.Os an).g
   .have E:=AA (bA.out.trans (if_pos hm))
    rw[hm] at CM;clear hm;go_wp2_with fail;refine Bn ?_
    repeat(go_big_quiet_step (exact CM _ _))
    refine Bm fun wq bq=>?_
    clear y0 y1 y2 y3 y4 y5 y6 x1 d0 d1;go_wp2_with fail;go_ret2;exact JF.bad E.out (by decide) (S1.out.below bq).bel
   have ce:=AA (bA.out.trans (if_neg (by show ¬FV k (en:Int) (zU k.Os an).g=false;rw[hm];decide)));rw[hm] at CM;clear hm;go_wp2_with fail;refine Bn ?_
   repeat(go_big_quiet_step (exact CM _ _))
   refine Bm fun wq bq=>?_
   have S2:=AA (S1.out.below bq);obtain⟨W2,rfl⟩:∃W2:World,W2=wq:=⟨_,rfl⟩
   clear y0 y1 y2 y3 y4 y5 y6 x1 d0 d1 bq CM;obtain⟨y0,y1,y2,y3,y4,y5,y6⟩:=S2.out.ys;go_wp2_with fail;refine(CF.out W2 _ _ _ _ S2.out.yK S2.out.lo an av HF).mono ?_;rintro r w1 hr;obtain⟨n,rfl,hE⟩:=Gf.two hr VR S2.out.bel;have HE:=AA hE;clear hr hE y0 y1 y2 y3 y4 y5 y6;go_wp2_with fail;go_ret2;rw[ce.out];exact HE.out
 .skip
  have HP:=AA (show Ad k ⟨k1,(en:Int),a1,b1,c1,nm⟩=Io k ⟨k1,(en:Int),a1,b1,c1,nm⟩ by subst bi;rfl);have C:=Xp HS.out.yK HS.out.lo HK.out ⟨k1,(en:Int),a1,b1,c1,nm⟩ (by simp) (by simp only;omega) d5;simp only[Ab.on,Ab.onCells] at C;subst bi;go_in;go_wp2_with fail;generalize w.alloc _=W0 at*;refine C.mono ?_;rintro r w1 hr;obtain⟨v,n,rfl,hE⟩:=JF.of hr HS.out.bel;have HE:=AA hE;clear C;clear hr hE y0 y1 y2 y3 y4 y5 y6 x0 x1 x2 x3;go_wp2_with fail;go_ret2;rw[HP.out];exact HE.out
theorem Sc {a b:ByteArray}:Ku a b=true↔a.data.toList<+:b.data.toList:=by unfold Ku;exact List.isPrefixOf_iff_prefix
theorem Q0 {a b c:ByteArray} (h1:Ku a b=true) (h2:Ku b c=true):Ku a c=true:=Sc.2 ((Sc.1 h1).trans (Sc.1 h2))
def Oq (k:AN) (f:Nat):Prop:=(zU k.Os f).r=1/\((∃t i,t<12/\Bb (Av k t)=true/\i<4/\Db f (As k.mem t i)=true/\(zU k.Os t).g=gA)∨AZ k 0=(f:Int))
def Da (k k':AN):Prop:=(∀e,e<3->Bv (A4 k' e) gA=Bv (A4 k e) gA)/\AZ k' 0=AZ k 0/\
 ∀f,f<12->(zU k.Os f).g=gA->Av k f≠0->AH k'.mem f=AH k.mem f/\(zU k'.Os f).g=gA/\(Oq k f->(zU k'.Os f).r=(zU k.Os f).r)
theorem Da.refl (k:AN):Da k k:=⟨fun _ _=>rfl,rfl,fun _ _ h _=>⟨rfl,h,fun _=>rfl⟩⟩
section
variable {k:AN} (h:DI k)
include h
theorem OE {t:Nat} (hf:f<12) (ho:Oq k f) (ht:t<12) (b9:Bb (Av k t)=true) (hg:(zU k.Os t).g≠gA):f∉named (AH k.mem t):=fun hm=>by
 obtain⟨i,hi,hn⟩:=h.named_at ht hm;obtain⟨h1,h2⟩:=ho
 rcases h2 with⟨t',i',a,b,c,d,e⟩|h2
 .have:=(h.once hf h1 ht b9 hi hn a b c d).1
  subst this;exact hg e
 .exact h.ze hf h1 ht b9 hi hn (e:=0) (by omega) h2
theorem Vv {e:Nat} (hf:f<12) (ho:Oq k f) (he:e<3) (h0:e≠0):AZ k e≠(f:Int):=fun hr=>by
 obtain⟨h1,h2⟩:=ho
 rcases h2 with⟨t',i',a,b,c,d,_⟩|h2
 .exact h.ze hf h1 a b c d he hr
 .have cZ:=h.refs f hf
  rw[Gm h.zP] at cZ;unfold AZ at hr h2;have:e=1∨e=2:=by omega
  unfold D5 at cZ
  rcases this with rfl|rfl<;>simp[hr,h2] at cZ<;>split at cZ<;>omega
end
theorem Mo {k:AN} {e:Nat} {i:List AU} {c:List Ak} (hl:k.zZ.length=3) (ha:a<3):A4 ⟨m,i,Ar k.zZ a (BV ss),c⟩ e=if e=a then ss else A4 k e:=by
 unfold A4
 show(AJ (Ar k.zZ a (BV ss)) e).zV=_
 rw[GE]
 by_cases h:e=a
 .rw[if_pos ⟨h,by rw[hl];exact ha⟩,if_pos h];rfl
 .rw[if_neg (fun x=>h x.1),if_neg h]
theorem Pu {k:AN} {e:Nat} {i:List AU} {c:List Ak}:AZ ⟨m,i,Ar k.zZ a (BV ss),c⟩ e=AZ k e:=by
 unfold AZ
 show(AJ (Ar k.zZ a (BV ss)) e).root=_
 rw[GE]
 split
 .next h=>rw[h.1];rfl
 .rfl
section
variable {k:AN} (h:DI k) {c:Ab} (he:c.e=1∨c.e=2) (ab:∀e,1<=e->e<3->Bv (A4 k e) gA=false)
include h he ab
theorem PW {g:ByteArray} (hm:FV k c.e g=true):g≠gA:=fun e=>by have _:=h;have _:=he;have _:=ab;subst e;have:=ab c.e.toNat (by omega) (by omega);unfold FV at hm;unfold A4 at this;rw[hm] at this;cases this
theorem Ys {g:ByteArray} (hm:FV k c.e g=true):Ku g gA=false:=by
 have _:=h;have _:=he;have _:=ab;cases hc:Ku g gA
 .rfl
 .exfalso
  obtain⟨s,hs,h1⟩:=Gy.1 hm;have:=ab c.e.toNat (by omega) (by omega);have h2:Bv (A4 k c.e.toNat) gA=true:=Gy.2 ⟨s,hs,Q0 h1 hc⟩;rw[h2] at this;cases this
theorem WG:Da k (Io k c).1:=by
 have _:=h;have _:=he;have _:=ab;unfold Io
 split
 .exact Da.refl k
 .split
  .exact Da.refl k
  .split
   .exact Da.refl k
   .next bp=>
    obtain⟨g1,g2,g3⟩:=FO bp;refine⟨fun _ _=>rfl,rfl,fun f hf hg hk=>?_⟩;have al:f≠(Am k.Os).toNat:=fun e=>by unfold Av at hk;rw[e] at hk;exact hk g2
    show AH (k.mem.set _ _) f=_/\(zU (k.Os.set _ _) f).g=gA/\(_->(zU (k.Os.set _ _) f).r=_)
    rw[Nh,if_neg (fun x=>al x.1),Gc,if_neg (fun x=>al x.1)];exact⟨rfl,hg,fun _=>rfl⟩
theorem VU (hA:c.a.toNat<12) (hm:FV k c.e (zU k.Os c.a.toNat).g=true):Da k (Jw k c).1:=by
 have _:=h;have _:=he;have _:=ab;have az:=PW h he ab hm;unfold Jw
 split
 .exact Da.refl k
 .split
  .exact Da.refl k
  .refine⟨fun _ _=>rfl,rfl,fun f hf hg hk=>?_⟩
   have al:f≠c.a.toNat:=fun e=>az (by rw[<-e];exact hg)
   show _/\(zU (k.Os.set _ _) f).g=gA/\(_->(zU (k.Os.set _ _) f).r=_)
   rw[Gc,if_neg (fun x=>al x.1)];exact⟨rfl,hg,fun _=>rfl⟩
theorem Vz (hm:FV k c.e (zU k.Os c.a.toNat).g=true):Da k (J2 k c).1:=by
 have _:=h;have _:=he;have _:=ab;have az:=PW h he ab hm;unfold J2
 split
 .exact Da.refl k
 .refine⟨fun _ _=>rfl,rfl,fun f hf hg hk=>?_⟩
  have al:f≠c.a.toNat:=fun e=>az (by rw[<-e];exact hg)
  show AH (CZ _ _ _ _) f=_/\_/\_
  rw[Gn,if_neg (fun x=>al x.1)];exact⟨rfl,hg,fun _=>rfl⟩
theorem Ly {fs:List Nat} {n kind:Int} (az:(zU k.Os a).g≠gA) (fa:∀f,f<12->(zU k.Os f).g=gA->Oq k f->f∉fs):Da k {k with Os:=Ar (Bg k.Os fs n) a (EJ kind)}:=by
 have _:=h;have _:=he;have _:=ab;refine⟨fun _ _=>rfl,rfl,fun f hf hg hk=>?_⟩;have al:f≠a:=fun e=>az (by rw[<-e];exact hg)
 show AH k.mem f=AH k.mem f/\(zU (Ar (Bg k.Os fs n) a (EJ kind)) f).g=gA/\(_->(zU (Ar (Bg k.Os fs n) a (EJ kind)) f).r=_)
 rw[FR,if_neg (fun x=>al x.1),Mm (by rw[h.len];exact hf)];refine⟨rfl,hg,fun ho=>?_⟩;have:=List.count_eq_zero_of_not_mem (fa f hf hg ho)
 show(zU k.Os f).r+n*((fs.count f:Nat):Int)=_
 rw[this];simp
theorem Mj {r:List AU×Int} (hr:r.2=0->Da k {k with Os:=r.1}):Da k (EA k r).1:=by
 have _:=h;have _:=he;have _:=ab;unfold EA
 split
 .next h0=>exact hr h0
 .exact Da.refl k
theorem XZ (hm:FV k c.e (zU k.Os c.a.toNat).g=true):Da k (EA k (Gz k.mem k.Os c.a.toNat c.b (AJ k.zZ c.e.toNat).zV)).1:=by
 have _:=h;have _:=he;have _:=ab;have az:=PW h he ab hm;refine Mj h he ab fun h0=>?_
 revert h0
 unfold Gz
 split
 .intro x;cases x
 .split
  .intro x;cases x
  .next hgood=>
   split
   .intro _
    refine Ly h he ab az fun f hf hg _ a5=>?_
    obtain⟨w,hw,h1,h2⟩:=FE.1 a5;have:=La.1 (by simpa using hgood) w hw;unfold FJ at this;rw[if_pos h1,h2] at this;simp only[yt] at this;have:=this.2;rw[hg] at this;have ha:=ab c.e.toNat (by omega) (by omega);unfold A4 at ha;rw[this] at ha;cases ha
   .intro x;cases x
theorem Us (hA:c.a.toNat<12) (hm:FV k c.e (zU k.Os c.a.toNat).g=true):Da k (EA k (Di k.mem k.Os c.a.toNat)).1:=by
 have _:=h;have _:=he;have _:=ab;have az:=PW h he ab hm;refine Mj h he ab fun h0=>?_
 revert h0
 unfold Di
 split
 .intro x;cases x
 .next ac=>
  split
  .intro _
   have b9:Bb (Av k c.a.toNat)=true:=by
    cases hb:Bb (Av k c.a.toNat)
    .exact absurd (.inl hb) ac
    .rfl
   exact Ly h he ab az fun f hf hg ho=>OE h hf ho hA b9 az
  .intro x;cases x
theorem Xj (hA:c.a.toNat<12) (hm:FV k c.e (zU k.Os c.a.toNat).g=true):Da k (Gt k c).1:=by
 have _:=h;have _:=he;have _:=ab;have az:=PW h he ab hm;unfold Gt
 split
 .exact Da.refl k
 .next ac=>
  split
  .exact Da.refl k
  .split
   .exact Da.refl k
   .next hno2=>
    have b9:Bb (Av k c.a.toNat)=true:=by
     cases hb:Bb (Av k c.a.toNat)
     .exact absurd (.inl hb) ac
     .rfl
    have bz:c.b.toNat<4:=by
     cases hb:Bd c.b 0 3
     .exact absurd (.inr (.inl hb)) ac
     .have:=Ac.1 hb;omega
    refine⟨fun _ _=>rfl,rfl,fun f hf hg hk=>?_⟩;have al:f≠c.a.toNat:=fun e=>az (by rw[<-e];exact hg)
    show AH (CZ _ _ _ _) f=_/\(zU (A3 (A3 k.Os _ _) c.c 1) f).g=gA/\(_->(zU (A3 (A3 k.Os _ _) c.c 1) f).r=_)
    rw[Gn,if_neg (fun x=>al x.1),FG (by rw[Cd];exact h.len),FG h.len];refine⟨rfl,hg,fun ho=>?_⟩;have e1:Db f (As k.mem c.a.toNat c.b.toNat)=false:=by
     cases hn:Db f (As k.mem c.a.toNat c.b.toNat)
     .rfl
     .exfalso
      have cv:Bf (As k.mem c.a.toNat c.b.toNat)=true/\A8 (As k.mem c.a.toNat c.b.toNat)=f:=by simpa[Db] using hn
      have:=JV cv.1;rw[cv.2] at this;exact OE h hf ho hA b9 az this
    have e2:Db f c.c=false:=by
     cases hn:Db f c.c
     .rfl
     .exfalso
      have cv:Bf c.c=true/\A8 c.c=f:=by simpa[Db] using hn
      refine hno2 ⟨cv.1,?_⟩;rw[cv.2,hg];have:=ab c.e.toNat (by omega) (by omega);exact this
    rw[e1,e2];simp[D5]
theorem V4:Da k (OK k c).1:=by
 have _:=h;have _:=he;have _:=ab;unfold OK
 split
 .exact Da.refl k
 .next ac=>
  split
  .exact Da.refl k
  .next hno2=>
   have c6:c.e.toNat<3:=by omega
   have cD:c.e.toNat≠0:=by omega
   refine⟨fun e _=>?_,?_,fun f hf hg hk=>⟨rfl,?_⟩⟩
   .have:A4 ⟨k.mem,k.Os,Ar k.zZ c.e.toNat (Dk c.a),Fu k.zY c.e⟩ e=A4 k e:=by
     unfold A4
     show(AJ (Ar k.zZ c.e.toNat (Dk c.a)) e).zV=_
     rw[GE]
     split
     .next h=>rw[h.1];rfl
     .rfl
    show Bv (A4 ⟨k.mem,k.Os,Ar k.zZ c.e.toNat (Dk c.a),Fu k.zY c.e⟩ e) gA=_
    rw[this]
   .show(AJ (Ar k.zZ c.e.toNat (Dk c.a)) 0).root=_
    rw[GE,if_neg (fun x=>cD x.1.symm)];rfl
   .have hl:=h.len
    show(zU (F6 k.Os (AJ k.zZ c.e.toNat).root c.a) f).g=gA/\(_->(zU (F6 k.Os (AJ k.zZ c.e.toNat).root c.a) f).r=_)
    rw[Rp hl hf];refine⟨hg,fun ho=>?_⟩;have e1:decide ((AJ k.zZ c.e.toNat).root=(f:Int))=false:=decide_eq_false (Vv h hf ho c6 cD);have e2:decide (c.a=(f:Int))=false:=decide_eq_false fun hx=>by
     have:BC k.Os (BY k.mem c.a) (AJ k.zZ c.e.toNat).zV=true:=by simpa using hno2
     have:=Fp.1 this f (DU.2 ⟨by omega, .inl (by omega)⟩);rw[hg] at this;have ha:=ab c.e.toNat (by omega) (by omega);unfold A4 at ha;rw[this] at ha;cases ha
    rw[e1,e2];simp[D5]
theorem Yl {s g:ByteArray} (hc:Ku s g=false):Bv (Cl ss s).1 g=Bv ss g:=by
 have _:=h;have _:=he;have _:=ab;unfold Cl
 split
 .rfl
 .split
  .rfl
  .rw[wF,Gy,Gy]
   constructor
   .rintro⟨x,hx,hxc⟩
    rcases MS.1 hx with rfl|hx
    .rw[hc] at hxc;cases hxc
    .exact⟨x,hx,hxc⟩
   .rintro⟨x,hx,hxc⟩
    exact⟨x,MS.2 (.inr hx),hxc⟩
theorem XQ {s g:ByteArray} (hc:Ku s g=false):Bv (DB ss s) g=Bv ss g:=by
 have _:=h;have _:=he;have _:=ab;unfold DB;rw[wF,Gy,Gy];constructor
 .rintro⟨x,hx,hxc⟩
  exact⟨x,(wX.1 hx).1,hxc⟩
 .rintro⟨x,hx,hxc⟩
  refine⟨x,wX.2 ⟨hx,?_⟩,hxc⟩;cases hs:Ku s x
  .rfl
  .rw[Q0 hs hxc] at hc;cases hc
theorem UG:Da k (Kx k c).1:=by
 have _:=h;have _:=he;have _:=ab;unfold Kx
 split
 .exact Da.refl k
 .next ac=>
  split
  .exact Da.refl k
  .next hm=>
   split
   .exact Da.refl k
   .have dD:c.a.toNat<3:=by
     cases hb:Bd c.a 0 2
     .exact absurd (.inl hb) ac
     .have:=Ac.1 hb;omega
    have dz:=Ys h he ab (g:=c.nm) (by simpa using hm);refine⟨fun e _=>?_,Pu,fun f hf hg hk=>⟨rfl,hg,fun _=>rfl⟩⟩;rw[Mo h.zP dD]
    split
    .next hea=>rw[hea];exact Yl h he ab dz
    .rfl
theorem TJ:Da k (Jg k c).1:=by
 have _:=h;have _:=he;have _:=ab;unfold Jg
 split
 .exact Da.refl k
 .next ac=>
  split
  .exact Da.refl k
  .next hm=>
   split
   .exact Da.refl k
   .have dD:c.a.toNat<3:=by
     cases hb:Bd c.a 0 2
     .exact absurd (.inl hb) ac
     .have:=Ac.1 hb;omega
    have dz:=Ys h he ab (g:=c.nm) (by simpa using hm);refine⟨fun e _=>?_,Pu,fun f hf hg hk=>⟨rfl,hg,fun _=>rfl⟩⟩;rw[Mo h.zP dD]
    split
    .next hea=>rw[hea];exact XQ h he ab dz
    .rfl
theorem WM {root:Int} (h0:0<=root) (hw:(Bu m root.toNat a).1=0):(Bu m root.toNat a).2.1∈BY m root:=by
 have _:=h;have _:=he;have _:=ab
 revert hw
 unfold Bu
 split
 .next h1=>
  split
  .next h2=>
   intro _;exact DU.2 ⟨h0, .inr (.inr ⟨_,JV h1,JV h2⟩)⟩
  .intro x;cases x
 .intro x;cases x
theorem Xs:Da k (QI k c).1:=by
 have _:=h;have _:=he;have _:=ab;unfold QI;dsimp only
 split
 .exact Da.refl k
 .next ac=>
  split
  .exact Da.refl k
  .next hw=>
   split
   .exact Da.refl k
   .split
    .have h0:0<=(AJ k.zZ c.e.toNat).root:=by
      rcases Int.lt_or_le (AJ k.zZ c.e.toNat).root 0 with hh|hh
      .exact absurd (.inr (.inl hh)) ac
      .exact hh
     have hr:=WM h he ab (a:=c.a.toNat) h0 (by simpa using hw);have cK:=h.allow c.e.toNat (by omega) _ hr;refine⟨fun _ _=>rfl,rfl,fun f hf hg hk=>?_⟩;have al:f≠(Bu k.mem (AJ k.zZ c.e.toNat).root.toNat c.a.toNat).2.1:=fun e=>by rw[<-e,hg,ab c.e.toNat (by omega) (by omega)] at cK;cases cK
     show AH (CZ _ _ _ _) f=_/\_/\_
     rw[Gn,if_neg (fun x=>al x.1)];exact⟨rfl,hg,fun _=>rfl⟩
    .exact⟨fun _ _=>rfl,rfl,fun f hf hg hk=>⟨rfl,hg,fun _=>rfl⟩⟩
theorem Tq:Da k (Ad k c).1:=by
 have _:=h;have _:=he;have _:=ab;unfold Ad
 split
 .exact WG h he ab
 .split
  .unfold Gb
   split
   .exact Da.refl k
   .next ac=>
    split
    .exact Da.refl k
    .next hm=>
     have bK:FV k c.e (zU k.Os c.a.toNat).g=true:=by simpa using hm
     have hA:c.a.toNat<12:=by
      cases hb:Bd c.a 0 11
      .exact absurd (.inl hb) ac
      .have:=Ac.1 hb;omega
     split
     .exact VU h he ab hA bK
     .split
      .exact Vz h he ab bK
      .split
       .exact XZ h he ab bK
       .split
        .exact Us h he ab hA bK
        .exact Xj h he ab hA bK
  .split
   .exact V4 h he ab
   .split
    .exact UG h he ab
    .split
     .exact TJ h he ab
     .split
      .exact Xs h he ab
      .exact Da.refl k
end
theorem Yt (h:EC p) {c:Ab} (he:c.e=1∨c.e=2):EC (Nb p c).1/\∀a,a<64->Fn (Nb p c).1 a=Fn p a:=by
 have K:=Tq h.k he h.alone;have bV:DI (Ad p.zX c).1:=MV h.k (by omega);obtain⟨k1,k2,k3⟩:=K;have cY:=h.zC;have a6:Oq p.zX (AZ p.zX 0).toNat:=⟨h.yO.2, .inr (by have:=h.root;omega)⟩;have bm:∀i,i<4->Oq p.zX (BG p.low i).toNat:=fun i hi=>⟨(h.lows i hi).2.2.2.2, .inl ⟨_,i,cY.1,by rw[cY.2];rfl,hi,h.zm hi,h.yO.1⟩⟩
 have ay:∀n,n<16->(AB p.No n).w=1->Oq p.zX (AB p.No n).a.toNat:=fun n hn hw=>by obtain⟨f1,f2,f3⟩:=h.zI hn hw;have hl:=h.zM (i:=n/4) (by omega);exact⟨f3.2, .inl ⟨_,n%4,hl.1,by rw[hl.2];rfl,by omega,f1,(h.lows (n/4) (by omega)).2.2.2.1⟩⟩
 have be:=k3 _ cY.1 h.yO.1 (by rw[cY.2];decide);have b4:=fun i (hi:i<4)=>k3 _ (h.zM hi).1 (h.lows i hi).2.2.2.1 (by rw[(h.zM hi).2];decide)
 have ao:=fun n (hn:n<16) (hw:(AB p.No n).w=1)=>k3 _ (h.zJ hn hw).1 (h.zI hn hw).2.2.1 (by rw[(h.zJ hn hw).2];decide)
 have cs:∀n,n<16->Br (Nb p c).1 n=Br p n:=fun n hn=>by
  unfold Br Nb As
  show(AH (Ad p.zX c).1.mem (BG p.low (n/4)).toNat).getD (n%4) 0=_
  rw[(b4 (n/4) (by omega)).1]
 refine⟨⟨bV,h.zF,h.zx,?_,fun e h1 h2=>?_,?_,h.zv,?_,fun i hi=>?_,h.zQ,h.slots,fun n hn=>?_,h.zT,h.zW,h.count⟩,fun a ha=>?_⟩
 .exact(k1 0 (by omega)).trans h.may
 .exact(k1 e h2).trans (h.alone e h1 h2)
 .show 0<=AZ (Ad p.zX c).1 0
  rw[k2];exact h.root
 .show Kf (Ad p.zX c).1.Os (AZ (Ad p.zX c).1 0).toNat
  rw[k2];exact⟨be.2.1,(be.2.2 a6).trans h.yO.2⟩
 .obtain⟨x1,x2,x3,x4⟩:=h.lows i hi
  refine⟨x1,x2,?_,(b4 i hi).2.1,((b4 i hi).2.2 (bm i hi)).trans x4.2⟩
  show As (Ad p.zX c).1.mem (AZ (Ad p.zX c).1 0).toNat i=_
  rw[k2];unfold As;rw[be.1];exact x3
 .have:=h.No n hn
  unfold KB at this ⊢;rw[cs n hn]
  rcases this with x|⟨x1,x2,x3,x4⟩|x
  .exact .inl x
  .exact .inr (.inl ⟨x1,x2,x3,(ao n hn x1).2.1,((ao n hn x1).2.2 (ay n hn x1)).trans x4.2⟩)
  .exact .inr (.inr x)
 .unfold Fn
  show(if(AB p.No (a/4)).w=1 then As (Ad p.zX c).1.mem (AB p.No (a/4)).a.toNat (a%4) else _)=_
  by_cases w1:(AB p.No (a/4)).w=1
  .rw[if_pos w1,if_pos w1]
   unfold As;rw[(ao _ (by omega) w1).1]
  .rw[if_neg w1,if_neg w1];rfl
def gB:ByteArray:=⟨#[98]⟩
def gC:ByteArray:=⟨#[99]⟩
def bE:AN:=⟨xX 12 [0,0,0,0],xX 12 ⟨0,⟨#[]⟩,0⟩,[⟨[gA],-1⟩,⟨[gB],-1⟩,⟨[gC],-1⟩],[]⟩
def Jz:List Ab:=[Ag 1 0 0 0,Ag 4 0 3 0,Ag 7 0 0 0,
 Ag 1 0 0 0,Ag 4 1 2 0,Ag 6 0 0 7,Ag 1 0 0 0,Ag 4 2 2 0,Ag 6 0 1 11,Ag 1 0 0 0,Ag 4 3 2 0,Ag 6 0 2 15,Ag 1 0 0 0,Ag 4 4 2 0,Ag 6 0 3 19]
def Ds (n:Nat):AN:=(Jz.take n).foldl (fun k c=>(Ad k c).1) bE
def Z0:AN:=⟨[7,11,15,19]::xX 11 [0,0,0,0],⟨3,gA,1⟩::(xX 4 ⟨2,gA,1⟩++xX 7 ⟨0,⟨#[]⟩,0⟩),[⟨[gA],0⟩,⟨[gB],-1⟩,⟨[gC],-1⟩],[]⟩
theorem Vs:Ds 15=Z0:=by kernel_rfl
theorem Zj:Ad (Ds 0) (Ag 1 0 0 0)=(Ds 1,0,0):=by kernel_rfl
theorem Zh:Ad (Ds 1) (Ag 4 0 3 0)=(Ds 2,0,0):=by kernel_rfl
theorem Yq:Ad (Ds 2) (Ag 7 0 0 0)=(Ds 3,0,0):=by kernel_rfl
theorem Yr:∀i,i<4->Ad (Ds (3*i+3)) (Ag 1 0 0 0)=(Ds (3*i+4),((i+1:Nat):Int),0)
 |0,_|1,_|2,_|3,_=>by kernel_rfl
 |_+4,h=>by omega
theorem Zg:∀i,i<4->Ad (Ds (3*i+4)) (Ag 4 ((i+1:Nat):Int) 2 0)=(Ds (3*i+5),0,0)
 |0,_|1,_|2,_|3,_=>by kernel_rfl
 |_+4,h=>by omega
theorem Zi:∀i,i<4->Ad (Ds (3*i+5)) (Ag 6 0 (i:Int) (Gv ((i+1:Nat):Int)))=(Ds (3*i+6),0,0)
 |0,_|1,_|2,_|3,_=>by kernel_rfl
 |_+4,h=>by omega
theorem Yp:∀n,n<=15->DI (Ds n):=by
 have h0:DI (Ds 0):=EU.1 (by kernel_rfl);intro n
 induction n with
 |zero=>exact fun _=>h0
 |succ n ih=>
  intro hn;have bh:n<Jz.length:=by show n<15;omega
  have e:Ds (n+1)=(Ad (Ds n) Jz[n]).1:=by unfold Ds;rw[List.take_succ_eq_append_getElem bh,uB];rfl
  rw[e];have he:(Jz[n]).e=0:=by
   have:∀c∈Jz,c.e=0:=by
    intro c hc;simp only[Jz,List.mem_cons,List.not_mem_nil,or_false] at hc
    rcases hc with h|h|h|h|h|h|h|h|h|h|h|h|h|h|h<;>(subst h;rfl)
   exact this _ (List.getElem_mem bh)
  exact MV (ih (by omega)) (by rw[he];omega)
def Uc (zW:Int):AR:=⟨Z0,xX 16 [],[1,2,3,4],xX 16 ⟨0,0,false⟩,0,zW⟩
theorem WW {l:Int} (h1:1<=l) (h6:l<=6):EC (Uc l):=by
 have h:EC (Uc 1):=Ep.1 (by kernel_rfl);exact⟨h.k,h.zF,h.zx,h.may,h.alone,h.root,h.zv,h.yO,h.lows,h.zQ,h.slots,fun n hn=>h.No n hn,h.zT,⟨h1,h6⟩,by
  show((Ai (xX 16 ⟨0,0,false⟩) 1:Nat):Int)<=l
  have:Ai (xX 16 ⟨0,0,false⟩) 1=0:=by kernel_rfl
  omega⟩
end Go.Proofs.YtinbcpipjfljeaaGreatDoor
