/-
  Packed:14 texts.
-/
import Derived.Test.YtinbcpipjfljeaaGreatDoorY1
import Derived.Lib.QuietBelow
import Derived.Outline
set_option linter.unusedVariables false
set_option linter.unusedSimpArgs false
set_option maxHeartbeats 16000000
set_option maxRecDepth 100000
open Go Go.Proofs.YtinbcpipjfljeaaGreatDoor
open _root_.Array renaming getElem?_eq_some_iff->wm
open Bool renaming and_eq_true->yt,not_eq_false->xl,not_eq_true'->uH,or_eq_true->xv
open _root_.ByteArray renaming getElem_eq_getElem_data->uZ
open Decidable renaming not_not->uV
open Go.IntKind renaming i64->wR
open Go.IntWalk renaming i64_in->xy
open Go.Lib renaming toList_data->xz
open Go.Op renaming bytesLess->wj
open Go.Proofs.YtinbcpipjfljeaaGreatDoor renaming named->yz
open Go.RowKit.Below renaming refl->yF
open Go.Sort renaming grow->vL
open Go.World renaming block_lt_of_cell?->yC
open Int renaming emod_lt_of_pos->vI,emod_nonneg->uy,tmod_eq_emod_of_nonneg->wK,toNat_natCast->xY
open List renaming all_eq_false->wk,all_eq_true->yk,cons_lt_cons_iff->vf,countP_cons->xF,countP_le_length->vO,countP_pos_iff->uS,count_cons->tg,count_eq_zero->uM,findIdx_getElem->vd,findIdx_lt_length->vo,foldl_cons->yA,getD_cons_succ->tM,getD_cons_zero->tN,getElem?_eq_getElem->yx,getElem?_set->vm,getElem_of_mem->wO,isEmpty->uG,length_append->yl,length_filter_le->wV,length_set->xV,length_take->xW,map_append->xH,map_cons->vA,map_nil->uJ,mem_append->wu,mem_append_left->tR,mem_append_right->ve,mem_cons->xm,mem_cons_of_mem->uO,mem_cons_self->vY,mem_filter->wX,mem_of_getElem?->yg,mem_of_mem_drop->tP,mem_or_eq_of_mem_set->vF,mem_range->yj,mem_take_iff_getElem->uq,pairwise_append->tQ,pairwise_cons->tA,pairwise_iff_getElem->wl,range->yE,range_succ->xx,set_cons_succ->tB,set_cons_zero->tC,sum_append->xh,sum_cons->uP,sum_nil->uI,takeWhile_append_dropWhile->uE
open Nat renaming add_zero->xQ,le_refl->yv,le_trans->yD,lt_of_lt_of_le->xZ,mod_eq_of_lt->tf,not_lt_zero->xR
variable {N b e f g i j lo n t:Nat} {x:Int} {F:Nat->Nat} {c:List Ak} {r:List Int} {m:List (List Int)} {ss:List ByteArray} {s:ByteArray} {P:Program} {R o v:Value} {w' w0:World}
namespace Go.Proofs.YtinbcpipjfljeaaGreatDoor
open Go.Proofs.Tryz
section
variable {α:Type}
theorem A1 {l:List α} {d:α} (h:i<l.length):l[i]? =some (l.getD i d):=by simp[h]
theorem DG {l:List α} {d:α} (h:i<l.length):l.getD i d∈l:=yg (A1 h)
theorem IV {l:List α} {x d:α} (h:x∈l):∃i,i<l.length/\l.getD i d=x:=by obtain⟨i,hi,rfl⟩:=wO h;exact⟨i,hi,by simp[hi]⟩
theorem JO {l:List α} {x d:α}:(l.set i x).getD j d=if j=i/\i<l.length then x else l.getD j d:=by
 simp only[List.getD_eq_getElem?_getD,vm]
 by_cases h:i=j
 .subst h
  by_cases h2:i<l.length
  .simp[h2]
  .simp[h2]
 .have h':¬j=i:=fun e=>h e.symm
  simp[h,h']
theorem Cy {l:List α} {f:α->α}:(Ar l i f).length=l.length:=by
 unfold Ar
 split<;>simp
theorem MF {l:List α} {f:α->α} {d:α}:(Ar l i f).getD j d=if j=i/\i<l.length then f (l.getD i d) else l.getD j d:=by
 unfold Ar
 split
 .rename_i x hx
  have hi:=(List.getElem?_eq_some_iff.1 hx).1;rw[JO];have:l.getD i d=x:=by simp[hx]
  rw[this]
 .rename_i hx
  have hi:¬i<l.length:=by simpa using hx
  simp[hi]
theorem JD {l:List α} {f:α->α} {d:α}:Ar l i f=l.set i (f (l.getD i d)):=by
 unfold Ar
 split
 .rename_i x hx
  simp[hx]
 .rename_i hx
  have hi:l.length<=i:=by simpa using hx
  rw[List.set_eq_of_length_le hi]
theorem Li {p:Nat->Bool}:(yE n).all p=true↔∀i,i<n->p i=true:=by simp[yk]
theorem LW {l:List α} {p:α->Bool}:l.any p=true↔∃x∈l,p x=true:=by simp
end
theorem J5 {G:Nat->Nat} (h:∀t,t<n->F t=G t):((yE n).map F).sum=((yE n).map G).sum:=by
 induction n with
 |zero=>rfl
 |succ n ih=>rw[xx,xH,xH,xh,xh,ih (fun t ht=>h t (by omega))];simp[h n (by omega)]
theorem Ll {G:Nat->Nat} (hf:f<n) (h:∀t,t<n->t≠f->F t=G t):((yE n).map F).sum+G f=((yE n).map G).sum+F f:=by
 induction n with
 |zero=>omega
 |succ n ih=>
  rw[xx,xH,xH,xh,xh];simp only[vA,uJ,uP,uI,xQ]
  by_cases hn:f=n
  .subst hn
   rw[J5 (fun t ht=>h t (by omega) (by omega))];omega
  .have:=ih (by omega) (fun t ht al=>h t (by omega) al)
   have:=h n (by omega) (by omega);omega
theorem LN:((yE n).map F).sum=0↔∀t,t<n->F t=0:=by
 induction n with
 |zero=>simp
 |succ n ih=>
  rw[xx,xH,xh];simp only[vA,uJ,uP,uI,xQ];constructor
  .intro h t ht
   by_cases e:t=n
   .subst e;omega
   .exact ih.1 (by omega) t (by omega)
  .intro h
   rw[ih.2 (fun t ht=>h t (by omega)),h n (by omega)]
theorem aR {c:Nat} (h:∀t,t<n->F t<=c):((yE n).map F).sum<=c*n:=by
 induction n with
 |zero=>simp
 |succ n ih=>rw[xx,xH,xh,Nat.mul_succ];simp only[vA,uJ,uP,uI,xQ];have:=ih (fun t ht=>h t (by omega));have:=h n (by omega);omega
theorem WF {c:Nat} (hg:g<n) (h:∀t,t<n->F t<=c) (h0:F g=0):((yE n).map F).sum+c<=c*n:=by
 have h1:=Ll (F:=F) (G:=fun t=>if t=g then c else F t) hg (fun t ht al=>by simp[al]);have h2:=aR (F:=fun t=>if t=g then c else F t) (n:=n) (c:=c) (fun t ht=>by
  by_cases e:t=g
  .simp[e]
  .simp only[e,if_false];exact h t ht)
 simp only[if_true,h0] at h1;omega
theorem EH {w:Int} (h:Bf w=true):A8 w<12:=by simp only[Bf,yt,decide_eq_true_eq] at h;unfold A8;omega
theorem FE {r:List Int}:g∈named r↔∃w∈r,Bf w=true/\A8 w=g:=by simp[named,and_assoc]
theorem FD (h:g∈named r):g<12:=by obtain⟨w,_,hw,rfl⟩:=FE.1 h;exact EH hw
def Db (g:Nat) (w:Int):Bool:=Bf w&&decide (A8 w=g)
theorem Je:(named r).count g=r.countP (Db g):=by
 unfold named
 induction r with
 |nil=>rfl
 |cons w r ih=>
  rw[List.filter_cons];cases hw:Bf w
  .rw[if_neg (by simp),ih,xF]
   simp[Db,hw]
  .rw[if_pos rfl,vA,tg,ih,xF]
   by_cases h:A8 w=g<;>simp[Db,hw,h]
theorem FB:(named r).length<=r.length:=by unfold named;rw[List.length_map];exact wV _ _
def D5 (b:Bool):Nat:=if b then 1 else 0
theorem Tt {p:Int->Bool} {w:Int} (hb:b<r.length):(r.set b w).countP p+D5 (p (r.getD b 0))=r.countP p+D5 (p w):=by
 induction r generalizing b with
 |nil=>simp at hb
 |cons x r ih=>
  cases b with
  |zero=>simp only[tC,xF,tN,D5];omega
  |succ b=>simp only[tB,xF,tM];have:=ih (b:=b) (by simpa using hb);omega
theorem XT {w:Int} (hb:b<r.length):(named (r.set b w)).count g+D5 (Db g (r.getD b 0))=(named r).count g+D5 (Db g w):=by rw[Je,Je];exact Tt hb
theorem Qi {w:Int} (h:g∈named (r.set b w)):g∈named r∨(Bf w=true/\A8 w=g):=by
 obtain⟨x,hx,h1,h2⟩:=FE.1 h
 rcases vF hx with hx|rfl
 .exact .inl (FE.2 ⟨x,hx,h1,h2⟩)
 .exact .inr ⟨h1,h2⟩
theorem DU {root:Int}:f∈BY m root↔0<=root/\(f=root.toNat∨f∈named (AH m root.toNat)∨∃t,t∈named (AH m root.toNat)/\f∈named (AH m t)):=by
 unfold BY
 split
 .simp;omega
 .simp;omega
theorem OG {m':List (List Int)} {root:Int} (h0:0<=root->AH m' root.toNat=AH m root.toNat) (h1:0<=root->∀t,t∈named (AH m root.toNat)->AH m' t=AH m t) (f:Nat):f∈BY m' root↔f∈BY m root:=by
 rw[DU,DU]
 by_cases hr:0<=root
 .rw[h0 hr]
  simp only[hr,true_and];refine or_congr Iff.rfl (or_congr Iff.rfl (exists_congr fun t=>?_));constructor
  .rintro⟨a,b⟩;exact⟨a,by rw[<-h1 hr t a];exact b⟩
  .rintro⟨a,b⟩;exact⟨a,by rw[h1 hr t a];exact b⟩
 .simp[hr]
theorem Fp {Os:List AU} {fs:List Nat} {zV:List ByteArray}:BC Os fs zV=true↔∀f,f∈fs->Bv zV (zU Os f).g=true:=by simp[BC,yk]
theorem QL {m':List (List Int)} {root a:Nat} (h0:AH m' root=AH m root) (h1:∀t,t∈named (AH m root)->AH m' t=AH m t):Bu m' root a=Bu m root a:=by
 have e0:As m' root (a/16)=As m root (a/16):=by unfold As;rw[h0]
 unfold Bu;rw[e0]
 split
 .rename_i hg
  have hm:A8 (As m root (a/16))∈named (AH m root):=by
   refine FE.2 ⟨_,?_,hg,rfl⟩;unfold As at hg ⊢
   by_cases hl:a/16<(AH m root).length
   .exact DG hl
   .have:(AH m root).getD (a/16) 0=0:=by simp at hl;simp[hl]
    rw[this] at hg;simp[Bf] at hg
  have e1:As m' (A8 (As m root (a/16))) (a/4%4)=As m (A8 (As m root (a/16))) (a/4%4):=by unfold As;unfold As at hm;rw[h1 _ hm]
  rw[e1]
 .rfl
theorem JV (hg:Bf (As m f i)=true):A8 (As m f i)∈named (AH m f):=by
 refine FE.2 ⟨_,?_,hg,rfl⟩;unfold As at hg ⊢
 by_cases hl:i<(AH m f).length
 .exact DG hl
 .have:(AH m f).getD i 0=0:=by simp at hl;simp[hl]
  rw[this] at hg;simp[Bf] at hg
theorem A5 {r:List Int}:Dh r=true↔r.length=4/\∀w∈r,0<=w/\w<=9999:=by simp only[Dh,yt,yk,decide_eq_true_eq,Dy,Ac];exact And.comm
theorem Ah:Bs m=true↔m.length=12/\∀f,f<12->Dh (AH m f)=true:=by
 simp only[Bs,yt,yk,decide_eq_true_eq];constructor
 .rintro⟨h1,h2⟩
  exact⟨h2,fun f hf=>h1 _ (DG (by omega))⟩
 .rintro⟨h1,h2⟩
  refine⟨fun r hr=>?_,h1⟩;obtain⟨i,hi,rfl⟩:=IV (d:=[]) hr;exact h2 i (by omega)
theorem Re (h:Bs m=true) (hr:Dh r=true):Bs (m.set f r)=true:=by
 rw[Ah] at h ⊢;refine⟨by rw[xV];exact h.1,fun g hg=>?_⟩;unfold AH;rw[JO]
 split
 .exact hr
 .exact h.2 g hg
theorem Nh:AH (m.set f r) g=if g=f/\f<m.length then r else AH m g:=by unfold AH;exact JO
theorem Gn {w:Int}:AH (CZ m f i w) g=if g=f/\f<m.length then(AH m f).set i w else AH m g:=by unfold CZ AH;exact MF
theorem Mq {w:Int}:CZ m f i w=m.set f ((AH m f).set i w):=JD
theorem Rq {w:Int} (h:Dh r=true) (hw:Dy w=true):Dh (r.set i w)=true:=by
 rw[A5] at h ⊢;refine⟨by rw[xV];exact h.1,fun x hx=>?_⟩
 rcases vF hx with hx|rfl
 .exact h.2 x hx
 .exact Ac.1 hw
theorem WU:∀(x y:List UInt8),wj x y=decide (x<y)
 | [],[]=>by simp[wj]
 |_::_,[]=>by simp[wj]
 | [],_::_=>by simp[wj]
 |a::x,b::y=>by
  rw[wj,WU x y]
  by_cases h1:a<b
  .simp[h1,vf]
  .by_cases h2:a=b
   .subst h2;simp[vf]
   .simp[h1,h2,vf]
def Qh (a b:ByteArray):Bool:=wj a.toList b.toList
theorem Ld {a b:ByteArray}:Qh a b=true↔a.toList<b.toList:=by simp[Qh,WU]
theorem PJ {a b:ByteArray}:Th a b=!Qh a b:=rfl
theorem Rb {a b c:ByteArray} (h1:Qh a b=true) (h2:Qh b c=true):Qh a c=true:=Ld.2 (List.lt_trans (Ld.1 h1) (Ld.1 h2))
theorem toList_inj {a b:ByteArray} (h:a.toList=b.toList):a=b:=by have ha:a.toList=a.data.toList:=xz a;have hb:b.toList=b.data.toList:=xz b;rw[ha,hb] at h;cases a;cases b;simp at h;rw[h]
theorem Vp {a b:ByteArray} (h:Qh a b=false) (al:a≠b):Qh b a=true:=by
 rw[Ld];have h1:¬a.toList<b.toList:=by rw[<-Ld];simp[h]
 have h2:a.toList≠b.toList:=fun e=>al (toList_inj e)
 have h3:b.toList<=a.toList:=List.not_lt.1 h1
 rcases List.le_iff_lt_or_eq.1 h3 with h|h
 .exact h
 .exact absurd h.symm h2
theorem GH {ss:List ByteArray}:BO ss=true↔(∀s∈ss,BN s=true)/\ss.Pairwise (fun a b=>Qh a b=true)/\ss.length<=6:=by
 unfold BO;simp only[yt,decide_eq_true_eq,Li,Cq,xv,PJ,Bool.not_not];constructor
 .rintro⟨h,hl⟩
  refine⟨fun s hs=>?_,?_,hl⟩
  .obtain⟨i,hi,rfl⟩:=IV (d:=⟨#[]⟩) hs
   exact(h i hi).1
  .rw[wl]
   have bu:∀d i,i+1+d<ss.length->Qh (DZ ss i) (DZ ss (i+1+d))=true:=by
    intro d
    induction d with
    |zero=>
     intro i hi
     rcases(h (i+1) (by omega)).2 with h'|h'
     .omega
     .simpa using h'
    |succ d ih=>
     intro i hi;have h1:=ih i (by omega)
     rcases(h (i+1+(d+1)) (by omega)).2 with h'|h'
     .omega
     .refine Rb h1 ?_
      have e:i+1+(d+1) - 1=i+1+d:=by omega
      rw[e] at h';exact h'
   intro i j hi hj cE;have:=bu (j - i - 1) i (by omega);have e:i+1+(j - i - 1)=j:=by omega
   rw[e] at this;simpa[DZ,hi,hj] using this
 .rintro⟨h1,h2,h3⟩
  refine⟨fun i hi=>⟨h1 _ (DG hi),?_⟩,h3⟩
  by_cases h0:i=0
  .exact .inl h0
  .right
   rw[wl] at h2;have:=h2 (i - 1) i (by omega) hi (by omega);simpa[DZ,hi,show i - 1<ss.length by omega] using this
theorem MS {x:ByteArray}:x∈SV ss s↔x=s∨x∈ss:=by
 unfold SV;have e:=uE (p:=fun x=>!Th x s) (l:=ss);constructor
 .intro h
  rcases wu.1 h with h|h
  .right;rw[<-e];exact tR _ h
  .rcases xm.1 h with h|h
   .exact .inl h
   .right;rw[<-e];exact ve _ h
 .rintro(rfl|h)
  .simp
  .rw[<-e] at h
   rcases wu.1 h with h|h
   .exact tR _ h
   .exact ve _ (uO _ h)
theorem PX {p:ByteArray->Bool} {l:List ByteArray} {x:ByteArray} (h:x∈l.takeWhile p):p x=true:=by
 induction l with
 |nil=>simp at h
 |cons y l ih=>
  rw[List.takeWhile_cons] at h
  split at h
  .rename_i hy
   rcases xm.1 h with rfl|h
   .exact hy
   .exact ih h
  .simp at h
theorem ZQ (h:BO ss=true) (hs:BN s=true) (hn:s∉ss) (hl:ss.length≠6):BO (SV ss s)=true:=by
 rw[GH] at h ⊢;obtain⟨h1,h2,h3⟩:=h;have e:=uE (p:=fun x=>!Th x s) (l:=ss);refine⟨fun x hx=>?_,?_,?_⟩
 .rcases MS.1 hx with rfl|hx
  .exact hs
  .exact h1 x hx
 .unfold SV
  rw[<-e] at h2;rw[tQ] at h2 ⊢;obtain⟨p1,p2,p3⟩:=h2;have bk:∀y∈ss.dropWhile (fun x=>!Th x s),Qh s y=true:=by
   generalize hd:ss.dropWhile (fun x=>!Th x s)=l at p2;cases l with
   |nil=>simp
   |cons y l=>
    have cu:(!Th y s)=false:=by
     have:=List.head?_dropWhile_not (fun x=>!Th x s) ss;rw[hd] at this;simpa using this
    have ct:y∈ss:=by rw[<-e,hd];exact ve _ (vY ..)
    have hy:Qh s y=true:=Vp (by simpa[PJ] using cu) (fun e=>hn (e▸ct));intro z hz
    rcases xm.1 hz with rfl|hz
    .exact hy
    .exact Rb hy ((tA.1 p2).1 z hz)
  refine⟨p1,tA.2 ⟨bk,p2⟩,fun a ha b hb=>?_⟩;have cJ:Qh a s=true:=by simpa[PJ] using PX ha
  rcases xm.1 hb with rfl|hb
  .exact cJ
  .exact p3 a ha b hb
 .have:(SV ss s).length=ss.length+1:=by
   unfold SV;rw[yl,List.length_cons];have:=congrArg List.length e;rw[yl] at this;omega
  omega
theorem Wu {p:ByteArray->Bool} (h:BO ss=true):BO (ss.filter p)=true:=by
 rw[GH] at h ⊢;exact⟨fun s hs=>h.1 s (wX.1 hs).1,h.2.1.filter _,yD (wV _ _) h.2.2⟩
theorem Gy {zV:List ByteArray} {g:ByteArray}:Bv zV g=true↔∃s∈zV,Ku s g=true:=by simp[Bv]
theorem XR {r r':List ByteArray} {g:ByteArray} (h:∀s∈r,s∈r') (hm:Bv r g=true):Bv r' g=true:=by obtain⟨s,hs,hc⟩:=Gy.1 hm;exact Gy.2 ⟨s,h s hs,hc⟩
theorem Ym (g:ByteArray):Bv [⟨#[]⟩] g=true:=by refine Gy.2 ⟨_,vY ..,?_⟩;simp[Ku]
theorem YB (h:BO ss=true) (hs:BN s=true):BO (Cl ss s).1=true:=by
 unfold Cl
 split
 .exact h
 .rename_i hn
  split
  .exact h
  .rename_i hl
   exact ZQ h hs (fun hm=>hn (LW.2 ⟨s,hm,by simp⟩)) hl
theorem YA {x:ByteArray} (hx:x∈ss):x∈(Cl ss s).1:=by
 unfold Cl
 split
 .exact hx
 .split
  .exact hx
  .exact MS.2 (.inr hx)
theorem Ek {c:List Ak}:BQ c=true↔(∀x∈c,CU x=true)/\c.Pairwise (fun x y=>Bj y.e y.p x=false)/\c.length<=4:=by
 unfold BQ;simp only[yt,decide_eq_true_eq,Li,Ct,uH,List.any_eq_false];constructor
 .rintro⟨h,hl⟩
  refine⟨fun x hx=>?_,?_,hl⟩
  .obtain⟨i,hi,rfl⟩:=IV (d:=⟨0,0,0,false⟩) hx
   exact(h i hi).1
  .rw[wl]
   intro i j hi hj cE;have h2:=(h j hj).2 c[i] (uq.2 ⟨i,by omega,rfl⟩);have e:AT c j=c[j]:=by simp[AT,hj]
   rw[e] at h2;simpa using h2
 .rintro⟨h1,h2,h3⟩
  refine⟨fun i hi=>⟨h1 _ (DG hi),fun x hx=>?_⟩,h3⟩;obtain⟨j,hj,rfl⟩:=uq.1 hx;rw[wl] at h2;have:=h2 j i (by omega) hi (by omega);have e:AT c i=c[i]:=by simp[AT,hi]
  rw[e];simp[this]
theorem Tw {e:Int} (h:BQ c=true):BQ (Fu c e)=true:=by
 rw[Ek] at h ⊢;unfold Fu;exact⟨fun s hs=>h.1 s (wX.1 hs).1,h.2.1.filter _,yD (wV _ _) h.2.2⟩
theorem Q3 {e:Int} {x:Ak}:x∈Fu c e↔x∈c/\x.e≠e:=by simp[Fu]
theorem Tx {c:List Ak} {es:List Nat} (h:BQ c=true):BQ (es.foldl (fun c e=>Fu c (e:Nat)) c)=true:=by
 induction es generalizing c with
 |nil=>exact h
 |cons e es ih=>exact ih (Tw h)
theorem Wt {c:List Ak} {es:List Nat} {x:Ak}:x∈es.foldl (fun c e=>Fu c (e:Nat)) c↔x∈c/\∀e∈es,x.e≠(e:Int):=by
 induction es generalizing c with
 |nil=>simp
 |cons e es ih=>rw[yA,ih,Q3];simp[and_assoc]
theorem Uh {x y:Ak} (h:y∈Mk c x):y=x∨y∈c:=by
 unfold Mk at h
 rcases wu.1 h with h|h
 .right
  split at h
  .exact(wX.1 (tP h)).1
  .exact(wX.1 h).1
 .left;simpa using h
theorem Wa {x:Ak} (h:BQ c=true) (hx:CU x=true):BQ (Mk c x)=true:=by
 have hm:=fun y=>Uh (c:=c) (x:=x) (y:=y)
 rw[Ek] at h ⊢;obtain⟨h1,h2,h3⟩:=h;refine⟨fun y hy=>?_,?_,?_⟩
 .rcases hm y hy with rfl|hy
  .exact hx
  .exact h1 y hy
 .unfold Mk
  rw[tQ];refine⟨?_,by simp,fun a ha b hb=>?_⟩
  .split
   .exact(h2.filter _).drop
   .exact h2.filter _
  .obtain rfl:b=x:=by simpa using hb
   have b9:a∈c.filter fun y=>!Bj b.e b.p y:=by
    split at ha
    .exact tP ha
    .exact ha
   simpa using(wX.1 b9).2
 .unfold Mk
  have hl:=wV (fun y=>!Bj x.e x.p y) c
  split
  .rw[yl,List.length_drop];simp;omega
  .rw[yl];simp;omega
theorem VM {e p:Int} (h:¬Hj c e p<0):∃i,i<c.length/\Hj c e p=(i:Int)/\Bj e p (AT c i)=true:=by
 unfold Hj at h ⊢
 split
 .rename_i ha
  obtain⟨x,hx,hs⟩:=LW.1 ha;have hl:c.findIdx (Bj e p)<c.length:=vo.2 ⟨x,hx,hs⟩;refine⟨_,hl,rfl,?_⟩;have:=vd (w:=hl);simpa[AT,hl] using this
 .rename_i ha
  rw[if_neg ha] at h;omega
def AZ (k:AN) (e:Nat):Int:=(AJ k.zZ e).root
def A4 (k:AN) (e:Nat):List ByteArray:=(AJ k.zZ e).zV
def Av (k:AN) (f:Nat):Int:=(zU k.Os f).k
def SP (x:AU):Prop:=(x.k=0/\x.g=⟨#[]⟩)∨(1<=x.k/\x.k<=3/\BN x.g=true)
def LX (m:List (List Int)) (Os:List AU) (g t:Nat):Nat:=if Bb (zU Os t).k then(named (AH m t)).count g else 0
theorem EP {Os:List AU}:countP m Os g=((yE 12).map (LX m Os g)).sum:=rfl
theorem HY {k:Int}:Bb k=true↔k=2∨k=3:=by simp[Bb]
structure DI (k:AN):Prop where
 mem:Bs k.mem=true
 len:k.Os.length=12
 inf:∀f,f<12->SP (zU k.Os f)
 zY:BQ k.zY=true
 zP:k.zZ.length=3
 zV:∀e,e<3->BO (A4 k e)=true
 roots:∀e,e<3->AZ k e= -1∨(0<=AZ k e/\AZ k e<=11/\Av k (AZ k e).toNat=3)
 allow:∀e,e<3->∀f,f∈BY k.mem (AZ k e)->Bv (A4 k e) (zU k.Os f).g=true
 tabs:∀f,f<12->Bb (Av k f)=true->∀w∈AH k.mem f,(Bf w=true/\A8 w≠f/\Av k (A8 w)=Av k f - 1)∨w=0
 refs:∀f,f<12->(zU k.Os f).r=(countP k.mem k.Os f:Int)+(EI k.zZ f:Int)
 trans:∀x∈k.zY,Cm k x=true
theorem Gm {zZ:List EN} (h:zZ.length=3) (g:Nat):EI zZ g=D5 (decide ((AJ zZ 0).root=(g:Int)))+D5 (decide ((AJ zZ 1).root=(g:Int)))+D5 (decide ((AJ zZ 2).root=(g:Int))):=by
 match zZ,h with
 | [a,b,c],_=>simp only[EI,xF,List.countP_nil,AJ,D5];simp;omega
section
variable {k:AN} (h:DI k)
include h
theorem DI.row (hf:f<12):(AH k.mem f).length=4:=(A5.1 ((Ah.1 h.mem).2 f hf)).1
theorem DI.word (hf:f<12) (hi:i<4):0<=As k.mem f i/\As k.mem f i<=9999:=(A5.1 ((Ah.1 h.mem).2 f hf)).2 _ (DG (by rw[h.row hf];exact hi))
theorem DI.named (hf:f<12) (ht:Bb (Av k f)=true) (hg:g∈named (AH k.mem f)):g<12/\g≠f/\Av k g=Av k f - 1:=by
 obtain⟨w,hw,h1,rfl⟩:=FE.1 hg
 rcases h.tabs f hf ht w hw with⟨_,a,b⟩|rfl
 .exact⟨EH h1,a,b⟩
 .simp[Bf] at h1
theorem DI.zA (he:e<3) (hr:0<=AZ k e):(AZ k e).toNat<12/\Av k (AZ k e).toNat=3:=by
 rcases h.roots e he with a|⟨a,b,c⟩
 .omega
 .exact⟨by omega,c⟩
theorem DI.zM (he:e<3) (hr:0<=AZ k e) (ht:t∈yz (AH k.mem (AZ k e).toNat)):t<12/\Av k t=2:=by obtain⟨a,b⟩:=h.zA he hr;have:=h.named a (by rw[b];rfl) ht;exact⟨this.1,by omega⟩
theorem DI.zk (he:e<3) (hr:0<=AZ k e) (ht:t∈yz (AH k.mem (AZ k e).toNat)) (hf:f∈yz (AH k.mem t)):f<12/\Av k f=1:=by obtain⟨a,b⟩:=h.zM he hr ht;have:=h.named a (by rw[b];rfl) hf;exact⟨this.1,by omega⟩
theorem DI.zy (he:e<3) (hf:f∈BY k.mem (AZ k e)):f<12/\1<=Av k f:=by
 obtain⟨hr,h1⟩:=DU.1 hf
 rcases h1 with rfl|h1|⟨t,ht,h1⟩
 .have:=h.zA he hr;exact⟨this.1,by omega⟩
 .have:=h.zM he hr h1;exact⟨this.1,by omega⟩
 .have:=h.zk he hr ht h1;exact⟨this.1,by omega⟩
theorem DI.cnt_zero (hg:g<12):LX k.mem k.Os g g=0:=by
 unfold LX
 split
 .rename_i ht
  rw[uM];intro hm;exact(h.named hg ht hm).2.1 rfl
 .rfl
theorem DI.yQ (ht:t<12):LX k.mem k.Os g t<=4:=by
 unfold LX
 split
 .have h1:(yz (AH k.mem t)).count g<=_:=List.count_le_length
  have h2:=FB (r:=AH k.mem t);rw[h.row ht] at h2;omega
 .omega
theorem DI.count_le (hg:g<12):countP k.mem k.Os g<=44:=by
 have:((yE 12).map (LX k.mem k.Os g)).sum+4<=4*12:=WF hg (fun t ht=>h.yQ (g:=g) ht) (h.cnt_zero hg);rw[EP];omega
theorem DI.yR (hf:f<12):0<=(zU k.Os f).r/\(zU k.Os f).r<=47:=by
 have h1:=h.count_le hf;have h2:EI k.zZ f<=3:=by
  have:=vO (p:=fun e:EN=>decide (e.root=(f:Int))) (l:=k.zZ);rw[h.zP] at this;exact this
 rw[h.refs f hf];omega
theorem DI.unused (hf:f<12) (h0:(zU k.Os f).r=0):(∀t,t<12->Bb (Av k t)=true->f∉yz (AH k.mem t))/\∀e,e<3->AZ k e≠(f:Int):=by
 have h1:=h.refs f hf;have h2:countP k.mem k.Os f=0:=by omega
 have h3:EI k.zZ f=0:=by omega
 rw[EP,LN] at h2;constructor
 .intro t ht a6 hm
  have:=h2 t ht;unfold LX Av at*;rw[if_pos a6,uM] at this;exact this hm
 .intro e he
  rw[Gm h.zP] at h3;unfold D5 at h3;have:e=0∨e=1∨e=2:=by omega
  intro hr;unfold AZ at hr
  rcases this with rfl|rfl|rfl<;>simp[hr] at h3
theorem DI.zu (hf:f<12) (h0:Av k f=0):(zU k.Os f).r=0:=by
 rw[h.refs f hf];have h2:countP k.mem k.Os f=0:=by
  rw[EP,LN];intro t ht;unfold LX
  split
  .rename_i a6
   rw[uM];intro hm;have:=(h.named ht a6 hm).2.2;have:Av k t=2∨Av k t=3:=HY.1 a6;omega
  .rfl
 have h3:EI k.zZ f=0:=by
  rw[Gm h.zP];have bu:∀e,e<3->D5 (decide ((AJ k.zZ e).root=(f:Int)))=0:=by
   intro e he;unfold D5
   by_cases hr:(AJ k.zZ e).root=(f:Int)
   .exfalso
    have:AZ k e=(f:Int):=hr;have:=h.zA he (by omega);rw[‹AZ k e=(f:Int)›] at this;simp at this;omega
   .simp[hr]
  rw[bu 0 (by omega),bu 1 (by omega),bu 2 (by omega)]
 omega
theorem DI.yS {a:Nat} (he:e<3) (hr:0<=AZ k e) (hw:(Bu k.mem (AZ k e).toNat a).1=0):(Bu k.mem (AZ k e).toNat a).2.1<12/\Av k (Bu k.mem (AZ k e).toNat a).2.1=1/\(Bu k.mem (AZ k e).toNat a).2.1∈BY k.mem (AZ k e):=by
 unfold Bu at hw ⊢
 split at hw
 .rename_i h1
  split at hw
  .rename_i h2
   rw[if_pos h1,if_pos h2];have m1:=JV h1;have m2:=JV h2;have:=h.zk he hr m1 m2;exact⟨this.1,this.2,DU.2 ⟨hr, .inr (.inr ⟨_,m1,m2⟩)⟩⟩
  .simp at hw
 .simp at hw
end
theorem XG {x:AU} (h:SP x) (h0:0<=x.r) (h1:x.r<=50) (hz:x.k=0->x.r=0):DH x=true:=by
 rcases h with⟨a,b⟩|⟨a,b,c⟩
 .have:x=AU.zero:=by
   obtain⟨k,g,r⟩:=x;simp at a b hz;subst a b;simp[AU.zero,hz rfl]
  simp[DH,this]
 .simp[DH,Bd,a,b,c,h0,h1]
theorem XF {x:AU} (h:DH x=true):SP x:=by
 unfold DH at h;simp only[xv,decide_eq_true_eq,yt,Ac] at h
 rcases h with rfl|⟨⟨⟨a,b⟩,c⟩,_⟩
 .exact .inl ⟨rfl,rfl⟩
 .exact .inr ⟨a,b,c⟩
theorem A0 {l:List AU}:BK l=true↔l.length=12/\∀f,f<12->DH (zU l f)=true:=by
 simp only[BK,yt,yk,decide_eq_true_eq];constructor
 .rintro⟨h1,h2⟩
  exact⟨h2,fun f hf=>h1 _ (DG (by omega))⟩
 .rintro⟨h1,h2⟩
  refine⟨fun r hr=>?_,h1⟩;obtain⟨i,hi,rfl⟩:=IV (d:=AU.zero) hr;exact h2 i (by omega)
theorem Lb {Os:List AU} {kind:Int} {zV:List ByteArray} {w:Int}:FJ Os f kind zV w=true↔(Bf w=true/\A8 w≠f/\(zU Os (A8 w)).k=kind - 1/\Bv zV (zU Os (A8 w)).g=true)∨(Bf w=false/\w=0):=by unfold FJ;cases h:Bf w<;>simp[and_assoc]
theorem La {m:List (List Int)} {Os:List AU} {f:Nat} {kind:Int} {zV:List ByteArray}:Im m Os f kind zV=true↔∀w∈AH m f,FJ Os f kind zV w=true:=by simp[Im,yk]
theorem Q9 {zZ:List EN} (h:zZ.length=3) {p:EN->Bool}:zZ.all p=true↔∀e,e<3->p (AJ zZ e)=true:=by
 rw[yk];constructor
 .intro hp e he
  exact hp _ (DG (by omega))
 .intro hp x hx
  obtain⟨i,hi,rfl⟩:=IV (d:=⟨[],0⟩) hx;exact hp i (by omega)
theorem EU {k:AN}:Cj k=true↔DI k:=by
 unfold Cj;simp only[yt,Li];constructor
 .rintro⟨⟨⟨⟨⟨⟨h1,h2⟩,h3⟩,h4⟩,h5⟩,h6⟩,h7⟩
  unfold Ig at h4;simp only[yt,decide_eq_true_eq] at h4;obtain⟨h4,hl⟩:=h4;rw[Q9 hl] at h4;rw[A0] at h2;have hE:∀e,e<3->BO (A4 k e)=true/\(AZ k e= -1∨(0<=AZ k e/\AZ k e<=11)/\Av k (AZ k e).toNat=3)/\BC k.Os (BY k.mem (AZ k e)) (A4 k e)=true:=by intro e he;have:=h4 e he;unfold Dp at this;simp only[yt,xv,decide_eq_true_eq,Ac] at this;exact⟨this.1.1,this.1.2,this.2⟩
  refine⟨h1,h2.1,fun f hf=>XF (h2.2 f hf),h3,hl,fun e he=>(hE e he).1,fun e he=>?_,fun e he=>Fp.1 (hE e he).2.2,fun f hf ht w hw=>?_,fun f hf=>?_,fun x hx=>yk.1 h7 x hx⟩
  .rcases(hE e he).2.1 with a|⟨⟨a,b⟩,c⟩
   .exact .inl a
   .exact .inr ⟨a,b,c⟩
  .have:=h5 f hf
   unfold DY at this;unfold Av at ht;rw[ht,Bool.not_true,Bool.false_or,La] at this
   rcases Lb.1 (this w hw) with⟨a,b,c,_⟩|⟨_,a⟩
   .exact .inl ⟨a,b,c⟩
   .exact .inr a
  .have:=h6 f hf
   simpa[Gl] using this
 .intro h
  refine⟨⟨⟨⟨⟨⟨h.mem,?_⟩,h.zY⟩,?_⟩,fun f hf=>?_⟩,fun f hf=>?_⟩,yk.2 h.trans⟩
  .rw[A0]
   refine⟨h.len,fun f hf=>XG (h.inf f hf) (h.yR hf).1 (by have:=(h.yR hf).2;omega) (fun h0=>h.zu hf h0)⟩
  .unfold Ig
   simp only[yt,decide_eq_true_eq];refine⟨?_,h.zP⟩;rw[Q9 h.zP];intro e he;unfold Dp;simp only[yt,xv,decide_eq_true_eq,Ac];refine⟨⟨h.zV e he,?_⟩,Fp.2 (h.allow e he)⟩
   rcases h.roots e he with a|⟨a,b,c⟩
   .exact .inl a
   .exact .inr ⟨⟨a,b⟩,c⟩
  .unfold DY
   simp only[xv,uH];cases ht:Bb (zU k.Os f).k
   .exact .inl rfl
   .right
    rw[La];intro w hw;rw[Lb]
    rcases h.tabs f hf ht w hw with⟨a,b,c⟩|rfl
    .exact .inl ⟨a,b,c,Ym _⟩
    .exact .inr ⟨rfl,rfl⟩
  .simp[Gl,h.refs f hf]
theorem Gc {l:List AU} {x:AU}:zU (l.set f x) g=if g=f/\f<l.length then x else zU l g:=JO
theorem FR {l:List AU} {u:AU->AU}:zU (Ar l f u) g=if g=f/\f<l.length then u (zU l f) else zU l g:=MF
theorem GE {l:List EN} {u:EN->EN}:AJ (Ar l f u) g=if g=f/\f<l.length then u (AJ l f) else AJ l g:=MF
theorem DI.data {k:AN} (h:DI k) {f:Nat} (hf:f<12) (hk:Av k f=0∨Av k f=1) {row:List Int} (a3:Dh row=true) {x:AU} (hx:SP x) (cf:x.k=0∨x.k=1) (hr:x.r=(zU k.Os f).r)
 (bx:(x.k=Av k f/\x.g=(zU k.Os f).g)∨(zU k.Os f).r=0) {zY:List Ak} (hc:BQ zY=true) (ht:∀y∈zY,Cm k y=true):DI ⟨k.mem.set f row,k.Os.set f x,k.zZ,zY⟩:=by
 have cz:=(Ah.1 h.mem).1;have ao:∀g,g≠f->AH (k.mem.set f row) g=AH k.mem g:=fun g hg=>by rw[Nh,if_neg (by rintro⟨a,_⟩;exact hg a)]
 have an:∀g,g≠f->zU (k.Os.set f x) g=zU k.Os g:=fun g hg=>by rw[Gc,if_neg (by rintro⟨a,_⟩;exact hg a)]
 have az:zU (k.Os.set f x) f=x:=by rw[Gc,if_pos ⟨rfl,by rw[h.len];exact hf⟩]
 have a6:∀t,Bb (zU (k.Os.set f x) t).k=true->t≠f/\Bb (Av k t)=true:=by
  intro t ht
  by_cases e:t=f
  .subst e
   rw[az,HY] at ht;omega
  .rw[an t e] at ht
   exact⟨e,ht⟩
 have cm:∀t,Bb (Av k t)=true->t≠f:=by intro t ht e;subst e;rw[HY] at ht;omega
 have be:∀t g,t<12->Bb (Av k t)=true->g∈yz (AH k.mem t)->(zU (k.Os.set f x) g).k=Av k g/\(zU (k.Os.set f x) g).g=(zU k.Os g).g:=by
  intro t g ht ay hg
  by_cases e:g=f
  .subst e
   rw[az]
   rcases bx with hs|h0
   .exact hs
   .exact absurd hg ((h.unused hf h0).1 t ht ay)
  .rw[an g e];exact⟨rfl,rfl⟩
 have am:∀e,e<3->0<=AZ k e->(AZ k e).toNat≠f:=fun e he h0=>cm _ (by rw[(h.zA he h0).2];rfl)
 have bC:∀e,e<3->0<=AZ k e->∀t,t∈yz (AH k.mem (AZ k e).toNat)->t≠f:=fun e he h0 t ht=>cm _ (by rw[(h.zM he h0 ht).2];rfl)
 have bn:∀e,e<3->∀g,g∈BY (k.mem.set f row) (AZ k e)↔g∈BY k.mem (AZ k e):=fun e he=>OG (fun h0=>ao _ (am e he h0)) (fun h0 t ht=>ao _ (bC e he h0 t ht))
 refine⟨Re h.mem a3,by simp[h.len],fun g hg=>?_,hc,h.zP,h.zV,fun e he=>?_,fun e he g hg=>?_,fun t ht ay w hw=>?_,fun g hg=>?_,fun y hy=>?_⟩
 .by_cases e:g=f
  .subst e;rw[az];exact hx
  .rw[an g e];exact h.inf g hg
 .rcases h.roots e he with a|⟨a,b,c⟩
  .exact .inl a
  .refine .inr ⟨a,b,?_⟩
   show(zU (k.Os.set f x) (AZ k e).toNat).k=3
   rw[an _ (am e he a)];exact c
 .have a5:=(bn e he g).1 hg
  have hm:=h.allow e he g a5
  show Bv (A4 k e) (zU (k.Os.set f x) g).g=true
  obtain⟨h0,h1⟩:=DU.1 a5;have bz:=h.zA he h0;have e:(zU (k.Os.set f x) g).g=(zU k.Os g).g:=by
   rcases h1 with rfl|h1|⟨t,h1,h2⟩
   .rw[an _ (am e he h0)]
   .exact(be _ g bz.1 (by rw[bz.2];rfl) h1).2
   .have bX:=h.zM he h0 h1
    exact(be _ g bX.1 (by rw[bX.2];rfl) h2).2
  rw[e];exact hm
 .obtain⟨al,bg⟩:=a6 t ay
  rw[show AH (k.mem.set f row) t=AH k.mem t from ao t al] at hw
  rcases h.tabs t ht bg w hw with⟨a,b,c⟩|rfl
  .refine .inl ⟨a,b,?_⟩
   have:=(be t (A8 w) ht bg (FE.2 ⟨w,hw,a,rfl⟩)).1
   show(zU (k.Os.set f x) (A8 w)).k=(zU (k.Os.set f x) t).k - 1
   rw[this,an t al];exact c
  .exact .inr rfl
 .have bq:countP (k.mem.set f row) (k.Os.set f x) g=countP k.mem k.Os g:=by
   rw[EP,EP];refine J5 fun t ht=>?_
   unfold LX
   by_cases e:t=f
   .subst e
    rw[az,if_neg (by rw[HY];omega),if_neg (by rw[HY];unfold Av at hk;omega)]
   .rw[an t e,ao t e]
  show(zU (k.Os.set f x) g).r=(countP (k.mem.set f row) (k.Os.set f x) g:Int)+(EI k.zZ g:Int)
  rw[bq,<-h.refs g hg]
  by_cases e:g=f
  .subst e;rw[az,hr]
  .rw[an g e]
 .have h1:=ht y hy
  have bh:=(Ek.1 hc).1 y hy;unfold CU at bh;simp only[yt,Ac] at bh;have he:y.e.toNat<3:=by omega
  unfold Cm at h1 ⊢;simp only[yt,decide_eq_true_eq] at h1 ⊢;refine⟨h1.1,?_⟩;have hw:=QL (m:=k.mem) (m':=k.mem.set f row) (root:=(AZ k y.e.toNat).toNat) (a:=4*y.p.toNat) (ao _ (am _ he h1.1)) (fun t ht=>ao _ (bC _ he h1.1 t ht));exact hw.trans h1.2
theorem Nf {Os:List AU} {fs:List Nat} {n:Int}:(Bg Os fs n).length=Os.length:=by
 unfold Bg
 induction fs generalizing Os with
 |nil=>rfl
 |cons f fs ih=>rw[yA,ih,Cy]
theorem Mm {Os:List AU} {fs:List Nat} {n:Int} (hg:g<Os.length):zU (Bg Os fs n) g= {zU Os g with r:=(zU Os g).r+n*(fs.count g:Int)}:=by
 unfold Bg
 induction fs generalizing Os with
 |nil=>simp
 |cons f fs ih=>
  rw[yA,ih (by rw[Cy];exact hg),FR,tg]
  by_cases e:g=f
  .subst e
   rw[if_pos ⟨rfl,hg⟩];simp[JJ];rw[Int.mul_add];omega
  .rw[if_neg (by rintro⟨a,_⟩;exact e a)]
   have e':¬f=g:=fun a=>e a.symm
   simp[e']
theorem DI.retype {k:AN} (h:DI k) {f:Nat} (hf:f<12) (h0:(zU k.Os f).r=0) {kind n:Int} (cq:1<=kind) (cC:kind<=3) (cG:Av k f≠0)
 (hn:(n=1/\Bb (Av k f)=false/\Bb kind=true)∨(n= -1/\Bb (Av k f)=true/\Bb kind=false))
 (bj:Bb kind=true->∀w∈AH k.mem f,(Bf w=true/\A8 w≠f/\Av k (A8 w)=kind - 1)∨w=0):
 DI {k with Os:=Ar (Bg k.Os (yz (AH k.mem f)) n) f (EJ kind)}:=by
 obtain⟨u1,u2⟩:=h.unused hf h0;have hl:(Bg k.Os (yz (AH k.mem f)) n).length=12:=by rw[Nf,h.len]
 have ad:∀g,g<12->zU (Ar (Bg k.Os (yz (AH k.mem f)) n) f (EJ kind)) g= {(zU k.Os g) with k:=if g=f then kind else Av k g,r:=(zU k.Os g).r+n*((yz (AH k.mem f)).count g:Int)}:=by
  intro g hg;rw[FR,hl]
  by_cases e:g=f
  .subst e
   rw[if_pos ⟨rfl,hf⟩,Mm (by rw[h.len];exact hg)];simp[EJ]
  .rw[if_neg (by rintro⟨a,_⟩;exact e a),Mm (by rw[h.len];exact hg)]
   simp[e,Av]
 have cj:f∉yz (AH k.mem f):=by
  intro hm
  rcases hn with⟨_,_,c⟩|⟨_,b,_⟩
  .obtain⟨w,hw,h1,h2⟩:=FE.1 hm
   rcases bj c w hw with⟨_,a,_⟩|rfl
   .exact a h2
   .simp[Bf] at h1
  .exact u1 f hf b hm
 refine⟨h.mem,by rw[Cy];exact hl,fun g hg=>?_,h.zY,h.zP,h.zV,fun e he=>?_,fun e he g hg=>?_,fun t ht ay w hw=>?_,fun g hg=>?_,h.trans⟩
 .show SP (zU (Ar _ f (EJ kind)) g)
  rw[ad g hg]
  by_cases e:g=f
  .subst e
   rcases h.inf g hg with⟨a,b⟩|⟨a,b,c⟩
   .exact absurd a cG
   .right;simp;exact⟨cq,cC,c⟩
  .simp only[e,if_false]
   exact h.inf g hg
 .rcases h.roots e he with a|⟨a,b,c⟩
  .exact .inl a
  .refine .inr ⟨a,b,?_⟩
   show(zU (Ar _ f (EJ kind)) (AZ k e).toNat).k=3
   rw[ad _ (by omega)];have:(AZ k e).toNat≠f:=fun e'=>u2 e he (by omega)
   simp only[this,if_false];exact c
 .show Bv (A4 k e) (zU (Ar _ f (EJ kind)) g).g=true
  have:=h.allow e he g hg;rw[ad _ (h.zy he hg).1];exact this
 .have ai:Bb (zU (Ar (Bg k.Os (yz (AH k.mem f)) n) f (EJ kind)) t).k=true:=ay
  rw[ad t ht] at ai
  show(Bf w=true/\A8 w≠t/\(zU (Ar (Bg k.Os (yz (AH k.mem f)) n) f (EJ kind)) (A8 w)).k=(zU (Ar (Bg k.Os (yz (AH k.mem f)) n) f (EJ kind)) t).k - 1)∨w=0
  rw[ad t ht]
  by_cases e:t=f
  .subst e
   simp only[if_true] at ai
   rcases bj ai w hw with⟨a,b,c⟩|rfl
   .refine .inl ⟨a,b,?_⟩
    rw[ad _ (EH a)];simp only[if_true,b,if_false];exact c
   .exact .inr rfl
  .simp only[e,if_false] at ai
   rcases h.tabs t ht ai w hw with⟨a,b,c⟩|rfl
   .refine .inl ⟨a,b,?_⟩
    rw[ad _ (EH a)];have:A8 w≠f:=fun e'=>u1 t ht ai (FE.2 ⟨w,hw,a,e'⟩)
    simp only[this,if_false,e];exact c
   .exact .inr rfl
 .show(zU (Ar (Bg k.Os (yz (AH k.mem f)) n) f (EJ kind)) g).r=(countP k.mem (Ar (Bg k.Os (yz (AH k.mem f)) n) f (EJ kind)) g:Int)+(EI k.zZ g:Int)
  rw[ad g hg];have av:=Ll (F:=LX k.mem (Ar (Bg k.Os (yz (AH k.mem f)) n) f (EJ kind)) g) (G:=LX k.mem k.Os g) hf (fun t ht al=>by unfold LX;rw[ad t ht];simp only[al,if_false];rfl)
  rw[<-EP,<-EP] at av;have c1:LX k.mem (Ar (Bg k.Os (yz (AH k.mem f)) n) f (EJ kind)) g f=if Bb kind then(yz (AH k.mem f)).count g else 0:=by unfold LX;rw[ad f hf];simp
  have c2:LX k.mem k.Os g f=if Bb (Av k f) then(yz (AH k.mem f)).count g else 0:=rfl
  rw[c1,c2] at av;have:=h.refs g hg
  rcases hn with⟨rfl,a,b⟩|⟨rfl,a,b⟩
  .rw[a,b] at av
   simp at av ⊢;omega
  .rw[a,b] at av
   simp at av ⊢;omega
theorem FO {Os:List AU} (h:¬Am Os<0):(Am Os).toNat<Os.length/\(zU Os (Am Os).toNat).k=0/\0<=Am Os:=by
 unfold Am at h ⊢
 split
 .rename_i ha
  obtain⟨x,hx,hs⟩:=LW.1 ha;have hl:Os.findIdx (fun x=>decide (x.k=0))<Os.length:=vo.2 ⟨x,hx,hs⟩;refine⟨by simpa using hl,?_,by omega⟩;have:=vd (w:=hl);simpa[zU,hl] using this
 .rename_i ha
  rw[if_neg ha] at h;omega
theorem LJ {α:Type} {l:List α} {d:α}:l.set i (l.getD i d)=l:=by
 apply List.ext_getElem?;intro j;rw[vm]
 by_cases h:i=j
 .subst h
  by_cases h2:i<l.length
  .simp[h2]
  .simp[h2]
 .simp[h]
theorem ZA {k:AN} (h:DI k) {c:Ab}:DI (Io k c).1:=by
 unfold Io
 split
 .exact h
 .rename_i hn
  split
  .exact h
  .split
   .exact h
   .rename_i hf
    obtain⟨a,b,_⟩:=FO hf;rw[h.len] at a;have hr:=h.zu a b;refine h.data (x:=⟨1,c.nm,0⟩) a (.inl b) (by decide) (.inr ⟨by show(1:Int)<=1;omega,by show(1:Int)<=3;omega,by simpa using hn⟩) (.inr rfl) hr.symm (.inr hr) h.zY h.trans
theorem YR {k:AN} (h:DI k) {c:Ab} (ha:c.a.toNat<12):DI (Jw k c).1:=by
 unfold Jw
 split
 .exact h
 .rename_i hk
  split
  .exact h
  .rename_i hr
   have hr:(zU k.Os c.a.toNat).r=0:=by omega
   have:=h.data (x:=AU.zero) ha (.inr (by unfold Av;omega)) ((Ah.1 h.mem).2 _ ha) (.inl ⟨rfl,rfl⟩) (.inl rfl) hr.symm (.inr hr) h.zY h.trans;rw[show k.mem.set c.a.toNat (AH k.mem c.a.toNat)=k.mem from LJ] at this;exact this
theorem WZ {k:AN} (h:DI k) {f i:Nat} {w:Int} (hf:f<12) (hk:Av k f=1) (hw:Dy w=true) {zY:List Ak} (hc:BQ zY=true) (ht:∀y∈zY,Cm k y=true):DI {k with mem:=CZ k.mem f i w,zY:=zY}:=by have:=h.data (x:=zU k.Os f) hf (.inr hk) (Rq (i:=i) (w:=w) ((Ah.1 h.mem).2 _ hf) hw) (h.inf f hf) (.inr hk) rfl (.inl ⟨rfl,rfl⟩) hc ht;rw[show k.Os.set f (zU k.Os f)=k.Os from LJ] at this;rw[Mq];exact this
theorem Yy {k:AN} (h:DI k) {c:Ab} (ha:c.a.toNat<12):DI (J2 k c).1:=by
 unfold J2
 split
 .exact h
 .rename_i hn
  simp only[not_or] at hn;obtain⟨h1,h2,h3⟩:=hn;exact WZ h ha (by unfold Av;omega) (by simpa using h3) h.zY h.trans
theorem Rl {k:AN} (h:DI k) {r:List AU×Int} (hr:r.2=0->DI {k with Os:=r.1}):DI (EA k r).1:=by
 unfold EA
 split
 .exact hr ‹_›
 .exact h
theorem Zn {k:AN} (h:DI k) {f:Nat} (hf:f<12) {kind:Int} {zV:List ByteArray} (hk:Bb kind=true):(Gz k.mem k.Os f kind zV).2=0->DI {k with Os:=(Gz k.mem k.Os f kind zV).1}:=by
 unfold Gz
 split
 .intro h;simp at h
 .rename_i hn
  simp only[not_or,uV] at hn
  split
  .intro h;simp at h
  .rename_i hg
   have hg:Im k.mem k.Os f kind zV=true:=by simpa using hg
   split
   .intro _
    have cB:=HY.1 hk;refine h.retype hf hn.2 (by omega) (by omega) (by unfold Av;omega) (.inl ⟨rfl,?_,hk⟩) (fun _ w hw=>?_)
    .unfold Av;rw[hn.1];rfl
    .rcases Lb.1 (La.1 hg w hw) with⟨a,b,c,_⟩|⟨_,a⟩
     .exact .inl ⟨a,b,c⟩
     .exact .inr a
   .intro h;simp at h
theorem Xr {k:AN} (h:DI k) {f:Nat} (hf:f<12):(Di k.mem k.Os f).2=0->DI {k with Os:=(Di k.mem k.Os f).1}:=by
 unfold Di
 split
 .intro h;simp at h
 .rename_i hn
  simp only[not_or,uV,xl] at hn
  split
  .intro _
   have cB:=HY.1 hn.1;exact h.retype hf hn.2 (by omega) (by omega) (by unfold Av;omega) (.inr ⟨rfl,hn.1,rfl⟩) (fun hh=>by simp[Bb] at hh)
  .intro h;simp at h
theorem Cd {Os:List AU} {w n:Int}:(A3 Os w n).length=Os.length:=by
 unfold A3
 split
 .exact Cy
 .rfl
theorem FG {Os:List AU} {w n:Int} (hl:Os.length=12):zU (A3 Os w n) g= {zU Os g with r:=(zU Os g).r+n*(D5 (Db g w):Int)}:=by
 unfold A3
 split
 .rename_i hg
  rw[FR]
  by_cases e:g=A8 w
  .subst e
   rw[if_pos ⟨rfl,by rw[hl];exact EH hg⟩];simp[JJ,Db,hg,D5]
  .have e':¬A8 w=g:=fun x=>e x.symm
   rw[if_neg (by rintro⟨a,_⟩;exact e a)];simp[Db,hg,D5,e']
 .rename_i hg
  simp[Db,hg,D5]
theorem Nj {k:AN} {a:Nat}:e∈FY k a↔e<3/\a∈BY k.mem (AZ k e):=by simp[FY,AZ]
theorem Zr {k:AN} (h:DI k) {c:Ab} (ha:c.a.toNat<12) (cP:0<=c.c->c.c<=9999∨Bf c.c=true∨c.c=0->Dy c.c=true):DI (Gt k c).1:=by
 unfold Gt
 split
 .exact h
 rename_i hn
 simp only[not_or,xl] at hn;obtain⟨h1,h2,h3⟩:=hn;unfold Dg at h3
 split
 .exact h
 rename_i br
 have br:((FY k c.a.toNat).all fun e=>BC k.Os (DJ k c.c) (AJ k.zZ e).zV)=true:=by simpa using br
 split
 .exact h
 rename_i hmay
 generalize hfd:c.a.toNat=f at*;have hb:c.b.toNat<4:=by have:=Ac.1 h2;omega
 generalize hbd:c.b.toNat=b at*;generalize hwd:c.c=w at*;have hl:=h.len;have cz:=(Ah.1 h.mem).1;have cQ:=h.row ha;have b1:Bf w=true->Av k (A8 w)=Av k f - 1:=by intro hg;rw[if_pos hg] at h3;simpa[Av] using h3
 have cg:Bf w=false->w=0:=by intro hg;rw[if_neg (by simp[hg])] at h3;simpa using h3
 have cR:=HY.1 h1;have bw:Dy w=true:=by
  cases hg:Bf w
  .rw[cg hg];rfl
  .have a5:=hg
   simp only[Bf,yt,decide_eq_true_eq] at a5;refine Ac.2 ⟨by omega,by omega⟩
 have b0:Bf w=true->A8 w≠f:=by intro hg e;have:=b1 hg;rw[e] at this;omega
 have ad:∀g,zU (A3 (A3 k.Os (As k.mem f b) (-1)) w 1) g= {zU k.Os g with r:=(zU k.Os g).r+(-1)*(D5 (Db g (As k.mem f b)):Int)+1*(D5 (Db g w):Int)}:=by intro g;rw[FG (by rw[Cd];exact hl),FG hl]
 have ar:∀g,(zU (A3 (A3 k.Os (As k.mem f b) (-1)) w 1) g).k=Av k g:=fun g=>by rw[ad];rfl
 have bp:∀g,(zU (A3 (A3 k.Os (As k.mem f b) (-1)) w 1) g).g=(zU k.Os g).g:=fun g=>by rw[ad]
 have bb:AH (CZ k.mem f b w) f=(AH k.mem f).set b w:=by rw[Gn,if_pos ⟨rfl,by omega⟩]
 have a3:∀g,g≠f->AH (CZ k.mem f b w) g=AH k.mem g:=fun g hg=>by rw[Gn,if_neg (by rintro⟨a,_⟩;exact hg a)]
 have a4:∀t g,g∈yz (AH (CZ k.mem f b w) t)->g∈yz (AH k.mem t)∨(t=f/\Bf w=true/\A8 w=g):=by
  intro t g hg
  by_cases e:t=f
  .subst e
   rw[bb] at hg
   rcases Qi hg with a|a
   .exact .inl a
   .exact .inr ⟨rfl,a⟩
  .rw[a3 t e] at hg
   exact .inl hg
 have cl:∀e,e<3->f∉BY k.mem (AZ k e)->(0<=AZ k e->AH (CZ k.mem f b w) (AZ k e).toNat=AH k.mem (AZ k e).toNat)/\(0<=AZ k e->∀t,t∈yz (AH k.mem (AZ k e).toNat)->AH (CZ k.mem f b w) t=AH k.mem t):=by
  intro e he bB;rw[DU] at bB;refine⟨fun h0=>a3 _ (fun e'=>bB ⟨h0, .inl e'.symm⟩),fun h0 t ht=>a3 _ (fun e'=>bB ⟨h0, .inr (.inl (e'▸ht))⟩)⟩
 refine⟨?_,by rw[Cd,Cd];exact hl,fun g hg=>?_,Tx h.zY,h.zP,h.zV,fun e he=>?_,fun e he g hg=>?_,fun t ht ay x hx=>?_,fun g hg=>?_,fun y hy=>?_⟩
 .show Bs (CZ k.mem f b w)=true
  rw[Mq];exact Re h.mem (Rq ((Ah.1 h.mem).2 f ha) bw)
 .show SP (zU (A3 (A3 k.Os (As k.mem f b) (-1)) w 1) g)
  rw[ad];exact h.inf g hg
 .rcases h.roots e he with x|⟨x,y,z⟩
  .exact .inl x
  .exact .inr ⟨x,y,by show(zU (A3 (A3 k.Os (As k.mem f b) (-1)) w 1) (AZ k e).toNat).k=3;rw[ar];exact z⟩
 .show Bv (A4 k e) (zU (A3 (A3 k.Os (As k.mem f b) (-1)) w 1) g).g=true
  rw[bp]
  by_cases hr:f∈BY k.mem (AZ k e)
  .have hu:∀g,g∈DJ k w->Bv (A4 k e) (zU k.Os g).g=true:=Fp.1 (yk.1 br e (Nj.2 ⟨he,hr⟩))
   have aq:∀g,Bf w=true->(A8 w=g∨(Bb (Av k (A8 w))=true/\g∈yz (AH k.mem (A8 w))))->g∈DJ k w:=by
    intro g hg hh;unfold DJ;rw[if_pos hg]
    rcases hh with rfl|⟨h1,h2⟩
    .exact vY ..
    .unfold Av at h1
     rw[if_pos h1];exact uO _ h2
   obtain⟨h0,a5⟩:=DU.1 hg
   change 0<=AZ k e at h0
   have old:∀g,(g=(AZ k e).toNat∨g∈yz (AH k.mem (AZ k e).toNat)∨∃t,t∈yz (AH k.mem (AZ k e).toNat)/\g∈yz (AH k.mem t))->Bv (A4 k e) (zU k.Os g).g=true:=fun g hh=>h.allow e he g (DU.2 ⟨h0,hh⟩)
   rcases a5 with a5|a5|⟨t,ht,a5⟩
   .exact old g (.inl a5)
   .rcases a4 _ _ a5 with a|⟨_,a,b⟩
    .exact old g (.inr (.inl a))
    .exact hu g (aq g a (.inl b))
   .rcases a4 _ _ a5 with a|⟨_,a,b⟩
    .rcases a4 _ _ ht with a'|⟨er,a',b'⟩
     .exact old g (.inr (.inr ⟨t,a',a⟩))
     .have bz:=(h.zA he h0).2
      change (AZ k e).toNat=f at er
      rw[er] at bz;refine hu g (aq g a' (.inr ⟨?_,by rw[b'];exact a⟩));rw[b1 a',bz];rfl
    .exact hu g (aq g a (.inl b))
  .obtain⟨r0,r1⟩:=cl e he hr
   exact h.allow e he g ((OG r0 r1 g).1 hg)
 .have ai:Bb (zU (A3 (A3 k.Os (As k.mem f b) (-1)) w 1) t).k=true:=ay
  rw[ar] at ai
  show(Bf x=true/\A8 x≠t/\(zU (A3 (A3 k.Os (As k.mem f b) (-1)) w 1) (A8 x)).k=(zU (A3 (A3 k.Os (As k.mem f b) (-1)) w 1) t).k - 1)∨x=0
  rw[ar,ar];have bi:x∈AH (CZ k.mem f b w) t:=hx
  by_cases e:t=f
  .subst e
   rw[bb] at bi
   rcases vF bi with bi|rfl
   .exact h.tabs t ht ai x bi
   .cases hg:Bf x
    .exact .inr (cg hg)
    .exact .inl ⟨rfl,b0 hg,b1 hg⟩
  .rw[a3 t e] at bi
   exact h.tabs t ht ai x bi
 .show(zU (A3 (A3 k.Os (As k.mem f b) (-1)) w 1) g).r=(countP (CZ k.mem f b w) (A3 (A3 k.Os (As k.mem f b) (-1)) w 1) g:Int)+(EI k.zZ g:Int)
  have av:=Ll (F:=LX (CZ k.mem f b w) (A3 (A3 k.Os (As k.mem f b) (-1)) w 1) g) (G:=LX k.mem k.Os g) ha (fun t ht al=>by unfold LX;rw[ar,a3 t al];rfl)
  rw[<-EP,<-EP] at av;have c1:LX (CZ k.mem f b w) (A3 (A3 k.Os (As k.mem f b) (-1)) w 1) g f=(yz ((AH k.mem f).set b w)).count g:=by unfold LX;rw[ar,bb];exact if_pos h1
  have c2:LX k.mem k.Os g f=(yz (AH k.mem f)).count g:=if_pos h1;have c3:(yz ((AH k.mem f).set b w)).count g+D5 (Db g (As k.mem f b))=(yz (AH k.mem f)).count g+D5 (Db g w):=XT (show b<(AH k.mem f).length by omega);rw[c1,c2] at av;have:=h.refs g hg;rw[ad];simp only;omega
 .obtain⟨bv,cd⟩:=Wt.1 hy
  have h4:=h.trans y bv;have bh:=(Ek.1 h.zY).1 y bv;unfold CU at bh;simp only[yt,Ac] at bh;have he:y.e.toNat<3:=by omega
  have bB:f∉BY k.mem (AZ k y.e.toNat):=fun hr=>cd y.e.toNat (Nj.2 ⟨he,hr⟩) (by omega)
  obtain⟨r0,r1⟩:=cl _ he bB;unfold Cm at h4 ⊢;simp only[yt,decide_eq_true_eq] at h4 ⊢;exact⟨h4.1,(QL (a:=4*y.p.toNat) (r0 h4.1) (r1 h4.1)).trans h4.2⟩
def F6 (Os:List AU) (old new:Int):List AU:=
 if 0<=new then Ar (if 0<=old then Ar Os old.toNat (JJ (-1)) else Os) new.toNat (JJ 1) else(if 0<=old then Ar Os old.toNat (JJ (-1)) else Os)
theorem V5 {Os:List AU} {old new:Int}:(F6 Os old new).length=Os.length:=by
 unfold F6
 split<;>split<;>simp[Cy]
theorem Rp {Os:List AU} {old new:Int} (hl:Os.length=12) (hg:g<12):zU (F6 Os old new) g= {zU Os g with r:=(zU Os g).r - (D5 (decide (old=(g:Int))):Int)+(D5 (decide (new=(g:Int))):Int)}:=by
 have h1:zU (if 0<=old then Ar Os old.toNat (JJ (-1)) else Os) g= {zU Os g with r:=(zU Os g).r - (D5 (decide (old=(g:Int))):Int)}:=by
  split
  .rw[FR]
   by_cases e:g=old.toNat
   .rw[if_pos ⟨e,by omega⟩,<-e]
    have:old=(g:Int):=by omega
    simp[JJ,D5,this];omega
   .rw[if_neg (by rintro⟨a,_⟩;exact e a)]
    have:¬old=(g:Int):=by omega
    simp[D5,this]
  .have:¬old=(g:Int):=by omega
   simp[D5,this]
 have h2:(if 0<=old then Ar Os old.toNat (JJ (-1)) else Os).length=12:=by split<;>simp[Cy,hl]
 unfold F6
 split
 .rw[FR,h2]
  by_cases e:g=new.toNat
  .rw[if_pos ⟨e,by omega⟩,<-e,h1]
   have:new=(g:Int):=by omega
   simp[JJ,D5,this]
  .rw[if_neg (by rintro⟨a,_⟩;exact e a),h1]
   have:¬new=(g:Int):=by omega
   simp[D5,this]
 .rw[h1]
  have:¬new=(g:Int):=by omega
  simp[D5,this]
theorem Xi {zZ:List EN} (hl:zZ.length=3) {e g:Nat} (he:e<3) {n:Int}:EI (Ar zZ e (Dk n)) g+D5 (decide ((AJ zZ e).root=(g:Int)))=EI zZ g+D5 (decide (n=(g:Int))):=by
 rw[Gm (by rw[Cy];exact hl),Gm hl];simp only[GE,hl];have:e=0∨e=1∨e=2:=by omega
 rcases this with rfl|rfl|rfl<;>simp[Dk]<;>omega
theorem V6 {zZ:List EN} (hl:zZ.length=3) {e g:Nat} {ss:List ByteArray}:EI (Ar zZ e (BV ss)) g=EI zZ g:=by
 rw[Gm (by rw[Cy];exact hl),Gm hl];simp only[GE]
 by_cases h0:0=e/\e<zZ.length<;>by_cases h1:1=e/\e<zZ.length<;>by_cases h2:2=e/\e<zZ.length<;>simp only[h0,h1,h2,if_true,if_false,BV]<;>(try (obtain⟨rfl,_⟩:=h0))<;>(try (obtain⟨rfl,_⟩:=h1))<;>(try (obtain⟨rfl,_⟩:=h2))<;>simp
theorem Y3 {k:AN} (h:DI k) {c:Ab} (he:0<=c.e/\c.e<=2):DI (OK k c).1:=by
 unfold OK
 split
 .exact h
 rename_i h1
 split
 .exact h
 rename_i h2
 have h2:BC k.Os (BY k.mem c.a) (A4 k c.e.toNat)=true:=by simpa[A4] using h2
 rw[Fp] at h2;have bD:c.e.toNat<3:=by omega
 generalize hed:c.e.toNat=e at*;generalize c.a=n at*;have h1:n= -1∨(0<=n/\n<=11/\Av k n.toNat=3):=by
  by_cases hn:n= -1
  .exact .inl hn
  .right
   have h1:¬(Bd n 0 11=false∨(zU k.Os n.toNat).k≠3):=fun hh=>h1 ⟨hn,hh⟩
   simp only[not_or,xl,uV] at h1;have:=Ac.1 h1.1;exact⟨this.1,this.2,h1.2⟩
 show DI ⟨k.mem,F6 k.Os (AZ k e) n,Ar k.zZ e (Dk n),Fu k.zY c.e⟩
 have ad:=fun g (hg:g<12)=>Rp (Os:=k.Os) (old:=AZ k e) (new:=n) (g:=g) h.len hg
 have a0:∀j,AJ (Ar k.zZ e (Dk n)) j=if j=e then⟨A4 k e,n⟩ else AJ k.zZ j:=by
  intro j;rw[GE,h.zP]
  by_cases hj:j=e
  .rw[if_pos ⟨hj,bD⟩,if_pos hj];rfl
  .rw[if_neg (by rintro⟨a,_⟩;exact hj a),if_neg hj]
 refine⟨h.mem,by rw[V5];exact h.len,fun g hg=>?_,Tw h.zY,by rw[Cy];exact h.zP,fun j hj=>?_,fun j hj=>?_,fun j hj g hg=>?_,fun t ht ay x hx=>?_,fun g hg=>?_,fun y hy=>?_⟩
 .show SP (zU (F6 _ _ _) g)
  rw[ad g hg];exact h.inf g hg
 .show BO (AJ (Ar k.zZ e (Dk n)) j).zV=true
  rw[a0]
  split
  .exact h.zV e bD
  .exact h.zV j hj
 .show(AJ (Ar k.zZ e (Dk n)) j).root= -1∨(0<=(AJ (Ar k.zZ e (Dk n)) j).root/\(AJ (Ar k.zZ e (Dk n)) j).root<=11/\(zU (F6 k.Os (AZ k e) n) (AJ (Ar k.zZ e (Dk n)) j).root.toNat).k=3)
  rw[a0]
  split
  .rcases h1 with h1|⟨a,b,d⟩
   .exact .inl h1
   .refine .inr ⟨a,b,?_⟩
    rw[ad _ (by simp;omega)];exact d
  .rcases h.roots j hj with x|⟨x,y,z⟩
   .exact .inl x
   .refine .inr ⟨x,y,?_⟩
    have hx:(AJ k.zZ j).root=AZ k j:=rfl;rw[hx,ad _ (by omega)];exact z
 .have ba:g∈BY k.mem (AJ (Ar k.zZ e (Dk n)) j).root:=hg
  show Bv (AJ (Ar k.zZ e (Dk n)) j).zV (zU (F6 k.Os (AZ k e) n) g).g=true
  rw[a0] at ba ⊢
  by_cases bZ:j=e
  .simp only[bZ,if_true] at ba ⊢
   have b6:g<12:=by
    obtain⟨h0,hh⟩:=DU.1 ba
    rcases hh with rfl|hh|⟨t,_,hh⟩
    .rcases h1 with h1|h1<;>omega
    .exact FD hh
    .exact FD hh
   rw[ad g b6];exact h2 g ba
  .simp only[bZ,if_false] at ba ⊢
   rw[ad g (h.zy hj ba).1];exact h.allow j hj g ba
 .have ai:Bb (zU (F6 k.Os (AZ k e) n) t).k=true:=ay
  rw[ad t ht] at ai
  show(Bf x=true/\A8 x≠t/\(zU (F6 k.Os (AZ k e) n) (A8 x)).k=(zU (F6 k.Os (AZ k e) n) t).k - 1)∨x=0
  rcases h.tabs t ht ai x hx with⟨a,b,d⟩|rfl
  .refine .inl ⟨a,b,?_⟩
   rw[ad t ht,ad _ (EH a)];exact d
  .exact .inr rfl
 .show(zU (F6 k.Os (AZ k e) n) g).r=(countP k.mem (F6 k.Os (AZ k e) n) g:Int)+(EI (Ar k.zZ e (Dk n)) g:Int)
  have hc:countP k.mem (F6 k.Os (AZ k e) n) g=countP k.mem k.Os g:=by
   rw[EP,EP];refine J5 fun t ht=>?_
   unfold LX;rw[ad t ht]
  have hr:=Xi (g:=g) h.zP bD (n:=n);have:=h.refs g hg;rw[hc,ad g hg];have e':(AJ k.zZ e).root=AZ k e:=rfl;rw[e'] at hr;simp only;omega
 .obtain⟨bv,cd⟩:=Q3.1 hy
  have h4:=h.trans y bv;have bh:=(Ek.1 h.zY).1 y bv;unfold CU at bh;simp only[yt,Ac] at bh;have al:y.e.toNat≠e:=by omega
  unfold Cm at h4 ⊢;rw[show AJ (AN.zZ ⟨k.mem,F6 k.Os (AZ k e) n,Ar k.zZ e (Dk n),Fu k.zY c.e⟩) y.e.toNat=AJ k.zZ y.e.toNat from by show AJ (Ar k.zZ e (Dk n)) y.e.toNat=_;rw[a0,if_neg al]];exact h4
theorem DI.zj {k:AN} (h:DI k) {e:Nat} (he:e<3) {ss:List ByteArray} (hs:BO ss=true) (ha:∀f,f∈BY k.mem (AZ k e)->Bv ss (zU k.Os f).g=true):DI {k with zZ:=Ar k.zZ e (BV ss)}:=by
 have a0:∀j,AJ (Ar k.zZ e (BV ss)) j=if j=e then⟨ss,AZ k e⟩ else AJ k.zZ j:=by
  intro j;rw[GE,h.zP]
  by_cases hj:j=e
  .rw[if_pos ⟨hj,he⟩,if_pos hj];rfl
  .rw[if_neg (by rintro⟨a,_⟩;exact hj a),if_neg hj]
 have am:∀j,(AJ (Ar k.zZ e (BV ss)) j).root=AZ k j:=by
  intro j;rw[a0]
  split
  .rename_i hj;rw[hj]
  .rfl
 refine⟨h.mem,h.len,h.inf,h.zY,by rw[Cy];exact h.zP,fun j hj=>?_,fun j hj=>?_,fun j hj g hg=>?_,h.tabs,fun g hg=>?_,fun y hy=>?_⟩
 .show BO (AJ (Ar k.zZ e (BV ss)) j).zV=true
  rw[a0]
  split
  .exact hs
  .exact h.zV j hj
 .show(AJ (Ar k.zZ e (BV ss)) j).root= -1∨(0<=(AJ (Ar k.zZ e (BV ss)) j).root/\(AJ (Ar k.zZ e (BV ss)) j).root<=11/\(zU k.Os (AJ (Ar k.zZ e (BV ss)) j).root.toNat).k=3)
  rw[am];exact h.roots j hj
 .have ba:g∈BY k.mem (AJ (Ar k.zZ e (BV ss)) j).root:=hg
  show Bv (AJ (Ar k.zZ e (BV ss)) j).zV (zU k.Os g).g=true
  rw[am] at ba;rw[a0]
  split
  .rename_i bZ
   rw[bZ] at ba;exact ha g ba
  .exact h.allow j hj g ba
 .show(zU k.Os g).r=(countP k.mem k.Os g:Int)+(EI (Ar k.zZ e (BV ss)) g:Int)
  rw[V6 h.zP];exact h.refs g hg
 .have h4:=h.trans y hy
  unfold Cm at h4 ⊢;rw[show(AJ (AN.zZ {k with zZ:=Ar k.zZ e (BV ss)}) y.e.toNat).root=(AJ k.zZ y.e.toNat).root from am _];exact h4
theorem XE {k:AN} (h:DI k) {c:Ab}:DI (Kx k c).1:=by
 unfold Kx
 split
 .exact h
 rename_i h1
 simp only[not_or,xl] at h1;have:=Ac.1 h1.1
 split
 .exact h
 split
 .exact h
 exact h.zj (by omega) (YB (h.zV _ (by omega)) h1.2) (fun f hf=>XR (fun s hs=>YA hs) (h.allow _ (by omega) f hf))
theorem V3 {k:AN} (h:DI k) {c:Ab}:DI (Jg k c).1:=by
 unfold Jg
 split
 .exact h
 rename_i h1
 simp only[not_or,xl] at h1;have:=Ac.1 h1.1
 split
 .exact h
 split
 .exact h
 rename_i h3
 have h3:=Fp.1 (show BC k.Os (BY k.mem (AZ k c.a.toNat)) (DB (AJ k.zZ c.a.toNat).zV c.nm)=true by simpa[AZ] using h3);exact h.zj (by omega) (Wu (h.zV _ (by omega))) h3
theorem Zv {k:AN} (h:DI k) {c:Ab} (he:0<=c.e/\c.e<=2):DI (QI k c).1:=by
 unfold QI;simp only
 split
 .exact h
 rename_i h1
 simp only[not_or,xl] at h1;obtain⟨ha,hr,hb⟩:=h1
 split
 .exact h
 rename_i hw
 split
 .exact h
 have bD:c.e.toNat<3:=by omega
 have hr:0<=AZ k c.e.toNat:=by unfold AZ;omega
 have hw:(Bu k.mem (AZ k c.e.toNat).toNat c.a.toNat).1=0:=by simpa[AZ] using hw
 obtain⟨hf,hk,_⟩:=h.yS bD hr hw;have ha:=Ac.1 ha;have hC:BQ (if Hj k.zY c.e (c.a/4)<0 then Mk k.zY ⟨c.e,c.a/4,((Bu k.mem (AZ k c.e.toNat).toNat c.a.toNat).2.1:Nat),(Bu k.mem (AZ k c.e.toNat).toNat c.a.toNat).2.2⟩ else k.zY)=true:=by
  split
  .refine Wa h.zY ?_
   simp only[CU,yt,Ac];omega
  .exact h.zY
 have hT:∀y∈(if Hj k.zY c.e (c.a/4)<0 then Mk k.zY ⟨c.e,c.a/4,((Bu k.mem (AZ k c.e.toNat).toNat c.a.toNat).2.1:Nat),(Bu k.mem (AZ k c.e.toNat).toNat c.a.toNat).2.2⟩ else k.zY),Cm k y=true:=by
  intro y hy
  split at hy
  .rcases Uh hy with rfl|hy
   .unfold Cm
    simp only[yt,decide_eq_true_eq];refine⟨hr,?_⟩;have e1:4*(c.a/4).toNat/16=c.a.toNat/16:=by omega
    have e2:4*(c.a/4).toNat/4%4=c.a.toNat/4%4:=by omega
    have e3:Bu k.mem (AJ k.zZ c.e.toNat).root.toNat (4*(c.a/4).toNat)=Bu k.mem (AZ k c.e.toNat).toNat c.a.toNat:=by unfold Bu;rw[e1,e2];rfl
    rw[e3,xY];exact Prod.ext hw rfl
   .exact h.trans y hy
  .exact h.trans y hy
 split
 .rename_i h11
  refine WZ h hf hk ?_ hC hT;simp only[not_and,xl] at hb;exact hb h11
 .have:=h.data (x:=zU k.Os (Bu k.mem (AZ k c.e.toNat).toNat c.a.toNat).2.1) hf (.inr hk) ((Ah.1 h.mem).2 _ hf) (h.inf _ hf) (.inr hk) rfl (.inl ⟨rfl,rfl⟩) hC hT
  rw[show k.Os.set _ (zU k.Os (Bu k.mem (AZ k c.e.toNat).toNat c.a.toNat).2.1)=k.Os from LJ,show k.mem.set _ (AH k.mem (Bu k.mem (AZ k c.e.toNat).toNat c.a.toNat).2.1)=k.mem from LJ] at this;exact this
theorem Wy {k:AN} (h:DI k) {c:Ab}:DI (Gb k c).1:=by
 unfold Gb
 split
 .exact h
 rename_i h1
 simp only[not_or,xl,not_and] at h1;have ha:=Ac.1 h1.1;have bV:c.a.toNat<12:=by omega
 split
 .exact h
 split
 .exact YR h bV
 split
 .exact Yy h bV
 split
 .rename_i h4
  exact Rl h (Zn h bV (h1.2.2 h4))
 split
 .exact Rl h (Xr h bV)
 exact Zr h bV (fun h0 hh=>by
  rcases hh with hh|hh|hh
  .exact Ac.2 ⟨h0,hh⟩
  .simp only[Bf,yt,decide_eq_true_eq] at hh
   exact Ac.2 ⟨by omega,by omega⟩
  .rw[hh];rfl)
theorem MV {k:AN} (h:DI k) {c:Ab} (he:0<=c.e/\c.e<=2):DI (Ad k c).1:=by
 unfold Ad
 split
 .exact ZA h
 split
 .exact Wy h
 split
 .exact Y3 h he
 split
 .exact XE h
 split
 .exact V3 h
 split
 .exact Zv h he
 .exact h
structure Bi where
 w:Int
 a:Int
 u:Bool
 deriving DecidableEq
structure AR where
 zX:AN
 swap:List (List Int)
 low:List Int
 No:List Bi
 zT:Int
 zW:Int
 deriving DecidableEq
def gA:ByteArray:=⟨#[97]⟩
def AB (l:List Bi) (n:Nat):Bi:=l.getD n ⟨0,0,false⟩
def BG (l:List Int) (n:Nat):Int:=l.getD n 0
def Ey (s:List (List Int)):Bool:=s.all (fun r=>r.isEmpty||Dh r)&&decide (s.length=16)
def Gv (f:Int):Int:=4*f+3
def Fi (Os:List AU) (f:Nat):Bool:=decide ((zU Os f).g=gA)&&decide ((zU Os f).r=1)
def FU (p:AR) (i:Nat):Bool:=Bd (BG p.low i) 0 11&&decide (As p.zX.mem (AZ p.zX 0).toNat i=Gv (BG p.low i))&&Fi p.zX.Os (BG p.low i).toNat
def Bt (p:AR):Bool:=decide (0<=AZ p.zX 0)&&decide (p.low.length=4)&&Fi p.zX.Os (AZ p.zX 0).toNat&&(yE 4).all (FU p)
def Br (p:AR) (n:Nat):Int:=As p.zX.mem (BG p.low (n/4)).toNat (n%4)
def GG (p:AR) (n:Nat):Bool:=
 if(AB p.No n).w=0 then decide ((AB p.No n).a=0)&&!(AB p.No n).u&&decide (Br p n=0)
 else if(AB p.No n).w=1 then Bd (AB p.No n).a 0 11&&decide (Br p n=Gv (AB p.No n).a)&&Fi p.zX.Os (AB p.No n).a.toNat
 else if(AB p.No n).w=2 then Bd (AB p.No n).a 0 15&&!(AH p.swap (AB p.No n).a.toNat).isEmpty&&!(AB p.No n).u&&decide (Br p n=0)
 else false
def Cu (s:Nat) (x:Bi):Bool:=decide (x.w=2)&&decide (x.a=(s:Int))
def CJ (No:List Bi) (s:Nat):Nat:=No.countP (Cu s)
def Dl (p:AR) (s:Nat):Bool:=decide (CJ p.No s=if(AH p.swap s).isEmpty then 0 else 1)
def GV (k:AN):Bool:=Bv (A4 k 0) gA&&!Bv (A4 k 1) gA&&!Bv (A4 k 2) gA
def NW (w:Int) (x:Bi):Bool:=decide (x.w=w)
def Ai (No:List Bi) (w:Int):Nat:=No.countP (NW w)
def Bz (p:AR):Bool:=
 Cj p.zX&&Ey p.swap&&GV p.zX&&Bt p&&decide (p.No.length=16)&&(yE 16).all (Dl p)&&(yE 16).all (GG p)&&Bd p.zT 0 15&&Bd p.zW 1 6&&decide ((Ai p.No 1:Int)<=p.zW)
def Ag (kind a b c:Int):Ab:=⟨kind,0,a,b,c,gA⟩
def II (p:AR) (n:Nat) (w:Int):Ab:=Ag 6 (BG p.low (n/4)) ((n%4:Nat):Int) w
def EV (h:Int):Int:=(h+1)%16
def Mv (x:Bi):Bi:= {x with u:=false}
def CQ:Nat->List Bi->Int->List Bi×Int×Option Nat
 |0,No,zT=>(No,zT,none)
 |n+1,No,zT=>
  if(AB No zT.toNat).w=1/\(AB No zT.toNat).u=false then(No,EV zT,some zT.toNat)
  else CQ n (No.set zT.toNat (Mv (AB No zT.toNat))) (EV zT)
def BW (s:List (List Int)):Int:=if s.any uG then(s.findIdx uG:Nat) else -1
def EF (p:AR) (n:Nat):AR:=
 {p with zX:=(Ad (Ad p.zX (II p n 0)).1 (Ag 2 (AB p.No n).a 0 0)).1,swap:=p.swap.set (BW p.swap).toNat (AH p.zX.mem (AB p.No n).a.toNat),No:=p.No.set n ⟨2,BW p.swap,false⟩}
def Uf (k:AN) (f:Int) (ws:List Int):AN:=(yE 4).foldl (fun k i=>(Ad k (Ag 3 f (i:Nat) (ws.getD i 0))).1) k
def OR (p:AR) (n:Nat):AR×Bool:=
 let r:=Ad p.zX (Ag 1 0 0 0)
 if r.2.2≠0 then(p,false)
 else
  let x:=AB p.No n
  let k2:=if x.w=2 then Uf r.1 r.2.1 (AH p.swap x.a.toNat) else r.1
  ({p with zX:=(Ad k2 (II p n (Gv r.2.1))).1,swap:=if x.w=2 then p.swap.set x.a.toNat [] else p.swap,No:=p.No.set n ⟨1,r.2.1,true⟩},true)
def Ee (No:List Bi) (n:Nat):List Bi:=No.set n {AB No n with u:=true}
def IS (p:AR):Bool:=decide (Am p.zX.Os<0)||decide ((Ai p.No 1:Int)=p.zW)
def BI (p:AR) (n:Nat):AR×Bool:=
 if(AB p.No n).w=1 then({p with No:=Ee p.No n},true)
 else if Am p.zX.Os<0/\Ai p.No 1=0 then(p,false)
 else if IS p then
  match CQ 32 p.No p.zT with
  |(No,zT,some m)=>OR (EF {p with No:=No,zT:=zT} m) n
  |(_,_,none)=>(p,false)
 else OR p n
def Kb (p:AR) (a:Nat):AR×Int×Bool:=
 let t:=BI p (a/4)
 if t.2 then({t.1 with zX:=(Ad t.1.zX (Ag 10 (a:Int) 0 0)).1},(Ad t.1.zX (Ag 10 (a:Int) 0 0)).2.1,true) else(t.1,0,false)
def Ik (p:AR) (a:Nat) (w:Int):AR×Bool:=
 let t:=BI p (a/4)
 if t.2 then({t.1 with zX:=(Ad t.1.zX (Ag 11 (a:Int) w 0)).1},true) else(t.1,false)
def Nb (p:AR) (c:Ab):AR×Int:=({p with zX:=(Ad p.zX c).1},(Ad p.zX c).2.2)
def Fn (p:AR) (a:Nat):Int:=
 if(AB p.No (a/4)).w=1 then As p.zX.mem (AB p.No (a/4)).a.toNat (a%4)
 else if(AB p.No (a/4)).w=2 then As p.swap (AB p.No (a/4)).a.toNat (a%4) else 0
def Kf (Os:List AU) (f:Nat):Prop:=(zU Os f).g=gA/\(zU Os f).r=1
theorem Rf {Os:List AU}:Fi Os f=true↔Kf Os f:=by simp[Fi,Kf]
def KB (p:AR) (n:Nat):Prop:=
 ((AB p.No n).w=0/\(AB p.No n).a=0/\(AB p.No n).u=false/\Br p n=0)∨
 ((AB p.No n).w=1/\(0<=(AB p.No n).a/\(AB p.No n).a<=11)/\Br p n=Gv (AB p.No n).a/\Kf p.zX.Os (AB p.No n).a.toNat)∨
 ((AB p.No n).w=2/\(0<=(AB p.No n).a/\(AB p.No n).a<=15)/\AH p.swap (AB p.No n).a.toNat≠[]/\(AB p.No n).u=false/\Br p n=0)
theorem Is {α:Type} {l:List α}:l.isEmpty=true↔l=[]:=List.isEmpty_iff
theorem Vy {p:AR}:GG p n=true↔KB p n:=by
 unfold GG KB
 by_cases h0:(AB p.No n).w=0
 .simp[h0,and_assoc]
 .by_cases h1:(AB p.No n).w=1
  .simp[h1,and_assoc,Ac,Rf]
  .by_cases h2:(AB p.No n).w=2
   .simp[h2,and_assoc,Ac]
   .simp[h0,h1,h2]
structure EC (p:AR):Prop where
 k:DI p.zX
 zF:p.swap.length=16
 zx:∀s,s<16->AH p.swap s=[]∨Dh (AH p.swap s)=true
 may:Bv (A4 p.zX 0) gA=true
 alone:∀e,1<=e->e<3->Bv (A4 p.zX e) gA=false
 root:0<=AZ p.zX 0
 zv:p.low.length=4
 yO:Kf p.zX.Os (AZ p.zX 0).toNat
 lows:∀i,i<4->0<=BG p.low i/\BG p.low i<=11/\As p.zX.mem (AZ p.zX 0).toNat i=Gv (BG p.low i)/\Kf p.zX.Os (BG p.low i).toNat
 zQ:p.No.length=16
 slots:∀s,s<16->CJ p.No s=if(AH p.swap s).isEmpty then 0 else 1
 No:∀n,n<16->KB p n
 zT:0<=p.zT/\p.zT<=15
 zW:1<=p.zW/\p.zW<=6
 count:(Ai p.No 1:Int)<=p.zW
theorem F7 {s:List (List Int)}:Ey s=true↔s.length=16/\∀i,i<16->AH s i=[]∨Dh (AH s i)=true:=by
 simp only[Ey,yt,yk,decide_eq_true_eq,xv,Is];constructor
 .rintro⟨h1,h2⟩
  exact⟨h2,fun f hf=>h1 _ (DG (by omega))⟩
 .rintro⟨h1,h2⟩
  refine⟨fun r hr=>?_,h1⟩;obtain⟨i,hi,rfl⟩:=IV (d:=[]) hr;exact h2 i (by omega)
theorem Ep {p:AR}:Bz p=true↔EC p:=by
 unfold Bz Bt GV;simp only[yt,Li,Vy,Ac,decide_eq_true_eq,EU,F7,Dl,FU,Rf,uH];constructor
 .rintro⟨⟨⟨⟨⟨⟨⟨⟨⟨h1,h2⟩,h3⟩,h4⟩,h5⟩,h6⟩,h7⟩,h8⟩,h9⟩,h10⟩
  obtain⟨⟨⟨a,b⟩,c⟩,d⟩:=h4;refine⟨h1,h2.1,h2.2,h3.1.1,fun e he cS=>?_,a,b,c,fun i hi=>?_,h5,h6,h7,h8,h9,h10⟩
  .have:e=1∨e=2:=by omega
   rcases this with rfl|rfl
   .exact h3.1.2
   .exact h3.2
  .obtain⟨⟨x,y⟩,z⟩:=d i hi
   exact⟨x.1,x.2,y,z⟩
 .intro h
  exact⟨⟨⟨⟨⟨⟨⟨⟨⟨h.k,h.zF,h.zx⟩,⟨h.may,h.alone 1 (by omega) (by omega)⟩,h.alone 2 (by omega) (by omega)⟩,⟨⟨h.root,h.zv⟩,h.yO⟩,fun i hi=>by obtain⟨x,y,z,u⟩:=h.lows i hi;exact⟨⟨⟨x,y⟩,z⟩,u⟩⟩,h.zQ⟩,h.slots⟩,h.No⟩,h.zT⟩,h.zW⟩,h.count⟩
theorem Gi {f:Int} (h0:0<=f) (h1:f<=11):Bf (Gv f)=true/\A8 (Gv f)=f.toNat/\KF (Gv f)=true:=by unfold Bf A8 KF Gv;simp only[yt,decide_eq_true_eq];refine⟨⟨⟨?_,?_⟩,?_⟩,?_,?_⟩<;>omega
theorem WI {a:Nat} (ha:a<n) (hb:b<n) (al:a≠b) (h1:1<=F a) (h2:1<=F b):2<=((yE n).map F).sum:=by
 have e1:=Ll (F:=F) (G:=fun t=>if t=a then 0 else F t) ha (fun t _ al=>by simp[al]);have e2:=Ll (F:=fun t=>if t=a then 0 else F t) (G:=fun t=>if t=b then 0 else if t=a then 0 else F t) hb (fun t _ al=>by simp[al]);have cH:¬b=a:=fun e=>al e.symm
 simp only[if_true,cH,if_false] at e1 e2;omega
theorem Pd {a:Nat} (ha:a<n):F a<=((yE n).map F).sum:=by
 have e1:=Ll (F:=F) (G:=fun t=>if t=a then 0 else F t) ha (fun t _ al=>by simp[al]);simp only[if_true] at e1;omega
theorem Ws {p:Int->Bool} (hi:i<r.length) (hj:j<r.length) (al:i≠j) (h1:p (r.getD i 0)=true) (h2:p (r.getD j 0)=true):2<=r.countP p:=by
 induction r generalizing i j with
 |nil=>simp at hi
 |cons x r ih=>
  rw[xF];cases i with
  |zero=>
   cases j with
   |zero=>omega
   |succ j=>simp at h1 h2 hj;have:0<r.countP p:=uS.2 ⟨_,DG (d:=0) hj,by simpa using h2⟩;rw[if_pos (by simpa using h1)];omega
  |succ i=>
   cases j with
   |zero=>simp at h1 h2 hi;have:0<r.countP p:=uS.2 ⟨_,DG (d:=0) hi,by simpa using h1⟩;rw[if_pos (by simpa using h2)];omega
   |succ j=>have:=ih (i:=i) (j:=j) (by simpa using hi) (by simpa using hj) (by omega) (by simpa using h1) (by simpa using h2);omega
section
variable {k:AN} (h:DI k)
include h
theorem DI.yP (ht:t<12) (ay:Bb (Av k t)=true) (hi:i<4) (hn:Db f (As k.mem t i)=true):1<=LX k.mem k.Os f t:=by unfold LX;unfold Av at ay;rw[if_pos ay,Je];exact uS.2 ⟨_,DG (d:=0) (by rw[h.row ht];exact hi),hn⟩
theorem DI.once {t' i':Nat} (hf:f<12) (h1:(zU k.Os f).r=1) (ht:t<12) (ay:Bb (Av k t)=true) (hi:i<4) (hn:Db f (As k.mem t i)=true)
 (ch:t'<12) (bg:Bb (Av k t')=true) (cr:i'<4) (co:Db f (As k.mem t' i')=true):t=t'/\i=i':=by
 have hr:=h.refs f hf;have hc:countP k.mem k.Os f<=1:=by omega
 rw[EP] at hc
 by_cases e:t=t'
 .subst e
  refine⟨rfl,?_⟩
  by_cases e:i=i'
  .exact e
  .exfalso
   have h2:2<=LX k.mem k.Os f t:=by unfold LX;unfold Av at ay;rw[if_pos ay,Je];exact Ws (by rw[h.row ht];exact hi) (by rw[h.row ht];exact cr) e hn co
   have:=Pd (F:=LX k.mem k.Os f) ht;omega
 .exfalso
  have:=WI (F:=LX k.mem k.Os f) ht ch e (h.yP ht ay hi hn) (h.yP ch bg cr co);omega
theorem DI.ze (hf:f<12) (h1:(zU k.Os f).r=1) (ht:t<12) (ay:Bb (Av k t)=true) (hi:i<4) (hn:Db f (As k.mem t i)=true) (he:e<3):AZ k e≠(f:Int):=by
 intro hr;have bA:=h.refs f hf;have h2:=Pd (F:=LX k.mem k.Os f) ht;have h3:=h.yP ht ay hi hn;rw[<-EP] at h2;rw[Gm h.zP] at bA;unfold AZ at hr;have:e=0∨e=1∨e=2:=by omega
 unfold D5 at bA
 rcases this with rfl|rfl|rfl<;>simp[hr] at bA<;>split at bA<;>(try split at bA)<;>omega
theorem DI.named_at (ht:t<12) (hg:g∈yz (AH k.mem t)):∃i,i<4/\Db g (As k.mem t i)=true:=by obtain⟨w,hw,h1,h2⟩:=FE.1 hg;obtain⟨i,hi,rfl⟩:=IV (d:=0) hw;rw[h.row ht] at hi;exact⟨i,hi,by simp only[Db,As,yt];exact⟨h1,decide_eq_true h2⟩⟩
end
section
variable {p:AR} (h:EC p)
include h
theorem EC.zC:(AZ p.zX 0).toNat<12/\Av p.zX (AZ p.zX 0).toNat=3:=h.k.zA (by omega) h.root
theorem EC.zm (hi:i<4):Db (BG p.low i).toNat (As p.zX.mem (AZ p.zX 0).toNat i)=true:=by obtain⟨a,b,c,_⟩:=h.lows i hi;obtain⟨x,y,_⟩:=Gi a b;rw[c];simp[Db,x,y]
theorem EC.zM (hi:i<4):(BG p.low i).toNat<12/\Av p.zX (BG p.low i).toNat=2:=by obtain⟨a,b,c,_⟩:=h.lows i hi;obtain⟨x,y,_⟩:=Gi a b;have hm:=JV (m:=p.zX.mem) (f:=(AZ p.zX 0).toNat) (i:=i) (by rw[c];exact x);rw[c,y] at hm;exact h.k.zM (by omega) h.root hm
theorem EC.yU (hi:i<4) (hj:j<4) (e:(BG p.low i).toNat=(BG p.low j).toNat):i=j:=by have hr:=h.zC;have hl:=h.zM hi;have h1:=h.zm hi;have h2:=h.zm hj;rw[<-e] at h2;exact(h.k.once hl.1 (h.lows i hi).2.2.2.2 hr.1 (by rw[hr.2];rfl) hi h1 hr.1 (by rw[hr.2];rfl) hj h2).2
theorem EC.zI (hn:n<16) (hw:(AB p.No n).w=1):Db (AB p.No n).a.toNat (Br p n)=true/\(0<=(AB p.No n).a/\(AB p.No n).a<=11)/\Kf p.zX.Os (AB p.No n).a.toNat:=by
 rcases h.No n hn with⟨a,_⟩|⟨_,b,c,d⟩|⟨a,_⟩
 .omega
 .obtain⟨x,y,_⟩:=Gi b.1 b.2
  refine⟨?_,b,d⟩;rw[c];simp[Db,x,y]
 .omega
theorem EC.zJ (hn:n<16) (hw:(AB p.No n).w=1):(AB p.No n).a.toNat<12/\Av p.zX (AB p.No n).a.toNat=1:=by
 obtain⟨a,b,_⟩:=h.zI hn hw;have hl:=h.zM (i:=n/4) (by omega);have ha:Bf (Br p n)=true/\A8 (Br p n)=(AB p.No n).a.toNat:=by simpa[Db] using a
 have hm:=JV (m:=p.zX.mem) (f:=(BG p.low (n/4)).toNat) (i:=n%4) ha.1;have:=h.k.named hl.1 (by rw[hl.2];rfl) hm;have e:A8 (As p.zX.mem (BG p.low (n/4)).toNat (n%4))=(AB p.No n).a.toNat:=ha.2;rw[e] at this;exact⟨this.1,by omega⟩
theorem EC.zd {m:Nat} (hn:n<16) (hm:m<16) (hw:(AB p.No n).w=1) (cv:(AB p.No m).w=1) (e:(AB p.No n).a.toNat=(AB p.No m).a.toNat):n=m:=by obtain⟨a,b,c⟩:=h.zI hn hw;obtain⟨a',_,_⟩:=h.zI hm cv;rw[<-e] at a';have hl:=h.zM (i:=n/4) (by omega);have bY:=h.zM (i:=m/4) (by omega);have hk:=h.zJ hn hw;have:=h.k.once hk.1 c.2 hl.1 (by rw[hl.2];rfl) (i:=n%4) (by omega) a bY.1 (by rw[bY.2];rfl) (i':=m%4) (by omega) a';have:=h.yU (by omega) (by omega) this.1;omega
end
theorem aJ {k:AN} (h:Bv (A4 k 0) gA=true) {g:ByteArray} (hg:g=gA):FV k 0 g=true:=by subst hg;exact h
theorem MA {k:AN} {kind a b c:Int} (h1:2<=kind) (h6:kind<=6) (bt:0<=a) (ha:a<=11) (hk:Av k a.toNat≠0) (h4:kind≠4) (hm:Bv (A4 k 0) gA=true) (hg:(zU k.Os a.toNat).g=gA):
 Ad k (Ag kind a b c)=if kind=2 then Jw k (Ag kind a b c) else if kind=3 then J2 k (Ag kind a b c) else if kind=5 then EA k (Di k.mem k.Os a.toNat) else Gt k (Ag kind a b c):=by
 have e1:¬(Ag kind a b c).k=1:=by show ¬kind=1;omega
 have e2:Bd (Ag kind a b c).k 2 6=true:=Ac.2 ⟨h1,h6⟩;have e3:¬(Bd (Ag kind a b c).a 0 11=false∨(zU k.Os (Ag kind a b c).a.toNat).k=0∨((Ag kind a b c).k=4/\Bb (Ag kind a b c).b=false)):=by
  rintro(x|x|x)
  .rw[show Bd (Ag kind a b c).a 0 11=true from Ac.2 ⟨bt,ha⟩] at x;cases x
  .exact hk x
  .exact h4 x.1
 have e4:¬FV k (Ag kind a b c).e (zU k.Os (Ag kind a b c).a.toNat).g=false:=by rw[show FV k (Ag kind a b c).e (zU k.Os (Ag kind a b c).a.toNat).g=true from aJ hm hg];simp
 unfold Ad Gb;rw[if_neg e1,if_pos e2,if_neg e3,if_neg e4]
 show(if kind=2 then _ else if kind=3 then _ else if kind=4 then _ else if kind=5 then _ else _)=_
 rw[if_neg h4];rfl
def IF (k:AN) (t b:Nat) (w:Int):AN:= {k with mem:=CZ k.mem t b w,Os:=A3 (A3 k.Os (As k.mem t b) (-1)) w 1,zY:=(FY k t).foldl (fun c e=>Fu c (e:Nat)) k.zY}
theorem Ul {k:AN} (h:DI k) (hm:Bv (A4 k 0) gA=true) (cK:∀e,1<=e->e<3->Bv (A4 k e) gA=false) {a:Int} (bt:0<=a) (ha:a<=11) (b2:Av k a.toNat=2) (hg:(zU k.Os a.toNat).g=gA) {b:Nat} (hb:b<4) {w:Int}
 (hw:w=0∨∃f,0<=f/\f<=11/\w=Gv f/\Av k f.toNat=1/\(zU k.Os f.toNat).g=gA):Ad k (Ag 6 a b w)=(IF k a.toNat b w,0,0):=by
 rw[MA (by omega) (by omega) bt ha (by omega) (by omega) hm hg,if_neg (by omega),if_neg (by omega),if_neg (by omega)];have hf:Dg k (Ag 6 a b w)=true:=by
  unfold Dg
  show(if Bf w then decide ((zU k.Os (A8 w)).k=(zU k.Os a.toNat).k - 1) else decide (w=0))=true
  rcases hw with rfl|⟨f,f0,f1,rfl,fk,fg⟩
  .simp[Bf]
  .obtain⟨x,y,_⟩:=Gi f0 f1
   rw[if_pos x,y];unfold Av at fk b2;rw[fk,b2];rfl
 have e1:¬(Bb (zU k.Os (Ag 6 a b w).a.toNat).k=false∨Bd (Ag 6 a b w).b 0 3=false∨Dg k (Ag 6 a b w)=false):=by
  rintro(x|x|x)
  .have:Bb (zU k.Os (Ag 6 a b w).a.toNat).k=true:=HY.2 (.inl b2)
   rw[this] at x;cases x
  .rw[show Bd (Ag 6 a b w).b 0 3=true from Ac.2 ⟨by show(0:Int)<=(b:Int);omega,by show(b:Int)<=3;omega⟩] at x;cases x
  .rw[hf] at x;cases x
 have aq:∀g,g∈DJ k w->(zU k.Os g).g=gA:=by
  intro g hg
  rcases hw with rfl|⟨f,f0,f1,rfl,fk,fg⟩
  .simp[DJ,Bf] at hg
  .obtain⟨x,y,_⟩:=Gi f0 f1
   unfold DJ at hg;rw[if_pos x,y] at hg;unfold Av at fk;rw[if_neg (by rw[fk];decide)] at hg;simp at hg;rw[hg];exact fg
 have e2:¬(FY k (Ag 6 a b w).a.toNat).all (fun e=>BC k.Os (DJ k (Ag 6 a b w).c) (AJ k.zZ e).zV)=false:=by
  rw[xl,yk];intro e he;rw[Fp];intro g a5;obtain⟨u1,u2⟩:=Nj.1 he;rw[aq g a5]
  rcases Nat.eq_zero_or_pos e with h0|h0
  .rw[h0];exact hm
  .have:=h.allow e u1 _ u2
   rw[show(zU k.Os (Ag 6 a b w).a.toNat).g=gA from hg,cK e h0 u1] at this;cases this
 have e3:¬(Bf (Ag 6 a b w).c=true/\FV k (Ag 6 a b w).e (zU k.Os (A8 (Ag 6 a b w).c)).g=false):=by rintro⟨x,y⟩;have x':Bf w=true:=x;have y':FV k 0 (zU k.Os (A8 w)).g=false:=y;rw[aJ hm (aq (A8 w) (by unfold DJ;rw[if_pos x'];exact vY ..))] at y';cases y'
 unfold Gt;rw[if_neg e1,if_neg e2,if_neg e3];rfl
theorem XB {k:AN} (hm:Bv (A4 k 0) gA=true) {a b c:Int} (bt:0<=a) (ha:a<=11) (hk:Av k a.toNat=1) (hg:(zU k.Os a.toNat).g=gA) (hr:(zU k.Os a.toNat).r=0):
 Ad k (Ag 2 a b c)=({k with Os:=k.Os.set a.toNat AU.zero},0,0):=by
 rw[MA (by omega) (by omega) bt ha (by omega) (by omega) hm hg,if_pos rfl];unfold Jw;rw[if_neg (by show ¬(zU k.Os a.toNat).k≠1;unfold Av at hk;omega),if_neg (by show ¬(zU k.Os a.toNat).r≠0;omega)];rfl
theorem Xb {k:AN} (hm:Bv (A4 k 0) gA=true) {a w:Int} (bt:0<=a) (ha:a<=11) (hk:Av k a.toNat=1) (hg:(zU k.Os a.toNat).g=gA) {i:Nat} (hi:i<4) (hw:Dy w=true):
 Ad k (Ag 3 a i w)=({k with mem:=CZ k.mem a.toNat i w},0,0):=by
 rw[MA (by omega) (by omega) bt ha (by omega) (by omega) hm hg,if_neg (by omega),if_pos rfl];unfold J2;rw[if_neg]
 .rfl
 .rintro(x|x|x)
  .exact x hk
  .rw[show Bd (Ag 3 a i w).b 0 3=true from Ac.2 ⟨by show(0:Int)<=(i:Int);omega,by show(i:Int)<=3;omega⟩] at x;cases x
  .rw[show Dy (Ag 3 a i w).c=true from hw] at x;cases x
theorem Lm {k:AN} (hm:Bv (A4 k 0) gA=true) (hf:0<=Am k.Os) {a b c:Int}:
 Ad k (Ag 1 a b c)=({k with Os:=k.Os.set (Am k.Os).toNat ⟨1,gA,0⟩,mem:=k.mem.set (Am k.Os).toNat [0,0,0,0]},Am k.Os,0):=by
 unfold Ad;rw[if_pos (show(Ag 1 a b c).k=1 from rfl)];unfold Io;rw[if_neg,if_neg,if_neg]
 .rfl
 .omega
 .rw[show FV k (Ag 1 a b c).e (Ag 1 a b c).nm=true from aJ hm rfl];simp
 .rw[show BN (Ag 1 a b c).nm=true from(by decide:BN gA=true)];simp
theorem Nq {α:Type} {q:α->Bool} {l:List α} {y d:α} (hn:n<l.length):(l.set n y).countP q+D5 (q (l.getD n d))=l.countP q+D5 (q y):=by
 induction l generalizing n with
 |nil=>simp at hn
 |cons x r ih=>
  cases n with
  |zero=>simp only[tC,xF,tN,D5];omega
  |succ n=>simp only[tB,xF,tM];have:=ih (n:=n) (by simpa using hn);omega
theorem De {l:List Bi} {m:Nat} {x:Bi}:AB (l.set n x) m=if m=n/\n<l.length then x else AB l m:=JO
theorem NQ {l:List Bi} {y:Bi} {w:Int} (hn:n<l.length):Ai (l.set n y) w+D5 (NW w (AB l n))=Ai l w+D5 (NW w y):=Nq hn
theorem Mr {l:List Bi} {s:Nat} {y:Bi} (hn:n<l.length):CJ (l.set n y) s+D5 (Cu s (AB l n))=CJ l s+D5 (Cu s y):=Nq hn
theorem Xl (m:Nat) (x:Bi):((yE m).map fun s=>D5 (Cu s x)).sum<=D5 (NW 2 x):=by
 by_cases hw:x.w=2
 .have h1:D5 (NW 2 x)=1:=by simp[NW,hw,D5]
  rw[h1]
  induction m with
  |zero=>simp
  |succ m ih=>
   rw[xx,xH,xh];simp only[vA,uJ,uP,uI,xQ]
   by_cases ha:x.a=(m:Int)
   .have h0:((yE m).map fun s=>D5 (Cu s x)).sum=0:=by
     rw[LN];intro t ht;have:¬x.a=(t:Int):=by omega
     simp[Cu,this,D5]
    rw[h0];unfold D5;split<;>omega
   .have:D5 (Cu m x)=0:=by simp[Cu,ha,D5]
    omega
 .have h0:((yE m).map fun s=>D5 (Cu s x)).sum=0:=by
   rw[LN];intro t ht;simp[Cu,hw,D5]
  omega
theorem Zs {G:Nat->Nat}:((yE n).map fun t=>F t+G t).sum=((yE n).map F).sum+((yE n).map G).sum:=by
 induction n with
 |zero=>rfl
 |succ n ih=>rw[xx,xH,xH,xH,xh,xh,xh,ih];simp;omega
theorem Xk (m:Nat) (l:List Bi):((yE m).map fun s=>CJ l s).sum<=Ai l 2:=by
 induction l with
 |nil=>
  have:((yE m).map fun s=>CJ [] s).sum=0:=by rw[LN];intro t _;rfl
  omega
 |cons x l ih=>
  have e:∀s,s<m->CJ (x::l) s=CJ l s+D5 (Cu s x):=fun s _=>by unfold CJ D5;rw[xF]
  rw[J5 e,Zs];have e2:Ai (x::l) 2=Ai l 2+D5 (NW 2 x):=by unfold Ai D5;rw[xF]
  have:=Xl m x;have cN:((yE m).map (CJ l)).sum<=Ai l 2:=ih;omega
theorem count_le {l:List Bi} (hn:n<l.length) {w:Int} (hw:(AB l n).w≠w):Ai l w+1<=l.length:=by
 have h1:=NQ (y:=⟨w,0,false⟩) (w:=w) hn;have h2:Ai (l.set n ⟨w,0,false⟩) w<=(l.set n ⟨w,0,false⟩).length:=vO;rw[xV] at h2;have h3:D5 (NW w (AB l n))=0:=by simp[NW,hw,D5]
 have h4:D5 (NW w ⟨w,0,false⟩)=1:=by simp[NW,D5]
 omega
theorem QX {s:List (List Int)} (h:∃i,i<s.length/\AH s i=[]):0<=BW s/\(BW s).toNat<s.length/\AH s (BW s).toNat=[]:=by obtain⟨i,hi,he⟩:=h;have ha:s.any uG=true:=LW.2 ⟨_,DG (d:=[]) hi,by unfold AH at he;rw[he];rfl⟩;unfold BW;rw[if_pos ha];have hl:s.findIdx uG<s.length:=vo.2 (LW.1 ha);refine⟨by omega,by simpa using hl,?_⟩;have:=vd (w:=hl);unfold AH;simpa[hl] using this
theorem EC.slot {p:AR} (h:EC p) {n:Nat} (hn:n<16) (hw:(AB p.No n).w≠2):0<=BW p.swap/\(BW p.swap).toNat<16/\AH p.swap (BW p.swap).toNat=[]:=by
 rw[<-h.zF];refine QX (Classical.byContradiction fun cw=>?_);have h1:∀s,s<16->CJ p.No s=1:=by
  intro s hs;have:=h.slots s hs;rw[if_neg] at this
  .exact this
  .intro he
   exact cw ⟨s,by rw[h.zF];exact hs,Is.1 he⟩
 have h2:=Xk 16 p.No;rw[J5 h1] at h2;have h3:=count_le (l:=p.No) (n:=n) (by rw[h.zQ];exact hn) hw;rw[h.zQ] at h3;have h4:((yE 16).map fun _=>1).sum=16:=by decide
 omega
theorem Nc {p:AR} (h:EC p) {n:Nat} (hn:n<16) (hw:(AB p.No n).w=1):
 (EF p n).zX= {IF p.zX (BG p.low (n/4)).toNat (n%4) 0 with Os:=(IF p.zX (BG p.low (n/4)).toNat (n%4) 0).Os.set (AB p.No n).a.toNat AU.zero}:=by
 have hl:=h.lows (n/4) (by omega);have bX:=h.zM (i:=n/4) (by omega);obtain⟨f1,f2,f3⟩:=h.zI hn hw;have fk:=h.zJ hn hw;unfold EF II;rw[Ul h.k h.may h.alone hl.1 hl.2.1 bX.2 hl.2.2.2.1 (by omega) (.inl rfl)];have cx:Db (AB p.No n).a.toNat (As p.zX.mem (BG p.low (n/4)).toNat (n%4))=true:=f1;have ad:zU (IF p.zX (BG p.low (n/4)).toNat (n%4) 0).Os (AB p.No n).a.toNat= {zU p.zX.Os (AB p.No n).a.toNat with r:=0}:=by
  unfold IF
  show zU (A3 (A3 p.zX.Os (As p.zX.mem (BG p.low (n/4)).toNat (n%4)) (-1)) 0 1) _=_
  rw[FG (by rw[Cd];exact h.k.len),FG h.k.len,cx,f3.2];simp[Db,Bf,D5]
 rw[XB (k:=IF p.zX (BG p.low (n/4)).toNat (n%4) 0) h.may f2.1 f2.2]
 .show(zU (IF p.zX (BG p.low (n/4)).toNat (n%4) 0).Os (AB p.No n).a.toNat).k=1
  rw[ad];exact fk.2
 .rw[ad];exact f3.1
 .rw[ad]
theorem QA {w:Int} (ht:t<m.length) (hb:b<(AH m t).length):As (CZ m t b w) f i=if f=t/\i=b then w else As m f i:=by
 unfold As;rw[Gn]
 by_cases e:f=t
 .subst e
  rw[if_pos ⟨rfl,ht⟩,JO]
  by_cases e2:i=b
  .simp[e2,hb]
  .simp[e2]
 .simp[e]
open Go.RowKit
theorem Tl {f:FuncId} {ae:Array Value} {w1:World} (h:∀w',Below w1.heap.size w1 w'->Calls P f ae w' fun e a9=>e= .returned v/\Below w'.heap.size w' a9):
 ∀d os,Calls P f ae (vL (redrawn w1 d) os) fun e a9=>e= .returned v/\∃p:Regrown,a9=vL (redrawn w1 p.d) p.os:=fun d os=>Calls.regrown_of (h _ (below_regrown w1 d os))
theorem Wj {f:FuncId} {ae:Array Value} {w1:World} (h:∀w',Calls P f ae w' fun e a9=>e= .returned v/\w'=a9):
 ∀d os,Calls P f ae (vL (redrawn w1 d) os) fun e a9=>e= .returned v/\∃p:Regrown,a9=vL (redrawn w1 p.d) p.os:=Tl fun w' _=>(h w').mono fun e a9 ⟨he,hw⟩=>⟨he,hw▸yF _ _⟩
theorem BM {f:FuncId} {ae:Array Value} {w:World} (h:Calls P f ae w fun e w'=>e= .returned v/\w=w'):Calls P f ae w fun e w'=>e= .returned v/\Below w.heap.size w w':=h.mono fun e a9 ⟨he,hw⟩=>⟨he,hw▸yF _ _⟩
theorem TG {f:FuncId} {ae:Array Value} {w:World} (h:Calls P f ae w fun e w'=>e= .returned v/\∃n,w'=w.drewN n):Calls P f ae w fun e w'=>e= .returned v/\Below w.heap.size w w':=
 h.mono fun e a9 ⟨he,n,hw⟩=>⟨he,hw▸A9 (yF _ _) n⟩
theorem Ng {a b:Value} (h:a=b):Ending.returned a= .returned b:=by rw[h]
section
variable {w:World} {a:Option Addr}
theorem SJ.zR {xs:List AU} (h:SJ 3 A2 w a xs) {k:Nat} (hk:k<xs.length):∃b ab,a=some ⟨b,ab,none⟩/\b<w.heap.size/\w.cell? ⟨b,ab+k*3,none⟩=some (.int .i64 (zU xs k).k)/\w.cell? ⟨b,ab+k*3+1,none⟩=some (.string (zU xs k).g)/\w.cell? ⟨b,ab+k*3+2,none⟩=some (.int .i64 (zU xs k).r):=by obtain⟨b,ab,rfl,ax,hc⟩:=h k (zU xs k) (by simp[zU,hk]);exact⟨b,ab,rfl,ax,hc 0 _ rfl,hc 1 _ rfl,hc 2 _ rfl⟩
theorem SJ.zN {xs:List Ak} (h:SJ 4 Ae w a xs) {k:Nat} (hk:k<xs.length):∃b ab,a=some ⟨b,ab,none⟩/\b<w.heap.size/\w.cell? ⟨b,ab+k*4,none⟩=some (.int .i64 (AT xs k).e)/\w.cell? ⟨b,ab+k*4+1,none⟩=some (.int .i64 (AT xs k).p)/\w.cell? ⟨b,ab+k*4+2,none⟩=some (.int .i64 (AT xs k).f)/\w.cell? ⟨b,ab+k*4+3,none⟩=some (.bool (AT xs k).w):=by obtain⟨b,ab,rfl,ax,hc⟩:=h k (AT xs k) (by simp[AT,hk]);exact⟨b,ab,rfl,ax,hc 0 _ rfl,hc 1 _ rfl,hc 2 _ rfl,hc 3 _ rfl⟩
end
theorem Ie.cellAt {w:World} {a:Option Addr} {xs:List Int} (h:Ie w a xs) {k:Nat} (hk:k<xs.length):∃b ab,a=some ⟨b,ab,none⟩/\b<w.heap.size/\w.cell? ⟨b,ab+k,none⟩=some (.int .i64 (nth xs k)):=by obtain⟨b,ab,rfl,hc⟩:=h.at hk;exact⟨b,ab,rfl,yC w _ hc,hc⟩
def Ki (w:World) (a:Option Addr) (m:List (List Int)):Prop:=∀f,f<m.length->∃b ab u,a=some ⟨b,ab,none⟩/\b<w.heap.size/\w.cell? ⟨b,ab+f,none⟩=some u/\Ax w u (AH m f)
theorem Bc.open {w:World} (h:Bc w v m):∃a a2,v= .slice a m.length a2/\m.length<=a2/\a2<=maxLen/\Ki w a m:=by
 obtain⟨vs,h1,h2⟩:=h;obtain⟨a,a2,rfl,hc,a7,H⟩:=BJ.open D8 (by decide) h1;refine⟨a,a2,by rw[h2.1],by rw[<-h2.1];exact hc,a7,fun f hf=>?_⟩;have hv:f<vs.length:=by rw[h2.1];exact hf
 obtain⟨b,ab,rfl,ax,a1⟩:=H f _ (yx hv);refine⟨b,ab,vs[f],rfl,ax,by simpa using a1 0 _ rfl,h2.2 f _ _ (yx hv) ?_⟩;unfold AH;exact A1 hf
theorem Ki.below {w:World} {a:Option Addr} (h:Ki w a m) (hb:Below w.heap.size w w'):Ki w' a m:=by intro f hf;obtain⟨b,ab,u,rfl,ax,hc,hr⟩:=h f hf;exact⟨b,ab,u,rfl,xZ ax hb.size,(hb.cell (p:=⟨b,ab+f,none⟩) ax).trans hc,hr.below hb⟩
theorem Bn {id:Nat} {Q:Exit->Act->World->Prop} {a:Act} {w:World} {l:List Oper}
 (h:wpQuiet prog l.toArray (fun w'=>∃p:Regrown,w'=vL (redrawn w p.d) p.os) (fun a'=>∀w',(∃p:Regrown,w'=vL (redrawn w p.d) p.os)->Q .normal a' w') l a) (hB:Region.lexB .any l.toArray=true:=by kernel_rfl):(Code.region id l.toArray true).wp prog Q a w:=
 wp_region_quiet_below mixed hB h
theorem Bm {ops:Array Oper} {w:World} {Q:Act->World->Prop} {a:Act} (h:∀wq,Below w.heap.size w wq->Q a wq):wpQuiet P ops (fun w'=>∃p:Regrown,w'=vL (redrawn w p.d) p.os) (fun a'=>∀w',(∃p:Regrown,w'=vL (redrawn w p.d) p.os)->Q a' w') [] a:=by refine wpQuiet_nil ?_;rintro w' ⟨⟨d,os⟩,rfl⟩;exact h _ (below_regrown w d os)
def SG (w:World) (a:Option Addr) (bs:List Int):Prop:=
 ∀k,k<bs.length->∃b ab,a=some ⟨b,ab,none⟩/\∀j,j<bs.length->w.cell? ⟨b,ab+j,none⟩=some (.int .u8 (nth bs j))/\0<=nth bs j/\nth bs j<256
theorem Fm.open {w:World} {xs:List Int} (h:Fm w v xs):
 ∃a a2,v= .slice a xs.length a2/\xs.length<=a2/\a2<=maxLen/\SG w a xs:=by
 obtain⟨⟨a,a2,rfl,cn,a7,hl,_,hc⟩,b7⟩:=h;refine⟨a,a2,rfl,cn,a7,fun k hk=>?_⟩;obtain⟨b,ab,rfl,a1⟩:=hc (by omega);refine⟨b,ab,rfl,fun j hj=>⟨?_,?_⟩⟩
 .rw[a1 j (by omega),List.getElem?_map,Pc hj]
  rfl
 .rw[MG hj]
  exact b7 _ (List.getElem_mem hj)
theorem SG.at {w:World} {a:Option Addr} {xs:List Int} (h:SG w a xs) {k:Nat} (hk:k<xs.length):
 ∃b ab,a=some ⟨b,ab,none⟩/\w.cell? ⟨b,ab+k,none⟩=some (.int .u8 (nth xs k))/\0<=nth xs k/\nth xs k<256:=by
 obtain⟨b,ab,rfl,hc⟩:=h k hk;exact⟨b,ab,rfl,hc k hk⟩
def Ef (w0 w:World) (R:Value) (N:Nat):Prop:=
 ∃g au bs,∃p:Nat,R= .pointer (some ⟨g,0,none⟩)/\w0.heap.size<=g/\w.heap[g]? =some (.cells #[au, .int .i64 p] 69 (0,0))/\Fm w0 au bs/\bs.length<=2000/\p<=N
theorem WO {X:Int} (h0:0<=X) (h1:X<=1000000000):0<=bits .xor .i64 X (X/64):=by
 obtain⟨x,rfl⟩:=Int.eq_ofNat_of_zero_le h0;have e:((x:Int)/64)=((x/64:Nat):Int):=by omega
 have ha:x<2 ^ 40:=by omega
 have hb:x/64<2 ^ 40:=by omega
 have b9:x%2 ^ wR.bits=x:=tf (xZ ha (by decide));have cs:x/64%2 ^ wR.bits=x/64:=tf (xZ hb (by decide));have hx:x ^^^ (x/64)<2 ^ 40:=Nat.xor_lt_two_pow ha hb;rw[e];simp only[bits,BitVec.ofInt_natCast,BitVec.toNat_xor,BitVec.toNat_ofNat,b9,cs];rw[xy _ (by omega)];omega
def U7 (w0 w:World) (R:Value) (N:Nat) (n:Int) (e:Ending) (w':World):Prop:=
 ∃x:Int,e= .returned (.int .i64 x)/\(0<=x/\(0<n->x<n)/\(n<=0->x=0))/\Ef w0 w' R (N+1)/\Below w0.heap.size w0 w'/\∃g,R= .pointer (some ⟨g,0,none⟩)/\w.grownBy w' (some g)
theorem Ef.stored {w:World} {p:Nat} {au:Value} {bs:List Int} {n:Int} (hg:w0.heap.size<=g) (ac:w.heap[g]? =some (.cells #[au, .int .i64 p] 69 (0,0))) (hr:Fm w0 au bs) (bo:bs.length<=2000) (hp:p<=N) (hb:Below w0.heap.size w0 w):
 ∀(k:Nat) (x:Int),0<=x->(0<n->x<n)->(n<=0->x=0)->U7 w0 w (.pointer (some ⟨g,0,none⟩)) N n (.returned (.int .i64 x)) ((w.setCell ⟨g,1,none⟩ (.int .i64 (p+1))).drewN k):=by
 intro k x h1 h2 h3;refine⟨x,rfl,⟨h1,h2,h3⟩,⟨g,au,bs,p+1,rfl,hg,?_,hr,bo,by omega⟩,A9 (hb.setCell hg _) k,g,rfl,?_⟩
 .have:=heap_setCell_same w g 1 #[au, .int .i64 p] 69 (.int .i64 (p+1)) ac
  simpa using this
 .refine⟨rfl,rfl,rfl,by simp[World.drewN],fun b cs al=>?_⟩
  exact heap_setCell_other w ⟨g,1,none⟩ b _ (fun e=>al (by simp[e]))
theorem Yx (w0:World) (R:Value) (N:Nat) (n:Int) (w:World) (h:Ef w0 w R N) (hb:Below w0.heap.size w0 w) (hN:N<=1000000) (hn:n<=1000000):
 Calls prog 20 #[R, .int .i64 n] w (U7 w0 w R N n):=by
 obtain⟨g,au,bs,p,rfl,hg,ac,hR,bo,hp⟩:=h;have S:=AA (Ef.stored (n:=n) hg ac hR bo hp hb);have c0:w.cell? ⟨g,0,none⟩=some au:=cell_of_row w g 0 _ _ _ ac;have c1:w.cell? ⟨g,1,none⟩=some (.int .i64 p):=cell_of_row w g 1 _ _ _ ac;have f1:w.frozen? ⟨g,1,none⟩=false:=frozen_of_row w g 1 _ _ ac;clear ac
 by_cases h1:n<1
 .go_in
  go_wp2;go_ret;exact S.out 0 0 (by omega) (by omega) (by omega)
 obtain⟨a,c,hv,hc,a7,hA⟩:=hR.open;subst hv;unfold maxLen at a7
 by_cases h2:bs.length=0
 .have cL:((bs.length:Int)==0)=true:=by simp[h2]
  clear h2;go_in;go_wp2;go_ret;exact S.out 0 0 (by omega) (by omega) (by omega)
 have cL:((bs.length:Int)==0)=false:=by simp[h2]
 have bW:0<bs.length:=by omega
 clear h2
 by_cases h3:p<bs.length
 .obtain⟨b,ab,rfl,D0,cI,b8⟩:=hA.at h3
  have bl:=yC w0 _ D0;have D:w.cell? ⟨b,ab+p,none⟩=some (.int .u8 (nth bs p)):=(hb.cell bl).trans D0;clear D0 hA;have al:b≠g:=by rintro rfl;simp at bl;omega
  clear bl;go_in;go_wp2;go_ret;exact S.out 0 _ (uy _ (by omega)) (fun _=>vI _ (by omega)) (by omega)
 .have m1:(p:Int).tmod bs.length=(p:Int)%bs.length:=wK (by omega)
  have m2:0<=(p:Int)%bs.length:=uy _ (by omega);have m3:(p:Int)%bs.length<bs.length:=vI _ (by omega);have m4:((p:Int)%bs.length).toNat=p%bs.length:=by rw[show(p:Int)%bs.length=((p%bs.length:Nat):Int) from rfl,xY]
  have q1:0<=(p:Int)/bs.length:=Int.ediv_nonneg (by omega) (by omega);have q2:(p:Int)/bs.length<=p:=Int.ediv_le_self _ (by omega);have s1:wR.wrap ((p:Int)*7)=p*7:=xy _ (by omega);have s2:wR.wrap ((p:Int)*7+3)=p*7+3:=xy _ (by omega);have k1:((p:Int)*7+3).tmod bs.length=((p:Int)*7+3)%bs.length:=wK (by omega);have k2:0<=((p:Int)*7+3)%bs.length:=uy _ (by omega);have k3:((p:Int)*7+3)%bs.length<bs.length:=vI _ (by omega);have k4:(((p:Int)*7+3)%bs.length).toNat=(p*7+3)%bs.length:=by rw[show((p:Int)*7+3)%bs.length=(((p*7+3)%bs.length:Nat):Int) by push_cast;rfl,xY]
  have cA:p%bs.length<bs.length:=Nat.mod_lt _ bW;have cp:(p*7+3)%bs.length<bs.length:=Nat.mod_lt _ bW;obtain⟨b,ab,rfl,D0,cI,b8⟩:=hA.at cA;obtain⟨b',bm,bK,E0,cU,cT⟩:=hA.at cp;obtain⟨rfl,rfl⟩:b=b'/\ab=bm:=by simpa using bK
  clear bK hA;have bl:=yC w0 _ D0;have D:w.cell? ⟨b,ab+p%bs.length,none⟩=some (.int .u8 (nth bs (p%bs.length))):=(hb.cell bl).trans D0;have E:w.cell? ⟨b,ab+(p*7+3)%bs.length,none⟩=some (.int .u8 (nth bs ((p*7+3)%bs.length))):=(hb.cell (p:=⟨b,ab+(p*7+3)%bs.length,none⟩) bl).trans E0;clear D0 E0;have al:b≠g:=by rintro rfl;simp at bl;omega
  clear bl;go_in;go_wp2;go_quiet (fail);have x0:0<=nth bs (p%bs.length)*131+nth bs ((p*7+3)%bs.length)*1117+(p:Int)*29+(p:Int)/bs.length*53:=by omega
  have x1:nth bs (p%bs.length)*131+nth bs ((p*7+3)%bs.length)*1117+(p:Int)*29+(p:Int)/bs.length*53<=1000000000:=by omega
  generalize nth bs (p%bs.length)*131+nth bs ((p*7+3)%bs.length)*1117+(p:Int)*29+(p:Int)/bs.length*53=X at x0 x1 ⊢;go_wp2;go_ret;have y0:=WO x0 (by omega:X<=1000000000);exact S.out _ _ (Int.tmod_nonneg _ y0) (fun cy=>by rw[wK y0];exact vI _ cy) (by omega)
def X4 (w:World) (e:Ending) (w':World):Prop:=∃R,e= .returned R/\Ef w w' R 0/\Below w.heap.size w w'
theorem Fm.take {w:World} {a:Option Addr} {c:Nat} {bs:List Int} (h:Fm w (.slice a bs.length c) bs) (k:Nat) (hk:k<=bs.length):Fm w (.slice a k c) (bs.take k):=by
 obtain⟨⟨a',a2,hv,cn,a7,hl,b3,hc⟩,b7⟩:=h;simp only[Value.slice.injEq,true_and] at hv;obtain⟨rfl,rfl⟩:=hv;have e:(bs.take k).length=k:=by rw[xW];omega
 refine⟨⟨a,c,by rw[e],by omega,a7,by simp,b3,fun hn=>?_⟩,fun b hb=>b7 b (List.mem_of_mem_take hb)⟩;rw[e] at hn ⊢;obtain⟨b,ab,rfl,a1⟩:=hc (by omega);refine⟨b,ab,rfl,fun j hj=>?_⟩;rw[a1 j (by omega),List.map_take,List.getElem?_take,if_pos (by omega)]
theorem Ef.opened {w:World} {au:Value} {bs:List Int} (h:Fm w au bs) (hl:bs.length<=2000):X4 w (.returned (.pointer (some ⟨w.heap.size,0,none⟩))) (w.alloc (.cells #[au, .int .i64 0] 69)):=
 ⟨_,rfl,⟨_,au,bs,0,rfl,yv _,heap_alloc_new w _,h,hl,yv _⟩,(yF _ _).alloc (yv _) _⟩
theorem Vk (v:Value) (bs:List Int) (w:World) (h:Fm w v bs):
 Calls prog 18 #[v] w (X4 w):=by
 obtain⟨a,c,hv,hc,a7,hA⟩:=h.open;subst hv;unfold maxLen at a7
 by_cases hl:bs.length<=2000
 .have S:=AA (Ef.opened h hl)
  have bY:¬(2000<bs.length):=by omega
  clear hl hA;go_in;go_wp2;go_ret;exact S.out
 .have S:=AA (Ef.opened (h.take 2000 (by omega)) (by rw[xW];omega))
  have bY:2000<bs.length:=by omega
  have cp:2000<=c:=by omega
  obtain⟨b,ab,rfl,_⟩:=hA.at (k:=0) (by omega);clear hl hA;go_in;go_wp2;go_ret;exact S.out
theorem Ef.lt {w:World} (h:Ef w0 w R N):∃g,R= .pointer (some ⟨g,0,none⟩)/\g<w.heap.size:=by obtain⟨g,au,bs,p,rfl,hg,ac,_⟩:=h;exact⟨g,rfl,(wm.1 ac).1⟩
theorem Ef.keep {w:World} (h:Ef w0 w R N) (hb:Below w.heap.size w w'):Ef w0 w' R N:=by obtain⟨g,au,bs,p,rfl,hg,ac,hr⟩:=h;exact⟨g,au,bs,p,rfl,hg,(hb.block g (wm.1 ac).1).trans ac,hr⟩
theorem Ef.kept {w:World} (h:Ef w0 w R N) {g:Nat} (hR:R= .pointer (some ⟨g,0,none⟩)) (ax:g<lo) (hb:Below lo w w'):Ef w0 w' R N:=by
 obtain⟨g',au,bs,p,rfl,hg,ac,hr⟩:=h;obtain rfl:g'=g:=by simpa using hR
 exact⟨g',au,bs,p,rfl,hg,(hb.block g' ax).trans ac,hr⟩
theorem Ef.mono {w:World} {M:Nat} (h:Ef w0 w R N) (hm:N<=M):Ef w0 w R M:=by obtain⟨g,au,bs,p,e1,hg,ac,hr,hl,hp⟩:=h;exact⟨g,au,bs,p,e1,hg,ac,hr,hl,yD hp hm⟩
theorem TF {w:World} {sz:Nat} {xs:List Value} (h:w.ownsRow lo e sz v n xs) (hg:w.grownBy w' (some g)) (ax:g<lo):w'.ownsRow lo e sz v n xs:=by
 refine World.ownsRow.kept h hg ?_;cases hv:v.ownBlock with
 |none=>exact .inl rfl
 |some k=>
  have:=(h.lt k hv).1;refine .inr fun e=>?_
  simp at e;omega
def Ea (w0:World) (lo g N:Nat) (o:Value) (xs:List Int) (w:World):Prop:=
 g<lo/\lo<=w.heap.size/\w0.heap.size<=lo/\Ef w0 w (.pointer (some ⟨g,0,none⟩)) N/\Below w0.heap.size w0 w/\AG lo w o xs
theorem Ea.pick {w:World} {xs:List Int} {n:Int} {e:Ending} (h:Ea w0 lo g N o xs w) (hp:U7 w0 w (.pointer (some ⟨g,0,none⟩)) N n e w'):
 ∃x:Int,e= .returned (.int .i64 x)/\0<=x/\(0<n->x<n)/\Ea w0 lo g (N+1) o xs w'/\w.grownBy w' (some g):=by
 obtain⟨h1,h2,h3,h4,h5,h6⟩:=h;obtain⟨x,rfl,⟨cf,bi,cO⟩,hr,b8,g1,cF,b5⟩:=hp;obtain rfl:g=g1:=by simpa using cF
 exact⟨x,rfl,cf,bi,⟨h1,yD h2 b5.size,h3,hr,b8,TF h6 b5 h1⟩,b5⟩
theorem Ea.append {w:World} {o':Value} {xs:List Int} (h:Ea w0 lo g N o xs w) (hb:Below lo w w') (ho:w'.ownsRow lo 3 1 o' (xs.length+1) (xs.map (Value.int .i64)++[.int .i64 x])):Ea w0 lo g N o' (xs++[x]) w':=by obtain⟨h1,h2,h3,h4,h5,h6⟩:=h;refine⟨h1,yD h2 hb.size,h3,h4.kept rfl h1 hb,h5.trans (hb.mono h3),?_⟩;simpa[AG] using ho
theorem Ea.step {w:World} {xs:List Int} (h:Ea w0 lo g N o xs w) (hb:Below w.heap.size w w'):Ea w0 lo g N o xs w':=by obtain⟨h1,h2,h3,h4,h5,h6⟩:=h;exact⟨h1,yD h2 hb.size,h3,h4.keep hb,h5.trans (hb.mono (yD h3 h2)),h6.below hb⟩
theorem Ea.alloc {w:World} {xs:List Int} (h:Ea w0 lo g N o xs w) (ob:Obj):Ea w0 lo g N o xs (w.alloc ob):=h.step ((yF _ _).alloc (yv _) _)
theorem Ea.set {w:World} {q a2 a:Nat} {xs:List Int} (h:Ea w0 lo g N (.slice (some ⟨q,0,none⟩) xs.length a2) xs w):Ea w0 lo g N (.slice (some ⟨q,0,none⟩) xs.length a2) (xs.set a x) (w.setCell ⟨q,a,none⟩ (.int .i64 x)):=by obtain⟨h1,h2,h3,h4,h5,h6⟩:=h;have hq:=(h6.lt q rfl).1;have S:=World.ownsRow.stored h6 a (.int .i64 x);have hb:Below lo w (w.setCell ⟨q,a,none⟩ (.int .i64 x)):=(yF _ _).setCell hq _;exact⟨h1,yD h2 hb.size,h3,h4.kept rfl h1 hb,h5.trans (hb.mono h3),Zl S.1⟩
theorem Ea.mono {w:World} {M:Nat} {xs:List Int} (h:Ea w0 lo g N o xs w) (hm:N<=M):Ea w0 lo g M o xs w:=by obtain⟨h1,h2,h3,h4,h5,h6⟩:=h;exact⟨h1,h2,h3,h4.mono hm,h5,h6⟩
theorem MH {lo':Nat} {w:World} {xs:List Int} (h:AG lo w v xs) (hl:lo'<=lo):AG lo' w v xs:=by
 refine⟨h.1,?_⟩
 rcases h.2 with h'|⟨g,a2,cur,rfl,hb,rest⟩
 .exact .inl h'
 .exact .inr ⟨g,a2,cur,rfl,yD hl hb,rest⟩
def KX (xs:List Int):Bool:=xs.length==4&&xs.all (Bd · 0 9999)
theorem PL (n:Int) (w:World):
 Calls prog 138 #[.int .i64 n] w fun e w'=>e= .returned (.bool (Bd n 0 9999))/\w=w':=by
 go_in;go_wp2_with (go_at_call 35;refine(Do _ _ _ _).mono ?_;rintro e w' ⟨rfl,rfl⟩);go_ret;exact⟨rfl,rfl⟩
theorem Sl (n:Int) (w:World):
 Calls prog 137 #[.int .i64 n] w fun e w'=>e= .returned (.bool (!Bd n 0 9999))/\w=w':=by
 go_in;go_wp2_with (go_at_call 138;refine(PL _ _).mono ?_;rintro e w' ⟨rfl,rfl⟩);go_ret;exact⟨rfl,rfl⟩
theorem Uw (xs:List Int):(!xs.any fun x=>!Bd x 0 9999)=xs.all (Bd · 0 9999):=by simp[List.all_eq_not_any_not]
theorem Nu (v:Value) (xs:List Int) (w:World) (h:Ax w v xs):
 Calls prog 79 #[v] w fun e w'=>e= .returned (.bool (KX xs))/\w=w':=by
 obtain⟨a,c,rfl,hc,a7,H0⟩:=h.open;unfold maxLen at a7
 by_cases h4:xs.length=4
 .have e1:KX xs=xs.all (Bd · 0 9999):=by simp[KX,h4]
  have hb:((xs.length:Int)==4)=true:=by simp[h4]
  have H:=AA e1;clear e1;clear h4;go_in;go_wp2_with (go_at_call 128;refine(M9 137 #[] (fun x=>!Bd x 0 9999) _ xs _ h (fun _ _=>by kernel_rfl) (fun x w=>Sl x w)).mono ?_;rintro e w' ⟨rfl,rfl⟩);go_ret;exact⟨AI (by rw[H.out,Uw]),rfl⟩
 .have e1:KX xs=false:=by simp[KX,h4]
  have hb:((xs.length:Int)==4)=false:=by simp;omega
  have H:=AA e1;clear e1;clear h4;go_in;go_wp2_with fail;go_ret;exact⟨AI H.out.symm,rfl⟩
structure Qw where
 k:Int
 a:Int
 x:Int
 ck:Int
 ce:Int
 ca:Int
 cb:Int
 cc:Int
 nm:ByteArray
def Qw.cells (s:Qw):Array Value:= #[.int .i64 s.k, .int .i64 s.a, .int .i64 s.x, .int .i64 s.ck, .int .i64 s.ce, .int .i64 s.ca, .int .i64 s.cb, .int .i64 s.cc, .string s.nm]
def Qw.val (s:Qw):Value:= .agg s.cells
def Qw.ok (s:Qw):Bool:=if s.k=1 then Bd s.a 0 63 else if s.k=2 then Bd s.a 0 63&&Bd s.x 0 9999 else if s.k=3 then Bd s.ce 1 2 else false
theorem QY (n:Int) (w:World):
 Calls prog 85 #[.int .i64 n] w fun e w'=>e= .returned (.bool (Bd n 0 63))/\w=w':=by
 go_in;go_wp2_with (go_at_call 35;refine(Do _ _ _ _).mono ?_;rintro e w' ⟨rfl,rfl⟩);go_ret;exact⟨rfl,rfl⟩
theorem Jn (n:Int) (w:World):
 Calls prog 154 #[.int .i64 n] w fun e w'=>e= .returned (.bool (Bd n 0 63))/\w=w':=by
 go_in;go_wp2_with (go_at_call 24;refine(Cv _ _ _ _).mono ?_;rintro e w' ⟨rfl,rfl⟩);go_ret;exact⟨rfl,rfl⟩
theorem Em (n:Int) (w:World):Calls prog 71 #[.int .i64 n] w fun e w'=>e= .returned (.bool (Bd n 0 11))/\w=w':=by go_in;go_wp2_with (go_at_call 35;refine(Do _ _ _ _).mono ?_;rintro e w' ⟨rfl,rfl⟩);go_ret;exact⟨rfl,rfl⟩
theorem Nt (n:Int) (w:World):Calls prog 223 #[.int .i64 n] w fun e w'=>e= .returned (.bool (Bd n 0 3))/\w=w':=by go_in;go_wp2_with (go_at_call 35;refine(Do _ _ _ _).mono ?_;rintro e w' ⟨rfl,rfl⟩);go_ret;exact⟨rfl,rfl⟩
theorem MD (n:Int) (w:World):Calls prog 21 #[.int .i64 n] w fun e w'=>e= .returned (.bool (Bd n 0 15))/\w=w':=by go_in;go_wp2_with (go_at_call 35;refine(Do _ _ _ _).mono ?_;rintro e w' ⟨rfl,rfl⟩);go_ret;exact⟨rfl,rfl⟩
theorem Ip (f:Int) (w:World) (h0:0<=f) (h1:f<=11):Calls prog 56 #[.int .i64 f, .bool true] w fun e w'=>e= .returned (.tuple #[.int .i64 (Gv f), .bool true])/\w=w':=by have H:=AA (show Bd f 0 11=true from Ac.2 ⟨h0,h1⟩);go_in;go_wp2_with (go_at_call 71;refine(Em _ _).mono ?_;rintro e w' ⟨rfl,rfl⟩;rw[H.out]);go_ret2;exact⟨rfl,rfl⟩
theorem Nl (f:Int) (b:Bool) (w:World) (h:Bd f 0 11=false):Calls prog 56 #[.int .i64 f, .bool b] w fun e w'=>e= .returned (.tuple #[.int .i64 0, .bool false])/\w=w':=by have H:=AA h;clear h;go_in;go_wp2_with (go_at_call 71;refine(Em _ _).mono ?_;rintro e w' ⟨rfl,rfl⟩;rw[H.out]);go_ret2;exact⟨rfl,rfl⟩
theorem Tz (h:Bf x=true):0<x/\x<48/\x%2=1:=by simp only[Bf,yt,decide_eq_true_eq] at h;omega
theorem Ty (h:Bf x=true):((A8 x:Nat):Int)=x/4:=by have:=Tz h;unfold A8;omega
def Sf (x:Int):Value:= .tuple #[.int .i64 (if Bf x then((A8 x:Nat):Int) else 0), .bool (Bf x&&KF x), .bool (Bf x)]
theorem ER (h:Bf x=true):Sf x= .tuple #[.int .i64 ((A8 x:Nat):Int), .bool (KF x), .bool true]:=by simp[Sf,h]
theorem Eb (h:Bf x=false):Sf x= .tuple #[.int .i64 0, .bool false, .bool false]:=by simp[Sf,h]
theorem FN (x:Int) (w:World) (hx:x<=9223372036854775807):Calls prog 126 #[.int .i64 x] w fun e w'=>e= .returned (Sf x)/\w=w':=by
 by_cases h0:x<0
 .have E:=AA (Eb (x:=x) (by simp[Bf];omega))
  go_in;go_wp2_with fail;go_ret3;exact⟨Ng E.out.symm,rfl⟩
 .have cV:0<=x:=by omega
  by_cases h1:x%2=0
  .have E:=AA (Eb (x:=x) (by simp[Bf];omega))
   have t:(x%2==0)=true:=by simp[h1]
   clear h1;go_in;go_wp2_with fail;go_ret3;exact⟨Ng E.out.symm,rfl⟩
  .have t:(x%2==0)=false:=by simp;omega
   cases hb:Bd (x/4) 0 11
   focus
    have E:=AA (Eb (x:=x) (by have:=VX.1 hb;simp[Bf];omega))
    have H:=AA hb;clear hb h1
   rotate_left
   focus
    have hg:Bf x=true:=by have:=Ac.1 hb;simp[Bf];omega
    have W:KF x=(x%4==3):=by cases h:(x%4==3)<;>simp_all[KF]
    have E:=AA (show Sf x= .tuple #[.int .i64 (x/4), .bool (x%4==3), .bool true] by rw[ER hg,Ty hg,W]);clear W;have H:=AA hb;clear hb h1 hg
   rotate_left
   all_goals
    go_in;go_wp2_with (go_at_call 71;refine(Em _ _).mono ?_;rintro e w' ⟨rfl,rfl⟩;rw[H.out]);go_ret3;exact⟨Ng E.out.symm,rfl⟩
theorem Og (a:Nat) (w:World) (h:a<64):Calls prog 135 #[.int .i64 a] w fun e w'=>e= .returned (.tuple #[.int .i64 ((a/16:Nat):Int), .int .i64 ((a/4%4:Nat):Int), .int .i64 ((a%4:Nat):Int), .bool true])/\w=w':=by
 have H:=AA (show Bd (a:Int) 0 63=true from Ac.2 (by omega));have e1:(a:Int)/16=((a/16:Nat):Int):=by omega
 have e2:(a:Int)/4%4=((a/4%4:Nat):Int):=by omega
 have e3:(a:Int)%4=((a%4:Nat):Int):=by omega
 have E:=AA (And.intro e1 (And.intro e2 e3));clear e1 e2 e3;go_in;go_wp2_with (go_at_call 85;refine(QY _ _).mono ?_;rintro e w' ⟨rfl,rfl⟩;rw[H.out]);refine bodyPost_ret (v:= .tuple #[.int .i64 ((a:Int)/16), .int .i64 ((a:Int)/4%4), .int .i64 ((a:Int)%4), .bool true]) (by simp[results,Tryz.results135,go_sem]) rfl ⟨?_,rfl⟩;rw[E.out.1,E.out.2.1,E.out.2.2]
theorem Ko (k:Int) (w:World):Calls prog 134 #[.int .i64 k] w fun e w'=>e= .returned (.int .i64 (Ua k))/\w=w':=by
 by_cases h3:k=3
 .subst h3
  go_in;go_wp2_with fail;go_ret;exact⟨rfl,rfl⟩
 .have t3:(k==3)=false:=by simp[h3]
  by_cases h2:k=2
  .subst h2
   go_in;go_wp2_with fail;go_ret;exact⟨rfl,rfl⟩
  .have t2:(k==2)=false:=by simp[h2]
   have E:=AA (show Ua k=0 by simp[Ua,Bb,h2,h3]);clear h2 h3;go_in;go_wp2_with fail;go_ret;exact⟨Cn E.out.symm,rfl⟩
theorem IT (k:Int) (w:World):Calls prog 74 #[.int .i64 k] w fun e w'=>e= .returned (.bool (Bb k))/\w=w':=by
 by_cases h2:k=2
 .subst h2
  go_in;go_wp2_with fail;go_ret;exact⟨rfl,rfl⟩
 .have t2:(k==2)=false:=by simp[h2]
  have E:=AA (show Bb k=(k==3) by cases h:(k==3)<;>simp_all[Bb]);clear h2;go_in;go_wp2_with fail;go_ret;exact⟨AI E.out.symm,rfl⟩
theorem OJ {k:Nat} (h:k<s.size) (hc:E9 s[k]=false):BN s=false:=by
 have:s.data.toList.all E9=false:=by rw[wk];exact⟨s[k],by simp[uZ],by simp[hc]⟩
 simp[BN,this]
theorem TM {s:ByteArray} (h:∀k (hk:k<s.size),E9 s[k]=true):BN s=decide ((s.size:Int)<=4):=by
 have:s.data.toList.all E9=true:=by rw[yk];intro x hx;obtain⟨k,hk,rfl⟩:=wO hx;have:=h k (by simpa using hk);simpa[uZ] using this
 rw[BN,this,Bool.true_and]
 by_cases h4:s.size<=4
 .have:(s.size:Int)<=4:=by omega
  simp[h4,this]
 .have:¬(s.size:Int)<=4:=by omega
  simp[h4,this]
theorem ED (s:ByteArray) (w:World) (hs:s.size<=maxLen):
 Calls prog 172 #[.string s] w fun e w'=>e= .returned (.bool (BN s))/\w=w':=by
 unfold maxLen at hs;go_in;go_wp2_with fail;go_loop [3] (fun i=>∃k:Nat,k<=s.size/\i= .int .i64 k/\∀j (hj:j<s.size),j<k->E9 s[j]=true) (fun i=>s.size - (intOf i).toNat)
 case atStart=>exact⟨0,Nat.zero_le _,rfl,fun j _ hj=>absurd hj (xR _)⟩
 case round=>
  obtain⟨k,hk,rfl,bd⟩:=hrel;have a8:=AA bd;clear bd
  by_cases ax:k<s.size
  .by_cases h1:s[k].toNat<97
   .have S:=AA (OJ (s:=s) ax (by simp[E9];omega))
    have t1:(s[k].toNat:Int)<97:=by omega
    go_wp2_with fail;go_ret;exact⟨AI S.out.symm,rfl⟩
   .by_cases h2:99<s[k].toNat
    .have S:=AA (OJ (s:=s) ax (by simp[E9];omega))
     have t1:(99:Int)<s[k].toNat:=by omega
     have t2:¬(s[k].toNat:Int)<97:=by omega
     go_wp2_with fail;go_ret;exact⟨AI S.out.symm,rfl⟩
    .have Ok:=AA (show E9 s[k]=true by simp[E9];omega)
     have t1:¬(99:Int)<s[k].toNat:=by omega
     have t2:¬(s[k].toNat:Int)<97:=by omega
     go_wp2_with fail;go_round
     case rel=>exact⟨k+1,by omega,by go_num,fun j hj cD=>by
      rcases Nat.lt_succ_iff_lt_or_eq.1 cD with h|h
      .exact a8.out j hj h
      .subst h;exact Ok.out⟩
     case measure=>simp[intOf];omega
  .have S:=AA (TM (s:=s) (fun j hj=>a8.out j hj (by omega)))
   go_wp2_with fail;go_ret;exact⟨AI S.out.symm,rfl⟩
theorem KS {f:FuncId} {ae:Array Value} {w:World} (h:Calls P f ae (w.drewN n) fun e w'=>e= .returned v/\w.drewN n=w'):Calls P f ae (w.drewN n) fun e a9=>e= .returned v/\∃m,a9=w.drewN m:=
 h.mono fun _ _ ⟨he,hm⟩=>⟨he,n,hm.symm⟩
theorem OZ {w wr:World} (h:∃n,wr=w.drewN n) (m:Nat):∃n,wr.drewN m=w.drewN n:=by obtain⟨n,rfl⟩:=h;exact⟨n+m,Kv w n m⟩
theorem Iv {k:Nat} (h:k<ss.length) (hc:Cq ss k=false):BO ss=false:=by have:(yE ss.length).all (Cq ss)=false:=wk.2 ⟨k,yj.2 h,by simp[hc]⟩;simp[BO,this]
theorem Lz (h:∀k,k<ss.length->Cq ss k=true):BO ss=decide ((ss.length:Int)<=6):=by
 have:(yE ss.length).all (Cq ss)=true:=yk.2 fun k hk=>h k (yj.1 hk)
 rw[BO,this,Bool.true_and]
 by_cases h4:ss.length<=6
 .have:(ss.length:Int)<=6:=by omega
  simp[h4,this]
 .have:¬(ss.length:Int)<=6:=by omega
  simp[h4,this]
theorem SJ.str {w:World} {a:Option Addr} (h:SJ 1 BB w a ss) {k:Nat} (hk:k<ss.length):∃b ab,a=some ⟨b,ab,none⟩/\w.cell? ⟨b,ab+k,none⟩=some (.string (DZ ss k)):=by obtain⟨b,ab,rfl,_,hc⟩:=h k _ (IH hk);exact⟨b,ab,rfl,by simpa using hc 0 _ rfl⟩
def DP (ss:List ByteArray):Prop:=∀s∈ss,s.size<=maxLen
theorem DP.nth (h:DP ss) {k:Nat} (hk:k<ss.length):(DZ ss k).size<=maxLen:=h _ (yg (IH hk))
theorem GC (v:Value) (ss:List ByteArray) (w:World) (h:BP w v ss) (hs:DP ss):
 Calls prog 144 #[v] w fun e w'=>e= .returned (.bool (BO ss))/\∃n,w'=w.drewN n:=by
 obtain⟨a,c,rfl,hc,a7,H0⟩:=BJ.open Gp (by decide) h;unfold maxLen at a7;have Hs:=AA hs;clear hs h;go_in;go_wp2_with fail;go_loopw [3] (fun i wr=>∃k:Nat,k<=ss.length/\i= .int .i64 k/\(∀j,j<k->Cq ss j=true)/\∃n,wr=w.drewN n) (fun i _=>ss.length - (intOf i).toNat)
 case atStart=>exact⟨0,Nat.zero_le _,rfl,fun j hj=>absurd hj (xR _),0,rfl⟩
 case round=>
  obtain⟨k,hk,rfl,bd,hw⟩:=hrel;have a8:=AA bd;clear bd;have Hw:=AA hw;clear hw
  by_cases ax:k<ss.length
  .obtain⟨b,ab,rfl,D0⟩:=H0.str ax
   have D:wr.cell? ⟨b,ab+k,none⟩=some (.string (DZ ss k)):=by obtain⟨n,rfl⟩:=Hw.out;exact D0
   have cq:(k:Int)<ss.length:=by omega
   have ci:=Hs.out.nth ax;cases bf:BN (DZ ss k)
   .have S:=AA (Iv ax (by simp[Cq,bf]))
    have HQ:=AA (show ∀W,Calls prog 172 #[.string (DZ ss k)] W fun e w'=>e= .returned (.bool false)/\W=w' from fun W=>by have:=ED (DZ ss k) W ci;rwa [bf] at this);clear bf D0;go_wp2_with fail;go_quiet ((go_at_call 172;exact KS (HQ.out _)));go_wp2_with fail;go_ret;exact⟨AI S.out.symm,OZ Hw.out _⟩
   .have HQ:=AA (show ∀W,Calls prog 172 #[.string (DZ ss k)] W fun e w'=>e= .returned (.bool true)/\W=w' from fun W=>by have:=ED (DZ ss k) W ci;rwa [bf] at this)
    by_cases b4:k=0
    .have Ok:=AA (show Cq ss k=true by simp[Cq,bf];exact .inl b4)
     have t0:decide (0<k)=false:=by simp;omega
     clear bf b4 D0;go_wp2_with fail;go_quiet ((go_at_call 172;exact KS (HQ.out _)));go_wp2_with fail;go_roundw
     case rel=>exact⟨k+1,by omega,by go_num,Aj a8.out Ok.out,OZ Hw.out _⟩
     case measure=>simp[intOf];omega
    .obtain⟨b',bm,bK,E0⟩:=H0.str (show k - 1<ss.length by omega)
     obtain⟨rfl,rfl⟩:b=b'/\ab=bm:=by simpa using bK
     have E:wr.cell? ⟨b,ab+(k - 1),none⟩=some (.string (DZ ss (k - 1))):=by obtain⟨n,rfl⟩:=Hw.out;exact E0
     have t0:decide (0<k)=true:=by simp;omega
     have cM:(0:Int)<k:=by omega
     have s0:wR.wrap ((k:Int) - 1)=(k:Int) - 1:=xy _ (by omega);have s1:((k:Int) - 1).toNat=k - 1:=by omega
     have s2:(k:Int) - 1<ss.length:=by omega
     have s3:(1:Int)<=k:=by omega
     have s4:(0:Int)<=(k:Int) - 1:=by omega
     clear D0 E0 bK;cases bk:Th (DZ ss (k - 1)) (DZ ss k)
     .have Ok:=AA (show Cq ss k=true by simp[Cq,bf,bk])
      have hL:wj (DZ ss (k - 1)).toList (DZ ss k).toList=true:=by simpa[Th] using bk
      clear bf bk;go_wp2_with fail;go_quiet ((go_at_call 172;exact KS (HQ.out _)));go_wp2_with fail;go_roundw
      case rel=>exact⟨k+1,by omega,by go_num,Aj a8.out Ok.out,OZ Hw.out _⟩
      case measure=>simp[intOf];omega
     .have S:=AA (Iv ax (by simp[Cq,bf,bk,b4]))
      have hL:wj (DZ ss (k - 1)).toList (DZ ss k).toList=false:=by simpa[Th] using bk
      clear bf bk;go_wp2_with fail;go_quiet ((go_at_call 172;exact KS (HQ.out _)));go_wp2_with fail;go_ret;exact⟨AI S.out.symm,OZ Hw.out _⟩
  .have S:=AA (Lz (ss:=ss) (fun j hj=>a8.out j (by omega)))
   go_wp2_with fail;go_ret;exact⟨AI S.out.symm,Hw.out⟩
end Go.Proofs.YtinbcpipjfljeaaGreatDoor
