/-
  Packed:17 texts.
-/
import Derived.Test.YtpdjjjdkhedibaaGreatDoorY1
import Derived.Lib.QuietBelow
import Derived.Outline
import Derived.Lib.SliceRun
set_option linter.unusedVariables false
set_option linter.unusedSimpArgs false
set_option maxHeartbeats 16000000
set_option maxRecDepth 100000
open Go Go.Proofs.YtpdjjjdkhedibaaGreatDoor
open Bool renaming and_eq_true->yp,not_eq_false->xo,not_eq_true'->tp,or_eq_true->xl
open _root_.ByteArray renaming getElem_eq_getElem_data->uZ
open Decidable renaming not_not->uU
open Go.Builtin renaming clear_->uB,zeroCells->xK
open Go.IntKind renaming i64->wT
open Go.IntWalk renaming i64_in->xy
open Go.Proofs.YtpdjjjdkhedibaaGreatDoor renaming named->yx
open Go.RowKit.Below renaming refl->yD
open Go.Sort renaming grow->vJ
open Go.World renaming block_lt_of_cell?->yA
open Go.World.ownsRow renaming cellAt->xB,frozenAt->xN
open Int renaming emod_lt_of_pos->vI,emod_nonneg->uv,tmod_eq_emod_of_nonneg->wy,toNat_natCast->yb
open List renaming all_eq_false->wg,all_eq_true->yd,any_eq_true->vo,countP_cons->xC,countP_le_length->vO,countP_pos_iff->uR,count_eq_zero->uN,drop_drop->uY,ext_getElem?->tj,filter_append->wE,filter_eq_self->tG,findIdx_getElem->vd,findIdx_lt_length->vt,foldl_cons->yy,getElem?_eq_getElem->yu,getElem?_eq_some_iff->yr,getElem?_of_mem->xj,getElem?_take_eq_none->ut,getElem?_take_of_lt->vC,getElem_mem->td,isEmpty->uK,length_set->xS,length_take->xT,map_append->xE,mem_cons_self->vz,mem_of_getElem?->ye,mem_range->xU,range->yC,range_succ->wZ,sum_append->wS
open Nat renaming add_zero->xL,eq_zero_or_pos->vQ,le_refl->yt,le_trans->yB,lt_of_lt_of_le->xX,lt_succ_iff_lt_or_eq->xq,mod_eq_of_lt->sW,mod_lt->th,mul_le_mul_right->vE,not_lt_zero->xP,zero_le->yh
variable {m:List (List Int)} {N f n t:Nat} {x:Int} {P:Program} {R o v:Value} {w' w0:World} {ss:List ByteArray}
namespace Go.Proofs.YtpdjjjdkhedibaaGreatDoor
open Go.Proofs.Tryz
def AZ(k:AN)(e:Nat):Int:=(AJ k.zX e).root
def A5(k:AN)(e:Nat):List ByteArray:=(AJ k.zX e).zT
def Ax(k:AN)(f:Nat):Int:=(zS k.zZ f).k
def Sn(x:AU):Prop:=(x.k=0/\x.g=⟨#[]⟩)∨(1<=x.k/\x.k<=3/\BP x.g=true)
def Lk(m:List (List Int))(zZ:List AU)(g t:Nat):Nat:=if Bd (zS zZ t).k then(named (AH m t)).count g else 0
theorem EV{zZ:List AU}{g:Nat}:countP m zZ g=((yC 12).map (Lk m zZ g)).sum:=rfl
theorem H6{k:Int}:Bd k=true↔k=2∨k=3:=by simp[Bd]
structure DJ(k:AN):Prop where
 mem:Bs k.mem=true
 len:k.zZ.length=12
 inf:∀f,f<12->Sn (zS k.zZ f)
 zW:BT k.zW=true
 zN:k.zX.length=3
 zT:∀e,e<3->BQ (A5 k e)=true
 roots:∀e,e<3->AZ k e= -1∨(0<=AZ k e/\AZ k e<=11/\Ax k (AZ k e).toNat=3)
 allow:∀e,e<3->∀f,f∈BZ k.mem (AZ k e)->Bv (A5 k e) (zS k.zZ f).g=true
 tabs:∀f,f<12->Bd (Ax k f)=true->∀w∈AH k.mem f,(Bh w=true/\A9 w≠f/\Ax k (A9 w)=Ax k f - 1)∨w=0
 refs:∀f,f<12->(zS k.zZ f).r=(countP k.mem k.zZ f:Int)+(EQ k.zX f:Int)
 trans:∀x∈k.zW,Cn k x=true
theorem Gt{zX:List EU}(h:zX.length=3)(g:Nat):EQ zX g=EC (decide ((AJ zX 0).root=(g:Int)))+EC (decide ((AJ zX 1).root=(g:Int)))+EC (decide ((AJ zX 2).root=(g:Int))):=by
 match zX,h with
 | [a,b,c],_=>simp only[EQ,xC,List.countP_nil,AJ,EC];simp;omega
section
variable {k:AN} (h:DJ k)
include h
theorem DJ.row(hf:f<12):(AH k.mem f).length=4:=(A3.1 ((Ai.1 h.mem).2 f hf)).1
theorem DJ.word{i:Nat}(hf:f<12)(hi:i<4):0<=Ar k.mem f i/\Ar k.mem f i<=9999:=(A3.1 ((Ai.1 h.mem).2 f hf)).2 _ (DH (by rw[h.row hf];exact hi))
theorem DJ.named{g:Nat}(hf:f<12)(ht:Bd (Ax k f)=true)(hg:g∈named (AH k.mem f)):g<12/\g≠f/\Ax k g=Ax k f - 1:=by
 obtain⟨w,hw,h1,rfl⟩:=FM.1 hg
 rcases h.tabs f hf ht w hw with⟨_,a,b⟩|rfl
 .exact⟨EP h1,a,b⟩
 .simp[Bh] at h1
theorem DJ.zy{e:Nat}(he:e<3)(hr:0<=AZ k e):(AZ k e).toNat<12/\Ax k (AZ k e).toNat=3:=by
 rcases h.roots e he with a|⟨a,b,c⟩
 .omega
 .exact⟨by omega,c⟩
theorem DJ.zK{e:Nat}(he:e<3)(hr:0<=AZ k e)(ht:t∈yx (AH k.mem (AZ k e).toNat)):t<12/\Ax k t=2:=by obtain⟨a,b⟩:=h.zy he hr;have:=h.named a (by rw[b];rfl) ht;exact⟨this.1,by omega⟩
theorem DJ.zi{e:Nat}(he:e<3)(hr:0<=AZ k e)(ht:t∈yx (AH k.mem (AZ k e).toNat))(hf:f∈yx (AH k.mem t)):f<12/\Ax k f=1:=by obtain⟨a,b⟩:=h.zK he hr ht;have:=h.named a (by rw[b];rfl) hf;exact⟨this.1,by omega⟩
theorem DJ.zw{e:Nat}(he:e<3)(hf:f∈BZ k.mem (AZ k e)):f<12/\1<=Ax k f:=by
 obtain⟨hr,h1⟩:=DY.1 hf
 rcases h1 with rfl|h1|⟨t,ht,h1⟩
 .have:=h.zy he hr;exact⟨this.1,by omega⟩
 .have:=h.zK he hr h1;exact⟨this.1,by omega⟩
 .have:=h.zi he hr ht h1;exact⟨this.1,by omega⟩
theorem DJ.cnt_zero{g:Nat}(hg:g<12):Lk k.mem k.zZ g g=0:=by
 unfold Lk
 split
 .rename_i ht
  rw[uN];intro hm;exact(h.named hg ht hm).2.1 rfl
 .rfl
theorem DJ.yO{g:Nat}(ht:t<12):Lk k.mem k.zZ g t<=4:=by
 unfold Lk
 split
 .have h1:(yx (AH k.mem t)).count g<=_:=List.count_le_length
  have h2:=FJ (r:=AH k.mem t);rw[h.row ht] at h2;omega
 .omega
theorem DJ.count_le{g:Nat}(hg:g<12):countP k.mem k.zZ g<=44:=by
 have:((yC 12).map (Lk k.mem k.zZ g)).sum+4<=4*12:=WS hg (λt ht=>h.yO (g:=g) ht) (h.cnt_zero hg);rw[EV];omega
theorem DJ.yP(hf:f<12):0<=(zS k.zZ f).r/\(zS k.zZ f).r<=47:=by
 have h1:=h.count_le hf;have h2:EQ k.zX f<=3:=by
  have:=vO (p:=λe:EU=>decide (e.root=(f:Int))) (l:=k.zX);rw[h.zN] at this;exact this
 rw[h.refs f hf];omega
theorem DJ.unused(hf:f<12)(h0:(zS k.zZ f).r=0):(∀t,t<12->Bd (Ax k t)=true->f∉yx (AH k.mem t))/\∀e,e<3->AZ k e≠(f:Int):=by
 have h1:=h.refs f hf;have h2:countP k.mem k.zZ f=0:=by omega
 have h3:EQ k.zX f=0:=by omega
 rw[EV,LY] at h2;constructor
 .intro t ht bq hm
  have:=h2 t ht;unfold Lk Ax at*;rw[if_pos bq,uN] at this;exact this hm
 .intro e he
  rw[Gt h.zN] at h3;unfold EC at h3;have:e=0∨e=1∨e=2:=by omega
  intro hr;unfold AZ at hr
  rcases this with rfl|rfl|rfl<;>simp[hr] at h3
theorem DJ.zr(hf:f<12)(h0:Ax k f=0):(zS k.zZ f).r=0:=by
 rw[h.refs f hf];have h2:countP k.mem k.zZ f=0:=by
  rw[EV,LY];intro t ht;unfold Lk
  split
  .rename_i bq
   rw[uN];intro hm;have:=(h.named ht bq hm).2.2;have:Ax k t=2∨Ax k t=3:=H6.1 bq;omega
  .rfl
 have h3:EQ k.zX f=0:=by
  rw[Gt h.zN];have cw:∀e,e<3->EC (decide ((AJ k.zX e).root=(f:Int)))=0:=by
   intro e he;unfold EC
   by_cases hr:(AJ k.zX e).root=(f:Int)
   .exfalso
    have:AZ k e=(f:Int):=hr;have:=h.zy he (by omega);rw[‹AZ k e=(f:Int)›] at this;simp at this;omega
   .simp[hr]
  rw[cw 0 (by omega),cw 1 (by omega),cw 2 (by omega)]
 omega
theorem DJ.yQ{e a:Nat}(he:e<3)(hr:0<=AZ k e)(hw:(Bu k.mem (AZ k e).toNat a).1=0):(Bu k.mem (AZ k e).toNat a).2.1<12/\Ax k (Bu k.mem (AZ k e).toNat a).2.1=1/\(Bu k.mem (AZ k e).toNat a).2.1∈BZ k.mem (AZ k e):=by
 unfold Bu at hw ⊢
 split at hw
 .rename_i h1
  split at hw
  .rename_i h2
   rw[if_pos h1,if_pos h2];have m1:=Je h1;have m2:=Je h2;have:=h.zi he hr m1 m2;exact⟨this.1,this.2,DY.2 ⟨hr,.inr (.inr ⟨_,m1,m2⟩)⟩⟩
  .simp at hw
 .simp at hw
end
theorem XU{x:AU}(h:Sn x)(h0:0<=x.r)(h1:x.r<=50)(hz:x.k=0->x.r=0):DI x=true:=by
 rcases h with⟨a,b⟩|⟨a,b,c⟩
 .have:x=AU.zero:=by
   obtain⟨k,g,r⟩:=x;simp at a b hz;subst a b;simp[AU.zero,hz rfl]
  simp[DI,this]
 .simp[DI,Be,a,b,c,h0,h1]
theorem XT{x:AU}(h:DI x=true):Sn x:=by
 unfold DI at h;simp only[xl,decide_eq_true_eq,yp,Ab] at h
 rcases h with rfl|⟨⟨⟨a,b⟩,c⟩,_⟩
 .exact .inl ⟨rfl,rfl⟩
 .exact .inr ⟨a,b,c⟩
theorem Az{l:List AU}:BI l=true↔l.length=12/\∀f,f<12->DI (zS l f)=true:=by
 simp only[BI,yp,yd,decide_eq_true_eq];constructor
 .rintro⟨h1,h2⟩
  exact⟨h2,λf hf=>h1 _ (DH (by omega))⟩
 .rintro⟨h1,h2⟩
  refine⟨λr hr=>?_,h1⟩;obtain⟨i,hi,rfl⟩:=If (d:=AU.zero) hr;exact h2 i (by omega)
theorem Lo{zZ:List AU}{kind:Int}{zT:List ByteArray}{w:Int}:FQ zZ f kind zT w=true↔(Bh w=true/\A9 w≠f/\(zS zZ (A9 w)).k=kind - 1/\Bv zT (zS zZ (A9 w)).g=true)∨(Bh w=false/\w=0):=by unfold FQ;cases h:Bh w<;>simp[and_assoc]
theorem Ln{m:List (List Int)}{zZ:List AU}{f:Nat}{kind:Int}{zT:List ByteArray}:Iw m zZ f kind zT=true↔∀w∈AH m f,FQ zZ f kind zT w=true:=by simp[Iw,yd]
theorem Rj{zX:List EU}(h:zX.length=3){p:EU->Bool}:zX.all p=true↔∀e,e<3->p (AJ zX e)=true:=by
 rw[yd];constructor
 .intro hp e he
  exact hp _ (DH (by omega))
 .intro hp x hx
  obtain⟨i,hi,rfl⟩:=If (d:=⟨[],0⟩) hx;exact hp i (by omega)
theorem EZ{k:AN}:Cl k=true↔DJ k:=by
 unfold Cl;simp only[yp,Lv];constructor
 .rintro⟨⟨⟨⟨⟨⟨h1,h2⟩,h3⟩,h4⟩,h5⟩,h6⟩,h7⟩
  unfold Iq at h4;simp only[yp,decide_eq_true_eq] at h4;obtain⟨h4,hl⟩:=h4;rw[Rj hl] at h4;rw[Az] at h2;have hE:∀e,e<3->BQ (A5 k e)=true/\(AZ k e= -1∨(0<=AZ k e/\AZ k e<=11)/\Ax k (AZ k e).toNat=3)/\BG k.zZ (BZ k.mem (AZ k e)) (A5 k e)=true:=by intro e he;have:=h4 e he;unfold Du at this;simp only[yp,xl,decide_eq_true_eq,Ab] at this;exact⟨this.1.1,this.1.2,this.2⟩
  refine⟨h1,h2.1,λf hf=>XT (h2.2 f hf),h3,hl,λe he=>(hE e he).1,λe he=>?_,λe he=>Fu.1 (hE e he).2.2,λf hf ht w hw=>?_,λf hf=>?_,λx hx=>yd.1 h7 x hx⟩
  .rcases(hE e he).2.1 with a|⟨⟨a,b⟩,c⟩
   .exact .inl a
   .exact .inr ⟨a,b,c⟩
  .have:=h5 f hf
   unfold Da at this;unfold Ax at ht;rw[ht,Bool.not_true,Bool.false_or,Ln] at this
   rcases Lo.1 (this w hw) with⟨a,b,c,_⟩|⟨_,a⟩
   .exact .inl ⟨a,b,c⟩
   .exact .inr a
  .have:=h6 f hf
   simpa[Gs] using this
 .intro h
  refine⟨⟨⟨⟨⟨⟨h.mem,?_⟩,h.zW⟩,?_⟩,λf hf=>?_⟩,λf hf=>?_⟩,yd.2 h.trans⟩
  .rw[Az]
   refine⟨h.len,λf hf=>XU (h.inf f hf) (h.yP hf).1 (by have:=(h.yP hf).2;omega) (λh0=>h.zr hf h0)⟩
  .unfold Iq
   simp only[yp,decide_eq_true_eq];refine⟨?_,h.zN⟩;rw[Rj h.zN];intro e he;unfold Du;simp only[yp,xl,decide_eq_true_eq,Ab];refine⟨⟨h.zT e he,?_⟩,Fu.2 (h.allow e he)⟩
   rcases h.roots e he with a|⟨a,b,c⟩
   .exact .inl a
   .exact .inr ⟨⟨a,b⟩,c⟩
  .unfold Da
   simp only[xl,tp];cases ht:Bd (zS k.zZ f).k
   .exact .inl rfl
   .right
    rw[Ln];intro w hw;rw[Lo]
    rcases h.tabs f hf ht w hw with⟨a,b,c⟩|rfl
    .exact .inl ⟨a,b,c,Y0 _⟩
    .exact .inr ⟨rfl,rfl⟩
  .simp[Gs,h.refs f hf]
theorem Gi{l:List AU}{g:Nat}{x:AU}:zS (l.set f x) g=if g=f/\f<l.length then x else zS l g:=JX
theorem FW{l:List AU}{g:Nat}{u:AU->AU}:zS (As l f u) g=if g=f/\f<l.length then u (zS l f) else zS l g:=MT
theorem GK{l:List EU}{g:Nat}{u:EU->EU}:AJ (As l f u) g=if g=f/\f<l.length then u (AJ l f) else AJ l g:=MT
theorem DJ.data{k:AN}(h:DJ k){f:Nat}(hf:f<12)(hk:Ax k f=0∨Ax k f=1){row:List Int}(bm:Di row=true){x:AU}(hx:Sn x)(cP:x.k=0∨x.k=1)(hr:x.r=(zS k.zZ f).r)
 (cf:(x.k=Ax k f/\x.g=(zS k.zZ f).g)∨(zS k.zZ f).r=0){zW:List Al}(hc:BT zW=true)(ht:∀y∈zW,Cn k y=true):DJ ⟨k.mem.set f row,k.zZ.set f x,k.zX,zW⟩:=by
 have dl:=(Ai.1 h.mem).1;have a6:∀g,g≠f->AH (k.mem.set f row) g=AH k.mem g:=λg hg=>by rw[Nw,if_neg (by rintro⟨a,_⟩;exact hg a)]
 have az:∀g,g≠f->zS (k.zZ.set f x) g=zS k.zZ g:=λg hg=>by rw[Gi,if_neg (by rintro⟨a,_⟩;exact hg a)]
 have bi:zS (k.zZ.set f x) f=x:=by rw[Gi,if_pos ⟨rfl,by rw[h.len];exact hf⟩]
 have bq:∀t,Bd (zS (k.zZ.set f x) t).k=true->t≠f/\Bd (Ax k t)=true:=by
  intro t ht
  by_cases e:t=f
  .subst e
   rw[bi,H6] at ht;omega
  .rw[az t e] at ht
   exact⟨e,ht⟩
 have cW:∀t,Bd (Ax k t)=true->t≠f:=by intro t ht e;subst e;rw[H6] at ht;omega
 have bu:∀t g,t<12->Bd (Ax k t)=true->g∈yx (AH k.mem t)->(zS (k.zZ.set f x) g).k=Ax k g/\(zS (k.zZ.set f x) g).g=(zS k.zZ g).g:=by
  intro t g ht be hg
  by_cases e:g=f
  .subst e
   rw[bi]
   rcases cf with hs|h0
   .exact hs
   .exact absurd hg ((h.unused hf h0).1 t ht be)
  .rw[az g e];exact⟨rfl,rfl⟩
 have ay:∀e,e<3->0<=AZ k e->(AZ k e).toNat≠f:=λe he h0=>cW _ (by rw[(h.zy he h0).2];rfl)
 have cj:∀e,e<3->0<=AZ k e->∀t,t∈yx (AH k.mem (AZ k e).toNat)->t≠f:=λe he h0 t ht=>cW _ (by rw[(h.zK he h0 ht).2];rfl)
 have b2:∀e,e<3->∀g,g∈BZ (k.mem.set f row) (AZ k e)↔g∈BZ k.mem (AZ k e):=λe he=>OX (λh0=>a6 _ (ay e he h0)) (λh0 t ht=>a6 _ (cj e he h0 t ht))
 refine⟨Ry h.mem bm,by simp[h.len],λg hg=>?_,hc,h.zN,h.zT,λe he=>?_,λe he g hg=>?_,λt ht be w hw=>?_,λg hg=>?_,λy hy=>?_⟩
 .by_cases e:g=f
  .subst e;rw[bi];exact hx
  .rw[az g e];exact h.inf g hg
 .rcases h.roots e he with a|⟨a,b,c⟩
  .exact .inl a
  .refine .inr ⟨a,b,?_⟩
   show(zS (k.zZ.set f x) (AZ k e).toNat).k=3
   rw[az _ (ay e he a)];exact c
 .have bp:=(b2 e he g).1 hg
  have hm:=h.allow e he g bp
  show Bv (A5 k e) (zS (k.zZ.set f x) g).g=true
  obtain⟨h0,h1⟩:=DY.1 bp;have cg:=h.zy he h0;have e:(zS (k.zZ.set f x) g).g=(zS k.zZ g).g:=by
   rcases h1 with rfl|h1|⟨t,h1,h2⟩
   .rw[az _ (ay e he h0)]
   .exact(bu _ g cg.1 (by rw[cg.2];rfl) h1).2
   .have ct:=h.zK he h0 h1
    exact(bu _ g ct.1 (by rw[ct.2];rfl) h2).2
  rw[e];exact hm
 .obtain⟨a3,bz⟩:=bq t be
  rw[show AH (k.mem.set f row) t=AH k.mem t from a6 t a3] at hw
  rcases h.tabs t ht bz w hw with⟨a,b,c⟩|rfl
  .refine .inl ⟨a,b,?_⟩
   have:=(bu t (A9 w) ht bz (FM.2 ⟨w,hw,a,rfl⟩)).1
   show(zS (k.zZ.set f x) (A9 w)).k=(zS (k.zZ.set f x) t).k - 1
   rw[this,az t a3];exact c
  .exact .inr rfl
 .have b4:countP (k.mem.set f row) (k.zZ.set f x) g=countP k.mem k.zZ g:=by
   rw[EV,EV];refine KG λt ht=>?_
   unfold Lk
   by_cases e:t=f
   .subst e
    rw[bi,if_neg (by rw[H6];omega),if_neg (by rw[H6];unfold Ax at hk;omega)]
   .rw[az t e,a6 t e]
  show(zS (k.zZ.set f x) g).r=(countP (k.mem.set f row) (k.zZ.set f x) g:Int)+(EQ k.zX g:Int)
  rw[b4,<-h.refs g hg]
  by_cases e:g=f
  .subst e;rw[bi,hr]
  .rw[az g e]
 .have h1:=ht y hy
  have bC:=(Ep.1 hc).1 y hy;unfold CU at bC;simp only[yp,Ab] at bC;have he:y.e.toNat<3:=by omega
  unfold Cn at h1 ⊢;simp only[yp,decide_eq_true_eq] at h1 ⊢;refine⟨h1.1,?_⟩;have hw:=Qd (m:=k.mem) (m':=k.mem.set f row) (root:=(AZ k y.e.toNat).toNat) (a:=4*y.p.toNat) (a6 _ (ay _ he h1.1)) (λt ht=>a6 _ (cj _ he h1.1 t ht));exact hw.trans h1.2
theorem Nu{zZ:List AU}{fs:List Nat}{n:Int}:(Bi zZ fs n).length=zZ.length:=by
 unfold Bi
 induction fs generalizing zZ with
 |nil=>rfl
 |cons f fs ih=>rw[yy,ih,Cz]
theorem M5{zZ:List AU}{fs:List Nat}{n:Int}{g:Nat}(hg:g<zZ.length):zS (Bi zZ fs n) g= {zS zZ g with r:=(zS zZ g).r+n*(fs.count g:Int)}:=by
 unfold Bi
 induction fs generalizing zZ with
 |nil=>simp
 |cons f fs ih=>
  rw[yy,ih (by rw[Cz];exact hg),FW,List.count_cons]
  by_cases e:g=f
  .subst e
   rw[if_pos ⟨rfl,hg⟩];simp[JS];rw[Int.mul_add];omega
  .rw[if_neg (by rintro⟨a,_⟩;exact e a)]
   have e':¬f=g:=λa=>e a.symm
   simp[e']
theorem DJ.retype{k:AN}(h:DJ k){f:Nat}(hf:f<12)(h0:(zS k.zZ f).r=0){kind n:Int}(cZ:1<=kind)(dp:kind<=3)(dv:Ax k f≠0)
 (hn:(n=1/\Bd (Ax k f)=false/\Bd kind=true)∨(n= -1/\Bd (Ax k f)=true/\Bd kind=false))
 (bY:Bd kind=true->∀w∈AH k.mem f,(Bh w=true/\A9 w≠f/\Ax k (A9 w)=kind - 1)∨w=0):
 DJ {k with zZ:=As (Bi k.zZ (yx (AH k.mem f)) n) f (ER kind)}:=by
 obtain⟨u1,u2⟩:=h.unused hf h0;have hl:(Bi k.zZ (yx (AH k.mem f)) n).length=12:=by rw[Nu,h.len]
 have au:∀g,g<12->zS (As (Bi k.zZ (yx (AH k.mem f)) n) f (ER kind)) g= {(zS k.zZ g) with k:=if g=f then kind else Ax k g,r:=(zS k.zZ g).r+n*((yx (AH k.mem f)).count g:Int)}:=by
  intro g hg;rw[FW,hl]
  by_cases e:g=f
  .subst e
   rw[if_pos ⟨rfl,hf⟩,M5 (by rw[h.len];exact hg)];simp[ER]
  .rw[if_neg (by rintro⟨a,_⟩;exact e a),M5 (by rw[h.len];exact hg)]
   simp[e,Ax]
 have cT:f∉yx (AH k.mem f):=by
  intro hm
  rcases hn with⟨_,_,c⟩|⟨_,b,_⟩
  .obtain⟨w,hw,h1,h2⟩:=FM.1 hm
   rcases bY c w hw with⟨_,a,_⟩|rfl
   .exact a h2
   .simp[Bh] at h1
  .exact u1 f hf b hm
 refine⟨h.mem,by rw[Cz];exact hl,λg hg=>?_,h.zW,h.zN,h.zT,λe he=>?_,λe he g hg=>?_,λt ht be w hw=>?_,λg hg=>?_,h.trans⟩
 .show Sn (zS (As _ f (ER kind)) g)
  rw[au g hg]
  by_cases e:g=f
  .subst e
   rcases h.inf g hg with⟨a,b⟩|⟨a,b,c⟩
   .exact absurd a dv
   .right;simp;exact⟨cZ,dp,c⟩
  .simp only[e,if_false]
   exact h.inf g hg
 .rcases h.roots e he with a|⟨a,b,c⟩
  .exact .inl a
  .refine .inr ⟨a,b,?_⟩
   show(zS (As _ f (ER kind)) (AZ k e).toNat).k=3
   rw[au _ (by omega)];have:(AZ k e).toNat≠f:=λe'=>u2 e he (by omega)
   simp only[this,if_false];exact c
 .show Bv (A5 k e) (zS (As _ f (ER kind)) g).g=true
  have:=h.allow e he g hg;rw[au _ (h.zw he hg).1];exact this
 .have ax:Bd (zS (As (Bi k.zZ (yx (AH k.mem f)) n) f (ER kind)) t).k=true:=be
  rw[au t ht] at ax
  show(Bh w=true/\A9 w≠t/\(zS (As (Bi k.zZ (yx (AH k.mem f)) n) f (ER kind)) (A9 w)).k=(zS (As (Bi k.zZ (yx (AH k.mem f)) n) f (ER kind)) t).k - 1)∨w=0
  rw[au t ht]
  by_cases e:t=f
  .subst e
   simp only[if_true] at ax
   rcases bY ax w hw with⟨a,b,c⟩|rfl
   .refine .inl ⟨a,b,?_⟩
    rw[au _ (EP a)];simp only[if_true,b,if_false];exact c
   .exact .inr rfl
  .simp only[e,if_false] at ax
   rcases h.tabs t ht ax w hw with⟨a,b,c⟩|rfl
   .refine .inl ⟨a,b,?_⟩
    rw[au _ (EP a)];have:A9 w≠f:=λe'=>u1 t ht ax (FM.2 ⟨w,hw,a,e'⟩)
    simp only[this,if_false,e];exact c
   .exact .inr rfl
 .show(zS (As (Bi k.zZ (yx (AH k.mem f)) n) f (ER kind)) g).r=(countP k.mem (As (Bi k.zZ (yx (AH k.mem f)) n) f (ER kind)) g:Int)+(EQ k.zX g:Int)
  rw[au g hg];have bb:=Ly (F:=Lk k.mem (As (Bi k.zZ (yx (AH k.mem f)) n) f (ER kind)) g) (G:=Lk k.mem k.zZ g) hf (λt ht a3=>by unfold Lk;rw[au t ht];simp only[a3,if_false];rfl)
  rw[<-EV,<-EV] at bb;have c1:Lk k.mem (As (Bi k.zZ (yx (AH k.mem f)) n) f (ER kind)) g f=if Bd kind then(yx (AH k.mem f)).count g else 0:=by unfold Lk;rw[au f hf];simp
  have c2:Lk k.mem k.zZ g f=if Bd (Ax k f) then(yx (AH k.mem f)).count g else 0:=rfl
  rw[c1,c2] at bb;have:=h.refs g hg
  rcases hn with⟨rfl,a,b⟩|⟨rfl,a,b⟩
  .rw[a,b] at bb
   simp at bb ⊢;omega
  .rw[a,b] at bb
   simp at bb ⊢;omega
theorem FU{zZ:List AU}(h:¬Am zZ<0):(Am zZ).toNat<zZ.length/\(zS zZ (Am zZ).toNat).k=0/\0<=Am zZ:=by
 unfold Am at h ⊢
 split
 .rename_i ha
  obtain⟨x,hx,hs⟩:=Lj.1 ha;have hl:zZ.findIdx (λx=>decide (x.k=0))<zZ.length:=vt.2 ⟨x,hx,hs⟩;refine⟨by simpa using hl,?_,by omega⟩;have:=vd (w:=hl);simpa[zS,hl] using this
 .rename_i ha
  rw[if_neg ha] at h;omega
theorem NF{α:Type}{l:List α}{i:Nat}{d:α}:l.set i (l.getD i d)=l:=by
 apply tj;intro j;rw[List.getElem?_set]
 by_cases h:i=j
 .subst h
  by_cases h2:i<l.length
  .simp[h2]
  .simp[h2]
 .simp[h]
theorem ZO{k:AN}(h:DJ k){c:Aa}:DJ (Ix k c).1:=by
 unfold Ix
 split
 .exact h
 .rename_i hn
  split
  .exact h
  .split
   .exact h
   .rename_i hf
    obtain⟨a,b,_⟩:=FU hf;rw[h.len] at a;have hr:=h.zr a b;refine h.data (x:=⟨1,c.nm,0⟩) a (.inl b) (by decide) (.inr ⟨by show(1:Int)<=1;omega,by show(1:Int)<=3;omega,by simpa using hn⟩) (.inr rfl) hr.symm (.inr hr) h.zW h.trans
theorem Yf{k:AN}(h:DJ k){c:Aa}(ha:c.a.toNat<12):DJ (J4 k c).1:=by
 unfold J4
 split
 .exact h
 .rename_i hk
  split
  .exact h
  .rename_i hr
   have hr:(zS k.zZ c.a.toNat).r=0:=by omega
   have:=h.data (x:=AU.zero) ha (.inr (by unfold Ax;omega)) ((Ai.1 h.mem).2 _ ha) (.inl ⟨rfl,rfl⟩) (.inl rfl) hr.symm (.inr hr) h.zW h.trans;rw[show k.mem.set c.a.toNat (AH k.mem c.a.toNat)=k.mem from NF] at this;exact this
theorem Wo{k:AN}(h:DJ k){f i:Nat}{w:Int}(hf:f<12)(hk:Ax k f=1)(hw:EA w=true){zW:List Al}(hc:BT zW=true)(ht:∀y∈zW,Cn k y=true):DJ {k with mem:=CZ k.mem f i w,zW:=zW}:=by have:=h.data (x:=zS k.zZ f) hf (.inr hk) (SY (i:=i) (w:=w) ((Ai.1 h.mem).2 _ hf) hw) (h.inf f hf) (.inr hk) rfl (.inl ⟨rfl,rfl⟩) hc ht;rw[show k.zZ.set f (zS k.zZ f)=k.zZ from NF] at this;rw[ND];exact this
theorem ZC{k:AN}(h:DJ k){c:Aa}(ha:c.a.toNat<12):DJ (KB k c).1:=by
 unfold KB
 split
 .exact h
 .rename_i hn
  simp only[not_or] at hn;obtain⟨h1,h2,h3⟩:=hn;exact Wo h ha (by unfold Ax;omega) (by simpa using h3) h.zW h.trans
theorem SP{k:AN}(h:DJ k){r:List AU×Int}(hr:r.2=0->DJ {k with zZ:=r.1}):DJ (EH k r).1:=by
 unfold EH
 split
 .exact hr ‹_›
 .exact h
theorem Zz{k:AN}(h:DJ k){f:Nat}(hf:f<12){kind:Int}{zT:List ByteArray}(hk:Bd kind=true):(Hy k.mem k.zZ f kind zT).2=0->DJ {k with zZ:=(Hy k.mem k.zZ f kind zT).1}:=by
 unfold Hy
 split
 .intro h;simp at h
 .rename_i hn
  simp only[not_or,uU] at hn
  split
  .intro h;simp at h
  .rename_i hg
   have hg:Iw k.mem k.zZ f kind zT=true:=by simpa using hg
   split
   .intro _
    have dn:=H6.1 hk;refine h.retype hf hn.2 (by omega) (by omega) (by unfold Ax;omega) (.inl ⟨rfl,?_,hk⟩) (λ_ w hw=>?_)
    .unfold Ax;rw[hn.1];rfl
    .rcases Lo.1 (Ln.1 hg w hw) with⟨a,b,c,_⟩|⟨_,a⟩
     .exact .inl ⟨a,b,c⟩
     .exact .inr a
   .intro h;simp at h
theorem X5{k:AN}(h:DJ k){f:Nat}(hf:f<12):(Dm k.mem k.zZ f).2=0->DJ {k with zZ:=(Dm k.mem k.zZ f).1}:=by
 unfold Dm
 split
 .intro h;simp at h
 .rename_i hn
  simp only[not_or,uU,xo] at hn
  split
  .intro _
   have dn:=H6.1 hn.1;exact h.retype hf hn.2 (by omega) (by omega) (by unfold Ax;omega) (.inr ⟨rfl,hn.1,rfl⟩) (λhh=>by simp[Bd] at hh)
  .intro h;simp at h
theorem Cg{zZ:List AU}{w n:Int}:(A4 zZ w n).length=zZ.length:=by
 unfold A4
 split
 .exact Cz
 .rfl
theorem FN{zZ:List AU}{w n:Int}{g:Nat}(hl:zZ.length=12):zS (A4 zZ w n) g= {zS zZ g with r:=(zS zZ g).r+n*(EC (Dd g w):Int)}:=by
 unfold A4
 split
 .rename_i hg
  rw[FW]
  by_cases e:g=A9 w
  .subst e
   rw[if_pos ⟨rfl,by rw[hl];exact EP hg⟩];simp[JS,Dd,hg,EC]
  .have e':¬A9 w=g:=λx=>e x.symm
   rw[if_neg (by rintro⟨a,_⟩;exact e a)];simp[Dd,hg,EC,e']
 .rename_i hg
  simp[Dd,hg,EC]
theorem OA{k:AN}{a e:Nat}:e∈Fd k a↔e<3/\a∈BZ k.mem (AZ k e):=by simp[Fd,AZ]
theorem Z8{k:AN}(h:DJ k){c:Aa}(ha:c.a.toNat<12)(dM:0<=c.c->c.c<=9999∨Bh c.c=true∨c.c=0->EA c.c=true):DJ (Gz k c).1:=by
 unfold Gz
 split
 .exact h
 rename_i hn
 simp only[not_or,xo] at hn;obtain⟨h1,h2,h3⟩:=hn;unfold Dk at h3
 split
 .exact h
 rename_i b5
 have b5:((Fd k c.a.toNat).all λe=>BG k.zZ (DK k c.c) (AJ k.zX e).zT)=true:=by simpa using b5
 split
 .exact h
 rename_i hmay
 generalize hfd:c.a.toNat=f at*;have hb:c.b.toNat<4:=by have:=Ab.1 h2;omega
 generalize hbd:c.b.toNat=b at*;generalize hwd:c.c=w at*;have hl:=h.len;have dl:=(Ai.1 h.mem).1;have dN:=h.row ha;have cz:Bh w=true->Ax k (A9 w)=Ax k f - 1:=by intro hg;rw[if_pos hg] at h3;simpa[Ax] using h3
 have cQ:Bh w=false->w=0:=by intro hg;rw[if_neg (by simp[hg])] at h3;simpa using h3
 have dP:=H6.1 h1;have cd:EA w=true:=by
  cases hg:Bh w
  .rw[cQ hg];rfl
  .have bp:=hg
   simp only[Bh,yp,decide_eq_true_eq] at bp;refine Ab.2 ⟨by omega,by omega⟩
 have cy:Bh w=true->A9 w≠f:=by intro hg e;have:=cz hg;rw[e] at this;omega
 have au:∀g,zS (A4 (A4 k.zZ (Ar k.mem f b) (-1)) w 1) g= {zS k.zZ g with r:=(zS k.zZ g).r+(-1)*(EC (Dd g (Ar k.mem f b)):Int)+1*(EC (Dd g w):Int)}:=by intro g;rw[FN (by rw[Cg];exact hl),FN hl]
 have a8:∀g,(zS (A4 (A4 k.zZ (Ar k.mem f b) (-1)) w 1) g).k=Ax k g:=λg=>by rw[au];rfl
 have b3:∀g,(zS (A4 (A4 k.zZ (Ar k.mem f b) (-1)) w 1) g).g=(zS k.zZ g).g:=λg=>by rw[au]
 have bt:AH (CZ k.mem f b w) f=(AH k.mem f).set b w:=by rw[Gu,if_pos ⟨rfl,by omega⟩]
 have bm:∀g,g≠f->AH (CZ k.mem f b w) g=AH k.mem g:=λg hg=>by rw[Gu,if_neg (by rintro⟨a,_⟩;exact hg a)]
 have bn:∀t g,g∈yx (AH (CZ k.mem f b w) t)->g∈yx (AH k.mem t)∨(t=f/\Bh w=true/\A9 w=g):=by
  intro t g hg
  by_cases e:t=f
  .subst e
   rw[bt] at hg
   rcases Q3 hg with a|a
   .exact .inl a
   .exact .inr ⟨rfl,a⟩
  .rw[bm t e] at hg
   exact .inl hg
 have cV:∀e,e<3->f∉BZ k.mem (AZ k e)->(0<=AZ k e->AH (CZ k.mem f b w) (AZ k e).toNat=AH k.mem (AZ k e).toNat)/\(0<=AZ k e->∀t,t∈yx (AH k.mem (AZ k e).toNat)->AH (CZ k.mem f b w) t=AH k.mem t):=by
  intro e he ci;rw[DY] at ci;refine⟨λh0=>bm _ (λe'=>ci ⟨h0,.inl e'.symm⟩),λh0 t ht=>bm _ (λe'=>ci ⟨h0,.inr (.inl (e'▸ht))⟩)⟩
 refine⟨?_,by rw[Cg,Cg];exact hl,λg hg=>?_,UN h.zW,h.zN,h.zT,λe he=>?_,λe he g hg=>?_,λt ht be x hx=>?_,λg hg=>?_,λy hy=>?_⟩
 .show Bs (CZ k.mem f b w)=true
  rw[ND];exact Ry h.mem (SY ((Ai.1 h.mem).2 f ha) cd)
 .show Sn (zS (A4 (A4 k.zZ (Ar k.mem f b) (-1)) w 1) g)
  rw[au];exact h.inf g hg
 .rcases h.roots e he with x|⟨x,y,z⟩
  .exact .inl x
  .exact .inr ⟨x,y,by show(zS (A4 (A4 k.zZ (Ar k.mem f b) (-1)) w 1) (AZ k e).toNat).k=3;rw[a8];exact z⟩
 .show Bv (A5 k e) (zS (A4 (A4 k.zZ (Ar k.mem f b) (-1)) w 1) g).g=true
  rw[b3]
  by_cases hr:f∈BZ k.mem (AZ k e)
  .have hu:∀g,g∈DK k w->Bv (A5 k e) (zS k.zZ g).g=true:=Fu.1 (yd.1 b5 e (OA.2 ⟨he,hr⟩))
   have a7:∀g,Bh w=true->(A9 w=g∨(Bd (Ax k (A9 w))=true/\g∈yx (AH k.mem (A9 w))))->g∈DK k w:=by
    intro g hg hh;unfold DK;rw[if_pos hg]
    rcases hh with rfl|⟨h1,h2⟩
    .exact vz ..
    .unfold Ax at h1
     rw[if_pos h1];exact List.mem_cons_of_mem _ h2
   obtain⟨h0,bp⟩:=DY.1 hg
   change 0<=AZ k e at h0
   have old:∀g,(g=(AZ k e).toNat∨g∈yx (AH k.mem (AZ k e).toNat)∨∃t,t∈yx (AH k.mem (AZ k e).toNat)/\g∈yx (AH k.mem t))->Bv (A5 k e) (zS k.zZ g).g=true:=λg hh=>h.allow e he g (DY.2 ⟨h0,hh⟩)
   rcases bp with bp|bp|⟨t,ht,bp⟩
   .exact old g (.inl bp)
   .rcases bn _ _ bp with a|⟨_,a,b⟩
    .exact old g (.inr (.inl a))
    .exact hu g (a7 g a (.inl b))
   .rcases bn _ _ bp with a|⟨_,a,b⟩
    .rcases bn _ _ ht with a'|⟨er,a',b'⟩
     .exact old g (.inr (.inr ⟨t,a',a⟩))
     .have cg:=(h.zy he h0).2
      change (AZ k e).toNat=f at er
      rw[er] at cg;refine hu g (a7 g a' (.inr ⟨?_,by rw[b'];exact a⟩));rw[cz a',cg];rfl
    .exact hu g (a7 g a (.inl b))
  .obtain⟨r0,r1⟩:=cV e he hr
   exact h.allow e he g ((OX r0 r1 g).1 hg)
 .have ax:Bd (zS (A4 (A4 k.zZ (Ar k.mem f b) (-1)) w 1) t).k=true:=be
  rw[a8] at ax
  show(Bh x=true/\A9 x≠t/\(zS (A4 (A4 k.zZ (Ar k.mem f b) (-1)) w 1) (A9 x)).k=(zS (A4 (A4 k.zZ (Ar k.mem f b) (-1)) w 1) t).k - 1)∨x=0
  rw[a8,a8];have bK:x∈AH (CZ k.mem f b w) t:=hx
  by_cases e:t=f
  .subst e
   rw[bt] at bK
   rcases List.mem_or_eq_of_mem_set bK with bK|rfl
   .exact h.tabs t ht ax x bK
   .cases hg:Bh x
    .exact .inr (cQ hg)
    .exact .inl ⟨rfl,cy hg,cz hg⟩
  .rw[bm t e] at bK
   exact h.tabs t ht ax x bK
 .show(zS (A4 (A4 k.zZ (Ar k.mem f b) (-1)) w 1) g).r=(countP (CZ k.mem f b w) (A4 (A4 k.zZ (Ar k.mem f b) (-1)) w 1) g:Int)+(EQ k.zX g:Int)
  have bb:=Ly (F:=Lk (CZ k.mem f b w) (A4 (A4 k.zZ (Ar k.mem f b) (-1)) w 1) g) (G:=Lk k.mem k.zZ g) ha (λt ht a3=>by unfold Lk;rw[a8,bm t a3];rfl)
  rw[<-EV,<-EV] at bb;have c1:Lk (CZ k.mem f b w) (A4 (A4 k.zZ (Ar k.mem f b) (-1)) w 1) g f=(yx ((AH k.mem f).set b w)).count g:=by unfold Lk;rw[a8,bt];exact if_pos h1
  have c2:Lk k.mem k.zZ g f=(yx (AH k.mem f)).count g:=if_pos h1;have c3:(yx ((AH k.mem f).set b w)).count g+EC (Dd g (Ar k.mem f b))=(yx (AH k.mem f)).count g+EC (Dd g w):=Xh (show b<(AH k.mem f).length by omega);rw[c1,c2] at bb;have:=h.refs g hg;rw[au];simp only;omega
 .obtain⟨b9,cO⟩:=XH.1 hy
  have h4:=h.trans y b9;have bC:=(Ep.1 h.zW).1 y b9;unfold CU at bC;simp only[yp,Ab] at bC;have he:y.e.toNat<3:=by omega
  have ci:f∉BZ k.mem (AZ k y.e.toNat):=λhr=>cO y.e.toNat (OA.2 ⟨he,hr⟩) (by omega)
  obtain⟨r0,r1⟩:=cV _ he ci;unfold Cn at h4 ⊢;simp only[yp,decide_eq_true_eq] at h4 ⊢;exact⟨h4.1,(Qd (a:=4*y.p.toNat) (r0 h4.1) (r1 h4.1)).trans h4.2⟩
def GE(zZ:List AU)(old new:Int):List AU:=
 if 0<=new then As (if 0<=old then As zZ old.toNat (JS (-1)) else zZ) new.toNat (JS 1) else(if 0<=old then As zZ old.toNat (JS (-1)) else zZ)
theorem WI{zZ:List AU}{old new:Int}:(GE zZ old new).length=zZ.length:=by
 unfold GE
 split<;>split<;>simp[Cz]
theorem SV{zZ:List AU}{old new:Int}{g:Nat}(hl:zZ.length=12)(hg:g<12):zS (GE zZ old new) g= {zS zZ g with r:=(zS zZ g).r - (EC (decide (old=(g:Int))):Int)+(EC (decide (new=(g:Int))):Int)}:=by
 have h1:zS (if 0<=old then As zZ old.toNat (JS (-1)) else zZ) g= {zS zZ g with r:=(zS zZ g).r - (EC (decide (old=(g:Int))):Int)}:=by
  split
  .rw[FW]
   by_cases e:g=old.toNat
   .rw[if_pos ⟨e,by omega⟩,<-e]
    have:old=(g:Int):=by omega
    simp[JS,EC,this];omega
   .rw[if_neg (by rintro⟨a,_⟩;exact e a)]
    have:¬old=(g:Int):=by omega
    simp[EC,this]
  .have:¬old=(g:Int):=by omega
   simp[EC,this]
 have h2:(if 0<=old then As zZ old.toNat (JS (-1)) else zZ).length=12:=by split<;>simp[Cz,hl]
 unfold GE
 split
 .rw[FW,h2]
  by_cases e:g=new.toNat
  .rw[if_pos ⟨e,by omega⟩,<-e,h1]
   have:new=(g:Int):=by omega
   simp[JS,EC,this]
  .rw[if_neg (by rintro⟨a,_⟩;exact e a),h1]
   have:¬new=(g:Int):=by omega
   simp[EC,this]
 .rw[h1]
  have:¬new=(g:Int):=by omega
  simp[EC,this]
theorem Xw{zX:List EU}(hl:zX.length=3){e g:Nat}(he:e<3){n:Int}:EQ (As zX e (Dn n)) g+EC (decide ((AJ zX e).root=(g:Int)))=EQ zX g+EC (decide (n=(g:Int))):=by
 rw[Gt (by rw[Cz];exact hl),Gt hl];simp only[GK,hl];have:e=0∨e=1∨e=2:=by omega
 rcases this with rfl|rfl|rfl<;>simp[Dn]<;>omega
theorem WJ{zX:List EU}(hl:zX.length=3){e g:Nat}{ss:List ByteArray}:EQ (As zX e (BU ss)) g=EQ zX g:=by
 rw[Gt (by rw[Cz];exact hl),Gt hl];simp only[GK]
 by_cases h0:0=e/\e<zX.length<;>by_cases h1:1=e/\e<zX.length<;>by_cases h2:2=e/\e<zX.length<;>simp only[h0,h1,h2,if_true,if_false,BU]<;>(try (obtain⟨rfl,_⟩:=h0))<;>(try (obtain⟨rfl,_⟩:=h1))<;>(try (obtain⟨rfl,_⟩:=h2))<;>simp
theorem ZH{k:AN}(h:DJ k){c:Aa}(he:0<=c.e/\c.e<=2):DJ (Ob k c).1:=by
 unfold Ob
 split
 .exact h
 rename_i h1
 split
 .exact h
 rename_i h2
 have h2:BG k.zZ (BZ k.mem c.a) (A5 k c.e.toNat)=true:=by simpa[A5] using h2
 rw[Fu] at h2;have cl:c.e.toNat<3:=by omega
 generalize hed:c.e.toNat=e at*;generalize c.a=n at*;have h1:n= -1∨(0<=n/\n<=11/\Ax k n.toNat=3):=by
  by_cases hn:n= -1
  .exact .inl hn
  .right
   have h1:¬(Be n 0 11=false∨(zS k.zZ n.toNat).k≠3):=λhh=>h1 ⟨hn,hh⟩
   simp only[not_or,xo,uU] at h1;have:=Ab.1 h1.1;exact⟨this.1,this.2,h1.2⟩
 show DJ ⟨k.mem,GE k.zZ (AZ k e) n,As k.zX e (Dn n),Fz k.zW c.e⟩
 have au:=λg (hg:g<12)=>SV (zZ:=k.zZ) (old:=AZ k e) (new:=n) (g:=g) h.len hg
 have bk:∀j,AJ (As k.zX e (Dn n)) j=if j=e then⟨A5 k e,n⟩ else AJ k.zX j:=by
  intro j;rw[GK,h.zN]
  by_cases hj:j=e
  .rw[if_pos ⟨hj,cl⟩,if_pos hj];rfl
  .rw[if_neg (by rintro⟨a,_⟩;exact hj a),if_neg hj]
 refine⟨h.mem,by rw[WI];exact h.len,λg hg=>?_,UM h.zW,by rw[Cz];exact h.zN,λj hj=>?_,λj hj=>?_,λj hj g hg=>?_,λt ht be x hx=>?_,λg hg=>?_,λy hy=>?_⟩
 .show Sn (zS (GE _ _ _) g)
  rw[au g hg];exact h.inf g hg
 .show BQ (AJ (As k.zX e (Dn n)) j).zT=true
  rw[bk]
  split
  .exact h.zT e cl
  .exact h.zT j hj
 .show(AJ (As k.zX e (Dn n)) j).root= -1∨(0<=(AJ (As k.zX e (Dn n)) j).root/\(AJ (As k.zX e (Dn n)) j).root<=11/\(zS (GE k.zZ (AZ k e) n) (AJ (As k.zX e (Dn n)) j).root.toNat).k=3)
  rw[bk]
  split
  .rcases h1 with h1|⟨a,b,d⟩
   .exact .inl h1
   .refine .inr ⟨a,b,?_⟩
    rw[au _ (by simp;omega)];exact d
  .rcases h.roots j hj with x|⟨x,y,z⟩
   .exact .inl x
   .refine .inr ⟨x,y,?_⟩
    have hx:(AJ k.zX j).root=AZ k j:=rfl;rw[hx,au _ (by omega)];exact z
 .have br:g∈BZ k.mem (AJ (As k.zX e (Dn n)) j).root:=hg
  show Bv (AJ (As k.zX e (Dn n)) j).zT (zS (GE k.zZ (AZ k e) n) g).g=true
  rw[bk] at br ⊢
  by_cases b7:j=e
  .simp only[b7,if_true] at br ⊢
   have cJ:g<12:=by
    obtain⟨h0,hh⟩:=DY.1 br
    rcases hh with rfl|hh|⟨t,_,hh⟩
    .rcases h1 with h1|h1<;>omega
    .exact FL hh
    .exact FL hh
   rw[au g cJ];exact h2 g br
  .simp only[b7,if_false] at br ⊢
   rw[au g (h.zw hj br).1];exact h.allow j hj g br
 .have ax:Bd (zS (GE k.zZ (AZ k e) n) t).k=true:=be
  rw[au t ht] at ax
  show(Bh x=true/\A9 x≠t/\(zS (GE k.zZ (AZ k e) n) (A9 x)).k=(zS (GE k.zZ (AZ k e) n) t).k - 1)∨x=0
  rcases h.tabs t ht ax x hx with⟨a,b,d⟩|rfl
  .refine .inl ⟨a,b,?_⟩
   rw[au t ht,au _ (EP a)];exact d
  .exact .inr rfl
 .show(zS (GE k.zZ (AZ k e) n) g).r=(countP k.mem (GE k.zZ (AZ k e) n) g:Int)+(EQ (As k.zX e (Dn n)) g:Int)
  have hc:countP k.mem (GE k.zZ (AZ k e) n) g=countP k.mem k.zZ g:=by
   rw[EV,EV];refine KG λt ht=>?_
   unfold Lk;rw[au t ht]
  have hr:=Xw (g:=g) h.zN cl (n:=n);have:=h.refs g hg;rw[hc,au g hg];have e':(AJ k.zX e).root=AZ k e:=rfl;rw[e'] at hr;simp only;omega
 .obtain⟨b9,cO⟩:=Rh.1 hy
  have h4:=h.trans y b9;have bC:=(Ep.1 h.zW).1 y b9;unfold CU at bC;simp only[yp,Ab] at bC;have a3:y.e.toNat≠e:=by omega
  unfold Cn at h4 ⊢;rw[show AJ (AN.zX ⟨k.mem,GE k.zZ (AZ k e) n,As k.zX e (Dn n),Fz k.zW c.e⟩) y.e.toNat=AJ k.zX y.e.toNat from by show AJ (As k.zX e (Dn n)) y.e.toNat=_;rw[bk,if_neg a3]];exact h4
theorem DJ.zh{k:AN}(h:DJ k){e:Nat}(he:e<3){ss:List ByteArray}(hs:BQ ss=true)(ha:∀f,f∈BZ k.mem (AZ k e)->Bv ss (zS k.zZ f).g=true):DJ {k with zX:=As k.zX e (BU ss)}:=by
 have bk:∀j,AJ (As k.zX e (BU ss)) j=if j=e then⟨ss,AZ k e⟩ else AJ k.zX j:=by
  intro j;rw[GK,h.zN]
  by_cases hj:j=e
  .rw[if_pos ⟨hj,he⟩,if_pos hj];rfl
  .rw[if_neg (by rintro⟨a,_⟩;exact hj a),if_neg hj]
 have ay:∀j,(AJ (As k.zX e (BU ss)) j).root=AZ k j:=by
  intro j;rw[bk]
  split
  .rename_i hj;rw[hj]
  .rfl
 refine⟨h.mem,h.len,h.inf,h.zW,by rw[Cz];exact h.zN,λj hj=>?_,λj hj=>?_,λj hj g hg=>?_,h.tabs,λg hg=>?_,λy hy=>?_⟩
 .show BQ (AJ (As k.zX e (BU ss)) j).zT=true
  rw[bk]
  split
  .exact hs
  .exact h.zT j hj
 .show(AJ (As k.zX e (BU ss)) j).root= -1∨(0<=(AJ (As k.zX e (BU ss)) j).root/\(AJ (As k.zX e (BU ss)) j).root<=11/\(zS k.zZ (AJ (As k.zX e (BU ss)) j).root.toNat).k=3)
  rw[ay];exact h.roots j hj
 .have br:g∈BZ k.mem (AJ (As k.zX e (BU ss)) j).root:=hg
  show Bv (AJ (As k.zX e (BU ss)) j).zT (zS k.zZ g).g=true
  rw[ay] at br;rw[bk]
  split
  .rename_i b7
   rw[b7] at br;exact ha g br
  .exact h.allow j hj g br
 .show(zS k.zZ g).r=(countP k.mem k.zZ g:Int)+(EQ (As k.zX e (BU ss)) g:Int)
  rw[WJ h.zN];exact h.refs g hg
 .have h4:=h.trans y hy
  unfold Cn at h4 ⊢;rw[show(AJ (AN.zX {k with zX:=As k.zX e (BU ss)}) y.e.toNat).root=(AJ k.zX y.e.toNat).root from ay _];exact h4
theorem XS{k:AN}(h:DJ k){c:Aa}:DJ (LF k c).1:=by
 unfold LF
 split
 .exact h
 rename_i h1
 simp only[not_or,xo] at h1;have:=Ab.1 h1.1
 split
 .exact h
 split
 .exact h
 exact h.zh (by omega) (YP (h.zT _ (by omega)) h1.2) (λf hf=>Xf (λs hs=>YO hs) (h.allow _ (by omega) f hf))
theorem WG{k:AN}(h:DJ k){c:Aa}:DJ (Jp k c).1:=by
 unfold Jp
 split
 .exact h
 rename_i h1
 simp only[not_or,xo] at h1;have:=Ab.1 h1.1
 split
 .exact h
 split
 .exact h
 rename_i h3
 have h3:=Fu.1 (show BG k.zZ (BZ k.mem (AZ k c.a.toNat)) (DB (AJ k.zX c.a.toNat).zT c.nm)=true by simpa[AZ] using h3);exact h.zh (by omega) (XI (h.zT _ (by omega))) h3
theorem aC{k:AN}(h:DJ k){c:Aa}(he:0<=c.e/\c.e<=2):DJ (Qa k c).1:=by
 unfold Qa;simp only
 split
 .exact h
 rename_i h1
 simp only[not_or,xo] at h1;obtain⟨ha,hr,hb⟩:=h1
 split
 .exact h
 rename_i hw
 split
 .exact h
 have cl:c.e.toNat<3:=by omega
 have hr:0<=AZ k c.e.toNat:=by unfold AZ;omega
 have hw:(Bu k.mem (AZ k c.e.toNat).toNat c.a.toNat).1=0:=by simpa[AZ] using hw
 obtain⟨hf,hk,_⟩:=h.yQ cl hr hw;have ha:=Ab.1 ha;have hC:BT (if IB k.zW c.e (c.a/4)<0 then My k.zW ⟨c.e,c.a/4,((Bu k.mem (AZ k c.e.toNat).toNat c.a.toNat).2.1:Nat),(Bu k.mem (AZ k c.e.toNat).toNat c.a.toNat).2.2⟩ else k.zW)=true:=by
  split
  .refine Wp h.zW ?_
   simp only[CU,yp,Ab];omega
  .exact h.zW
 have hT:∀y∈(if IB k.zW c.e (c.a/4)<0 then My k.zW ⟨c.e,c.a/4,((Bu k.mem (AZ k c.e.toNat).toNat c.a.toNat).2.1:Nat),(Bu k.mem (AZ k c.e.toNat).toNat c.a.toNat).2.2⟩ else k.zW),Cn k y=true:=by
  intro y hy
  split at hy
  .rcases Ux hy with rfl|hy
   .unfold Cn
    simp only[yp,decide_eq_true_eq];refine⟨hr,?_⟩;have e1:4*(c.a/4).toNat/16=c.a.toNat/16:=by omega
    have e2:4*(c.a/4).toNat/4%4=c.a.toNat/4%4:=by omega
    have e3:Bu k.mem (AJ k.zX c.e.toNat).root.toNat (4*(c.a/4).toNat)=Bu k.mem (AZ k c.e.toNat).toNat c.a.toNat:=by unfold Bu;rw[e1,e2];rfl
    rw[e3,yb];exact Prod.ext hw rfl
   .exact h.trans y hy
  .exact h.trans y hy
 split
 .rename_i h11
  refine Wo h hf hk ?_ hC hT;simp only[not_and,xo] at hb;exact hb h11
 .have:=h.data (x:=zS k.zZ (Bu k.mem (AZ k c.e.toNat).toNat c.a.toNat).2.1) hf (.inr hk) ((Ai.1 h.mem).2 _ hf) (h.inf _ hf) (.inr hk) rfl (.inl ⟨rfl,rfl⟩) hC hT
  rw[show k.zZ.set _ (zS k.zZ (Bu k.mem (AZ k c.e.toNat).toNat c.a.toNat).2.1)=k.zZ from NF,show k.mem.set _ (AH k.mem (Bu k.mem (AZ k c.e.toNat).toNat c.a.toNat).2.1)=k.mem from NF] at this;exact this
theorem XM{k:AN}(h:DJ k){c:Aa}:DJ (Gh k c).1:=by
 unfold Gh
 split
 .exact h
 rename_i h1
 simp only[not_or,xo,not_and] at h1;have ha:=Ab.1 h1.1;have cn:c.a.toNat<12:=by omega
 split
 .exact h
 split
 .exact Yf h cn
 split
 .exact ZC h cn
 split
 .rename_i h4
  exact SP h (Zz h cn (h1.2.2 h4))
 split
 .exact SP h (X5 h cn)
 exact Z8 h cn (λh0 hh=>by
  rcases hh with hh|hh|hh
  .exact Ab.2 ⟨h0,hh⟩
  .simp only[Bh,yp,decide_eq_true_eq] at hh
   exact Ab.2 ⟨by omega,by omega⟩
  .rw[hh];rfl)
theorem Mi{k:AN}(h:DJ k){c:Aa}(he:0<=c.e/\c.e<=2):DJ (Ad k c).1:=by
 unfold Ad
 split
 .exact ZO h
 split
 .exact XM h
 split
 .exact ZH h he
 split
 .exact XS h
 split
 .exact WG h
 split
 .exact aC h he
 .exact h
structure Bk where
 w:Int
 a:Int
 u:Bool
 deriving DecidableEq
structure AR where
 zV:AN
 swap:List (List Int)
 low:List Int
 zY:List Bk
 zR:Int
 zU:Int
 deriving DecidableEq
def gA:ByteArray:=⟨#[97]⟩
def AB(l:List Bk)(n:Nat):Bk:=l.getD n ⟨0,0,false⟩
def BJ(l:List Int)(n:Nat):Int:=l.getD n 0
def FE(s:List (List Int)):Bool:=s.all (λr=>r.isEmpty||Di r)&&decide (s.length=16)
def Hh(f:Int):Int:=4*f+3
def Fm(zZ:List AU)(f:Nat):Bool:=decide ((zS zZ f).g=gA)&&decide ((zS zZ f).r=1)
def Fa(p:AR)(i:Nat):Bool:=Be (BJ p.low i) 0 11&&decide (Ar p.zV.mem (AZ p.zV 0).toNat i=Hh (BJ p.low i))&&Fm p.zV.zZ (BJ p.low i).toNat
def Bt(p:AR):Bool:=decide (0<=AZ p.zV 0)&&decide (p.low.length=4)&&Fm p.zV.zZ (AZ p.zV 0).toNat&&(yC 4).all (Fa p)
def Br(p:AR)(n:Nat):Int:=Ar p.zV.mem (BJ p.low (n/4)).toNat (n%4)
def GL(p:AR)(n:Nat):Bool:=
 if(AB p.zY n).w=0 then decide ((AB p.zY n).a=0)&&!(AB p.zY n).u&&decide (Br p n=0)
 else if(AB p.zY n).w=1 then Be (AB p.zY n).a 0 11&&decide (Br p n=Hh (AB p.zY n).a)&&Fm p.zV.zZ (AB p.zY n).a.toNat
 else if(AB p.zY n).w=2 then Be (AB p.zY n).a 0 15&&!(AH p.swap (AB p.zY n).a.toNat).isEmpty&&!(AB p.zY n).u&&decide (Br p n=0)
 else false
def Cu(s:Nat)(x:Bk):Bool:=decide (x.w=2)&&decide (x.a=(s:Int))
def Bz(zY:List Bk)(s:Nat):Nat:=zY.countP (Cu s)
def Do(p:AR)(s:Nat):Bool:=decide (Bz p.zY s=if(AH p.swap s).isEmpty then 0 else 1)
def Gb(k:AN):Bool:=Bv (A5 k 0) gA&&!Bv (A5 k 1) gA&&!Bv (A5 k 2) gA
def Nn(w:Int)(x:Bk):Bool:=decide (x.w=w)
def Ac(zY:List Bk)(w:Int):Nat:=zY.countP (Nn w)
def Bg(p:AR):Bool:=
 Cl p.zV&&FE p.swap&&Gb p.zV&&Bt p&&decide (p.zY.length=16)&&(yC 16).all (Do p)&&(yC 16).all (GL p)&&Be p.zR 0 15&&Be p.zU 1 6&&decide ((Ac p.zY 1:Int)<=p.zU)
def Ah(kind a b c:Int):Aa:=⟨kind,0,a,b,c,gA⟩
def IS(p:AR)(n:Nat)(w:Int):Aa:=Ah 6 (BJ p.low (n/4)) ((n%4:Nat):Int) w
def Ea(h:Int):Int:=(h+1)%16
def NI(x:Bk):Bk:= {x with u:=false}
def CQ:Nat->List Bk->Int->List Bk×Int×Option Nat
 |0,zY,zR=>(zY,zR,none)
 |n+1,zY,zR=>
  if(AB zY zR.toNat).w=1/\(AB zY zR.toNat).u=false then(zY,Ea zR,some zR.toNat)
  else CQ n (zY.set zR.toNat (NI (AB zY zR.toNat))) (Ea zR)
def BY(s:List (List Int)):Int:=if s.any uK then(s.findIdx uK:Nat) else -1
def EL(p:AR)(n:Nat):AR:=
 {p with zV:=(Ad (Ad p.zV (IS p n 0)).1 (Ah 2 (AB p.zY n).a 0 0)).1,swap:=p.swap.set (BY p.swap).toNat (AH p.zV.mem (AB p.zY n).a.toNat),zY:=p.zY.set n ⟨2,BY p.swap,false⟩}
def Uv(k:AN)(f:Int)(ws:List Int):AN:=(yC 4).foldl (λk i=>(Ad k (Ah 3 f (i:Nat) (ws.getD i 0))).1) k
def Oh(p:AR)(n:Nat):AR×Bool:=
 let r:=Ad p.zV (Ah 1 0 0 0)
 if r.2.2≠0 then(p,false)
 else
  let x:=AB p.zY n
  let k2:=if x.w=2 then Uv r.1 r.2.1 (AH p.swap x.a.toNat) else r.1
  ({p with zV:=(Ad k2 (IS p n (Hh r.2.1))).1,swap:=if x.w=2 then p.swap.set x.a.toNat [] else p.swap,zY:=p.zY.set n ⟨1,r.2.1,true⟩},true)
def FF(zY:List Bk)(n:Nat):List Bk:=zY.set n {AB zY n with u:=true}
def Ib(p:AR):Bool:=decide (Am p.zV.zZ<0)||decide ((Ac p.zY 1:Int)=p.zU)
def BV(p:AR)(n:Nat):AR×Bool:=
 if(AB p.zY n).w=1 then({p with zY:=FF p.zY n},true)
 else if Am p.zV.zZ<0/\Ac p.zY 1=0 then(p,false)
 else if Ib p then
  match CQ 32 p.zY p.zR with
  |(zY,zR,some m)=>Oh (EL {p with zY:=zY,zR:=zR} m) n
  |(_,_,none)=>(p,false)
 else Oh p n
def Kl(p:AR)(a:Nat):AR×Int×Bool:=
 let t:=BV p (a/4)
 if t.2 then({t.1 with zV:=(Ad t.1.zV (Ah 10 (a:Int) 0 0)).1},(Ad t.1.zV (Ah 10 (a:Int) 0 0)).2.1,true) else(t.1,0,false)
def Iu(p:AR)(a:Nat)(w:Int):AR×Bool:=
 let t:=BV p (a/4)
 if t.2 then({t.1 with zV:=(Ad t.1.zV (Ah 11 (a:Int) w 0)).1},true) else(t.1,false)
def Nr(p:AR)(c:Aa):AR×Int:=({p with zV:=(Ad p.zV c).1},(Ad p.zV c).2.2)
def Dy(p:AR)(a:Nat):Int:=
 if(AB p.zY (a/4)).w=1 then Ar p.zV.mem (AB p.zY (a/4)).a.toNat (a%4)
 else if(AB p.zY (a/4)).w=2 then Ar p.swap (AB p.zY (a/4)).a.toNat (a%4) else 0
def Kp(zZ:List AU)(f:Nat):Prop:=(zS zZ f).g=gA/\(zS zZ f).r=1
theorem Rz{zZ:List AU}:Fm zZ f=true↔Kp zZ f:=by simp[Fm,Kp]
def KM(p:AR)(n:Nat):Prop:=
 ((AB p.zY n).w=0/\(AB p.zY n).a=0/\(AB p.zY n).u=false/\Br p n=0)∨
 ((AB p.zY n).w=1/\(0<=(AB p.zY n).a/\(AB p.zY n).a<=11)/\Br p n=Hh (AB p.zY n).a/\Kp p.zV.zZ (AB p.zY n).a.toNat)∨
 ((AB p.zY n).w=2/\(0<=(AB p.zY n).a/\(AB p.zY n).a<=15)/\AH p.swap (AB p.zY n).a.toNat≠[]/\(AB p.zY n).u=false/\Br p n=0)
theorem JB{α:Type}{l:List α}:l.isEmpty=true↔l=[]:=List.isEmpty_iff
theorem WD{p:AR}:GL p n=true↔KM p n:=by
 unfold GL KM
 by_cases h0:(AB p.zY n).w=0
 .simp[h0,and_assoc]
 .by_cases h1:(AB p.zY n).w=1
  .simp[h1,and_assoc,Ab,Rz]
  .by_cases h2:(AB p.zY n).w=2
   .simp[h2,and_assoc,Ab]
   .simp[h0,h1,h2]
structure ED(p:AR):Prop where
 k:DJ p.zV
 zD:p.swap.length=16
 zv:∀s,s<16->AH p.swap s=[]∨Di (AH p.swap s)=true
 may:Bv (A5 p.zV 0) gA=true
 alone:∀e,1<=e->e<3->Bv (A5 p.zV e) gA=false
 root:0<=AZ p.zV 0
 zt:p.low.length=4
 yM:Kp p.zV.zZ (AZ p.zV 0).toNat
 lows:∀i,i<4->0<=BJ p.low i/\BJ p.low i<=11/\Ar p.zV.mem (AZ p.zV 0).toNat i=Hh (BJ p.low i)/\Kp p.zV.zZ (BJ p.low i).toNat
 zO:p.zY.length=16
 slots:∀s,s<16->Bz p.zY s=if(AH p.swap s).isEmpty then 0 else 1
 zY:∀n,n<16->KM p n
 zR:0<=p.zR/\p.zR<=15
 zU:1<=p.zU/\p.zU<=6
 count:(Ac p.zY 1:Int)<=p.zU
theorem GF{s:List (List Int)}:FE s=true↔s.length=16/\∀i,i<16->AH s i=[]∨Di (AH s i)=true:=by
 simp only[FE,yp,yd,decide_eq_true_eq,xl,JB];constructor
 .rintro⟨h1,h2⟩
  exact⟨h2,λf hf=>h1 _ (DH (by omega))⟩
 .rintro⟨h1,h2⟩
  refine⟨λr hr=>?_,h1⟩;obtain⟨i,hi,rfl⟩:=If (d:=[]) hr;exact h2 i (by omega)
theorem Dl{p:AR}:Bg p=true↔ED p:=by
 unfold Bg Bt Gb;simp only[yp,Lv,WD,Ab,decide_eq_true_eq,EZ,GF,Do,Fa,Rz,tp];constructor
 .rintro⟨⟨⟨⟨⟨⟨⟨⟨⟨h1,h2⟩,h3⟩,h4⟩,h5⟩,h6⟩,h7⟩,h8⟩,h9⟩,h10⟩
  obtain⟨⟨⟨a,b⟩,c⟩,d⟩:=h4;refine⟨h1,h2.1,h2.2,h3.1.1,λe he dU=>?_,a,b,c,λi hi=>?_,h5,h6,h7,h8,h9,h10⟩
  .have:e=1∨e=2:=by omega
   rcases this with rfl|rfl
   .exact h3.1.2
   .exact h3.2
  .obtain⟨⟨x,y⟩,z⟩:=d i hi
   exact⟨x.1,x.2,y,z⟩
 .intro h
  exact⟨⟨⟨⟨⟨⟨⟨⟨⟨h.k,h.zD,h.zv⟩,⟨h.may,h.alone 1 (by omega) (by omega)⟩,h.alone 2 (by omega) (by omega)⟩,⟨⟨h.root,h.zt⟩,h.yM⟩,λi hi=>by obtain⟨x,y,z,u⟩:=h.lows i hi;exact⟨⟨⟨x,y⟩,z⟩,u⟩⟩,h.zO⟩,h.slots⟩,h.zY⟩,h.zR⟩,h.zU⟩,h.count⟩
theorem Gp{f:Int}(h0:0<=f)(h1:f<=11):Bh (Hh f)=true/\A9 (Hh f)=f.toNat/\KQ (Hh f)=true:=by unfold Bh A9 KQ Hh;simp only[yp,decide_eq_true_eq];refine⟨⟨⟨?_,?_⟩,?_⟩,?_,?_⟩<;>omega
theorem WW{F:Nat->Nat}{a b:Nat}(ha:a<n)(hb:b<n)(a3:a≠b)(h1:1<=F a)(h2:1<=F b):2<=((yC n).map F).sum:=by
 have e1:=Ly (F:=F) (G:=λt=>if t=a then 0 else F t) ha (λt _ a3=>by simp[a3]);have e2:=Ly (F:=λt=>if t=a then 0 else F t) (G:=λt=>if t=b then 0 else if t=a then 0 else F t) hb (λt _ a3=>by simp[a3]);have dy:¬b=a:=λe=>a3 e.symm
 simp only[if_true,dy,if_false] at e1 e2;omega
theorem Pw{F:Nat->Nat}{a:Nat}(ha:a<n):F a<=((yC n).map F).sum:=by
 have e1:=Ly (F:=F) (G:=λt=>if t=a then 0 else F t) ha (λt _ a3=>by simp[a3]);simp only[if_true] at e1;omega
theorem XG{r:List Int}{p:Int->Bool}{i j:Nat}(hi:i<r.length)(hj:j<r.length)(a3:i≠j)(h1:p (r.getD i 0)=true)(h2:p (r.getD j 0)=true):2<=r.countP p:=by
 induction r generalizing i j with
 |nil=>simp at hi
 |cons x r ih=>
  rw[xC];cases i with
  |zero=>
   cases j with
   |zero=>omega
   |succ j=>simp at h1 h2 hj;have:0<r.countP p:=uR.2 ⟨_,DH (d:=0) hj,by simpa using h2⟩;rw[if_pos (by simpa using h1)];omega
  |succ i=>
   cases j with
   |zero=>simp at h1 h2 hi;have:0<r.countP p:=uR.2 ⟨_,DH (d:=0) hi,by simpa using h1⟩;rw[if_pos (by simpa using h2)];omega
   |succ j=>have:=ih (i:=i) (j:=j) (by simpa using hi) (by simpa using hj) (by omega) (by simpa using h1) (by simpa using h2);omega
section
variable {k:AN} (h:DJ k)
include h
theorem DJ.yN{i:Nat}(ht:t<12)(be:Bd (Ax k t)=true)(hi:i<4)(hn:Dd f (Ar k.mem t i)=true):1<=Lk k.mem k.zZ f t:=by unfold Lk;unfold Ax at be;rw[if_pos be,Jn];exact uR.2 ⟨_,DH (d:=0) (by rw[h.row ht];exact hi),hn⟩
theorem DJ.once{i t' i':Nat}(hf:f<12)(h1:(zS k.zZ f).r=1)(ht:t<12)(be:Bd (Ax k t)=true)(hi:i<4)(hn:Dd f (Ar k.mem t i)=true)
 (cR:t'<12)(bz:Bd (Ax k t')=true)(c7:i'<4)(cX:Dd f (Ar k.mem t' i')=true):t=t'/\i=i':=by
 have hr:=h.refs f hf;have hc:countP k.mem k.zZ f<=1:=by omega
 rw[EV] at hc
 by_cases e:t=t'
 .subst e
  refine⟨rfl,?_⟩
  by_cases e:i=i'
  .exact e
  .exfalso
   have h2:2<=Lk k.mem k.zZ f t:=by unfold Lk;unfold Ax at be;rw[if_pos be,Jn];exact XG (by rw[h.row ht];exact hi) (by rw[h.row ht];exact c7) e hn cX
   have:=Pw (F:=Lk k.mem k.zZ f) ht;omega
 .exfalso
  have:=WW (F:=Lk k.mem k.zZ f) ht cR e (h.yN ht be hi hn) (h.yN cR bz c7 cX);omega
theorem DJ.zb{i e:Nat}(hf:f<12)(h1:(zS k.zZ f).r=1)(ht:t<12)(be:Bd (Ax k t)=true)(hi:i<4)(hn:Dd f (Ar k.mem t i)=true)(he:e<3):AZ k e≠(f:Int):=by
 intro hr;have ch:=h.refs f hf;have h2:=Pw (F:=Lk k.mem k.zZ f) ht;have h3:=h.yN ht be hi hn;rw[<-EV] at h2;rw[Gt h.zN] at ch;unfold AZ at hr;have:e=0∨e=1∨e=2:=by omega
 unfold EC at ch
 rcases this with rfl|rfl|rfl<;>simp[hr] at ch<;>split at ch<;>(try split at ch)<;>omega
theorem DJ.named_at{g:Nat}(ht:t<12)(hg:g∈yx (AH k.mem t)):∃i,i<4/\Dd g (Ar k.mem t i)=true:=by obtain⟨w,hw,h1,h2⟩:=FM.1 hg;obtain⟨i,hi,rfl⟩:=If (d:=0) hw;rw[h.row ht] at hi;exact⟨i,hi,by simp only[Dd,Ar,yp];exact⟨h1,decide_eq_true h2⟩⟩
end
section
variable {p:AR} (h:ED p)
include h
theorem ED.zA:(AZ p.zV 0).toNat<12/\Ax p.zV (AZ p.zV 0).toNat=3:=h.k.zy (by omega) h.root
theorem ED.zk{i:Nat}(hi:i<4):Dd (BJ p.low i).toNat (Ar p.zV.mem (AZ p.zV 0).toNat i)=true:=by obtain⟨a,b,c,_⟩:=h.lows i hi;obtain⟨x,y,_⟩:=Gp a b;rw[c];simp[Dd,x,y]
theorem ED.zK{i:Nat}(hi:i<4):(BJ p.low i).toNat<12/\Ax p.zV (BJ p.low i).toNat=2:=by obtain⟨a,b,c,_⟩:=h.lows i hi;obtain⟨x,y,_⟩:=Gp a b;have hm:=Je (m:=p.zV.mem) (f:=(AZ p.zV 0).toNat) (i:=i) (by rw[c];exact x);rw[c,y] at hm;exact h.k.zK (by omega) h.root hm
theorem ED.yS{i j:Nat}(hi:i<4)(hj:j<4)(e:(BJ p.low i).toNat=(BJ p.low j).toNat):i=j:=by have hr:=h.zA;have hl:=h.zK hi;have h1:=h.zk hi;have h2:=h.zk hj;rw[<-e] at h2;exact(h.k.once hl.1 (h.lows i hi).2.2.2.2 hr.1 (by rw[hr.2];rfl) hi h1 hr.1 (by rw[hr.2];rfl) hj h2).2
theorem ED.zG(hn:n<16)(hw:(AB p.zY n).w=1):Dd (AB p.zY n).a.toNat (Br p n)=true/\(0<=(AB p.zY n).a/\(AB p.zY n).a<=11)/\Kp p.zV.zZ (AB p.zY n).a.toNat:=by
 rcases h.zY n hn with⟨a,_⟩|⟨_,b,c,d⟩|⟨a,_⟩
 .omega
 .obtain⟨x,y,_⟩:=Gp b.1 b.2
  refine⟨?_,b,d⟩;rw[c];simp[Dd,x,y]
 .omega
theorem ED.zH(hn:n<16)(hw:(AB p.zY n).w=1):(AB p.zY n).a.toNat<12/\Ax p.zV (AB p.zY n).a.toNat=1:=by
 obtain⟨a,b,_⟩:=h.zG hn hw;have hl:=h.zK (i:=n/4) (by omega);have ha:Bh (Br p n)=true/\A9 (Br p n)=(AB p.zY n).a.toNat:=by simpa[Dd] using a
 have hm:=Je (m:=p.zV.mem) (f:=(BJ p.low (n/4)).toNat) (i:=n%4) ha.1;have:=h.k.named hl.1 (by rw[hl.2];rfl) hm;have e:A9 (Ar p.zV.mem (BJ p.low (n/4)).toNat (n%4))=(AB p.zY n).a.toNat:=ha.2;rw[e] at this;exact⟨this.1,by omega⟩
theorem ED.yZ{m:Nat}(hn:n<16)(hm:m<16)(hw:(AB p.zY n).w=1)(dg:(AB p.zY m).w=1)(e:(AB p.zY n).a.toNat=(AB p.zY m).a.toNat):n=m:=by obtain⟨a,b,c⟩:=h.zG hn hw;obtain⟨a',_,_⟩:=h.zG hm dg;rw[<-e] at a';have hl:=h.zK (i:=n/4) (by omega);have cu:=h.zK (i:=m/4) (by omega);have hk:=h.zH hn hw;have:=h.k.once hk.1 c.2 hl.1 (by rw[hl.2];rfl) (i:=n%4) (by omega) a cu.1 (by rw[cu.2];rfl) (i':=m%4) (by omega) a';have:=h.yS (by omega) (by omega) this.1;omega
end
theorem aZ{k:AN}(h:Bv (A5 k 0) gA=true){g:ByteArray}(hg:g=gA):Fb k 0 g=true:=by subst hg;exact h
theorem MN{k:AN}{kind a b c:Int}(h1:2<=kind)(h6:kind<=6)(b6:0<=a)(ha:a<=11)(hk:Ax k a.toNat≠0)(h4:kind≠4)(hm:Bv (A5 k 0) gA=true)(hg:(zS k.zZ a.toNat).g=gA):
 Ad k (Ah kind a b c)=if kind=2 then J4 k (Ah kind a b c) else if kind=3 then KB k (Ah kind a b c) else if kind=5 then EH k (Dm k.mem k.zZ a.toNat) else Gz k (Ah kind a b c):=by
 have e1:¬(Ah kind a b c).k=1:=by show ¬kind=1;omega
 have e2:Be (Ah kind a b c).k 2 6=true:=Ab.2 ⟨h1,h6⟩;have e3:¬(Be (Ah kind a b c).a 0 11=false∨(zS k.zZ (Ah kind a b c).a.toNat).k=0∨((Ah kind a b c).k=4/\Bd (Ah kind a b c).b=false)):=by
  rintro(x|x|x)
  .rw[show Be (Ah kind a b c).a 0 11=true from Ab.2 ⟨b6,ha⟩] at x;cases x
  .exact hk x
  .exact h4 x.1
 have e4:¬Fb k (Ah kind a b c).e (zS k.zZ (Ah kind a b c).a.toNat).g=false:=by rw[show Fb k (Ah kind a b c).e (zS k.zZ (Ah kind a b c).a.toNat).g=true from aZ hm hg];simp
 unfold Ad Gh;rw[if_neg e1,if_pos e2,if_neg e3,if_neg e4]
 show(if kind=2 then _ else if kind=3 then _ else if kind=4 then _ else if kind=5 then _ else _)=_
 rw[if_neg h4];rfl
def IP(k:AN)(t b:Nat)(w:Int):AN:= {k with mem:=CZ k.mem t b w,zZ:=A4 (A4 k.zZ (Ar k.mem t b) (-1)) w 1,zW:=(Fd k t).foldl (λc e=>Fz c (e:Nat)) k.zW}
theorem U1{k:AN}(h:DJ k)(hm:Bv (A5 k 0) gA=true)(dA:∀e,1<=e->e<3->Bv (A5 k e) gA=false){a:Int}(b6:0<=a)(ha:a<=11)(cC:Ax k a.toNat=2)(hg:(zS k.zZ a.toNat).g=gA){b:Nat}(hb:b<4){w:Int}
 (hw:w=0∨∃f,0<=f/\f<=11/\w=Hh f/\Ax k f.toNat=1/\(zS k.zZ f.toNat).g=gA):Ad k (Ah 6 a b w)=(IP k a.toNat b w,0,0):=by
 rw[MN (by omega) (by omega) b6 ha (by omega) (by omega) hm hg,if_neg (by omega),if_neg (by omega),if_neg (by omega)];have hf:Dk k (Ah 6 a b w)=true:=by
  unfold Dk
  show(if Bh w then decide ((zS k.zZ (A9 w)).k=(zS k.zZ a.toNat).k - 1) else decide (w=0))=true
  rcases hw with rfl|⟨f,f0,f1,rfl,fk,fg⟩
  .simp[Bh]
  .obtain⟨x,y,_⟩:=Gp f0 f1
   rw[if_pos x,y];unfold Ax at fk cC;rw[fk,cC];rfl
 have e1:¬(Bd (zS k.zZ (Ah 6 a b w).a.toNat).k=false∨Be (Ah 6 a b w).b 0 3=false∨Dk k (Ah 6 a b w)=false):=by
  rintro(x|x|x)
  .have:Bd (zS k.zZ (Ah 6 a b w).a.toNat).k=true:=H6.2 (.inl cC)
   rw[this] at x;cases x
  .rw[show Be (Ah 6 a b w).b 0 3=true from Ab.2 ⟨by show(0:Int)<=(b:Int);omega,by show(b:Int)<=3;omega⟩] at x;cases x
  .rw[hf] at x;cases x
 have a7:∀g,g∈DK k w->(zS k.zZ g).g=gA:=by
  intro g hg
  rcases hw with rfl|⟨f,f0,f1,rfl,fk,fg⟩
  .simp[DK,Bh] at hg
  .obtain⟨x,y,_⟩:=Gp f0 f1
   unfold DK at hg;rw[if_pos x,y] at hg;unfold Ax at fk;rw[if_neg (by rw[fk];decide)] at hg;simp at hg;rw[hg];exact fg
 have e2:¬(Fd k (Ah 6 a b w).a.toNat).all (λe=>BG k.zZ (DK k (Ah 6 a b w).c) (AJ k.zX e).zT)=false:=by
  rw[xo,yd];intro e he;rw[Fu];intro g bp;obtain⟨u1,u2⟩:=OA.1 he;rw[a7 g bp]
  rcases vQ e with h0|h0
  .rw[h0];exact hm
  .have:=h.allow e u1 _ u2
   rw[show(zS k.zZ (Ah 6 a b w).a.toNat).g=gA from hg,dA e h0 u1] at this;cases this
 have e3:¬(Bh (Ah 6 a b w).c=true/\Fb k (Ah 6 a b w).e (zS k.zZ (A9 (Ah 6 a b w).c)).g=false):=by rintro⟨x,y⟩;have x':Bh w=true:=x;have y':Fb k 0 (zS k.zZ (A9 w)).g=false:=y;rw[aZ hm (a7 (A9 w) (by unfold DK;rw[if_pos x'];exact vz ..))] at y';cases y'
 unfold Gz;rw[if_neg e1,if_neg e2,if_neg e3];rfl
theorem XP{k:AN}(hm:Bv (A5 k 0) gA=true){a b c:Int}(b6:0<=a)(ha:a<=11)(hk:Ax k a.toNat=1)(hg:(zS k.zZ a.toNat).g=gA)(hr:(zS k.zZ a.toNat).r=0):
 Ad k (Ah 2 a b c)=({k with zZ:=k.zZ.set a.toNat AU.zero},0,0):=by
 rw[MN (by omega) (by omega) b6 ha (by omega) (by omega) hm hg,if_pos rfl];unfold J4;rw[if_neg (by show ¬(zS k.zZ a.toNat).k≠1;unfold Ax at hk;omega),if_neg (by show ¬(zS k.zZ a.toNat).r≠0;omega)];rfl
theorem Xp{k:AN}(hm:Bv (A5 k 0) gA=true){a w:Int}(b6:0<=a)(ha:a<=11)(hk:Ax k a.toNat=1)(hg:(zS k.zZ a.toNat).g=gA){i:Nat}(hi:i<4)(hw:EA w=true):
 Ad k (Ah 3 a i w)=({k with mem:=CZ k.mem a.toNat i w},0,0):=by
 rw[MN (by omega) (by omega) b6 ha (by omega) (by omega) hm hg,if_neg (by omega),if_pos rfl];unfold KB;rw[if_neg]
 .rfl
 .rintro(x|x|x)
  .exact x hk
  .rw[show Be (Ah 3 a i w).b 0 3=true from Ab.2 ⟨by show(0:Int)<=(i:Int);omega,by show(i:Int)<=3;omega⟩] at x;cases x
  .rw[show EA (Ah 3 a i w).c=true from hw] at x;cases x
theorem Lz{k:AN}(hm:Bv (A5 k 0) gA=true)(hf:0<=Am k.zZ){a b c:Int}:
 Ad k (Ah 1 a b c)=({k with zZ:=k.zZ.set (Am k.zZ).toNat ⟨1,gA,0⟩,mem:=k.mem.set (Am k.zZ).toNat [0,0,0,0]},Am k.zZ,0):=by
 unfold Ad;rw[if_pos (show(Ah 1 a b c).k=1 from rfl)];unfold Ix;rw[if_neg,if_neg,if_neg]
 .rfl
 .omega
 .rw[show Fb k (Ah 1 a b c).e (Ah 1 a b c).nm=true from aZ hm rfl];simp
 .rw[show BP (Ah 1 a b c).nm=true from(by decide:BP gA=true)];simp
theorem OG{α:Type}{q:α->Bool}{l:List α}{y d:α}(hn:n<l.length):(l.set n y).countP q+EC (q (l.getD n d))=l.countP q+EC (q y):=by
 induction l generalizing n with
 |nil=>simp at hn
 |cons x r ih=>
  cases n with
  |zero=>simp only[List.set_cons_zero,xC,List.getD_cons_zero,EC];omega
  |succ n=>simp only[List.set_cons_succ,xC,List.getD_cons_succ];have:=ih (n:=n) (by simpa using hn);omega
theorem Dh{l:List Bk}{m:Nat}{x:Bk}:AB (l.set n x) m=if m=n/\n<l.length then x else AB l m:=JX
theorem Nj{l:List Bk}{y:Bk}{w:Int}(hn:n<l.length):Ac (l.set n y) w+EC (Nn w (AB l n))=Ac l w+EC (Nn w y):=OG hn
theorem NG{l:List Bk}{s:Nat}{y:Bk}(hn:n<l.length):Bz (l.set n y) s+EC (Cu s (AB l n))=Bz l s+EC (Cu s y):=OG hn
theorem Xz(m:Nat)(x:Bk):((yC m).map λs=>EC (Cu s x)).sum<=EC (Nn 2 x):=by
 by_cases hw:x.w=2
 .have h1:EC (Nn 2 x)=1:=by simp[Nn,hw,EC]
  rw[h1]
  induction m with
  |zero=>simp
  |succ m ih=>
   rw[wZ,xE,wS];simp only[List.map_cons,List.map_nil,List.sum_cons,List.sum_nil,xL]
   by_cases ha:x.a=(m:Int)
   .have h0:((yC m).map λs=>EC (Cu s x)).sum=0:=by
     rw[LY];intro t ht;have:¬x.a=(t:Int):=by omega
     simp[Cu,this,EC]
    rw[h0];unfold EC;split<;>omega
   .have:EC (Cu m x)=0:=by simp[Cu,ha,EC]
    omega
 .have h0:((yC m).map λs=>EC (Cu s x)).sum=0:=by
   rw[LY];intro t ht;simp[Cu,hw,EC]
  omega
theorem Z9{F G:Nat->Nat}:((yC n).map λt=>F t+G t).sum=((yC n).map F).sum+((yC n).map G).sum:=by
 induction n with
 |zero=>rfl
 |succ n ih=>rw[wZ,xE,xE,xE,wS,wS,wS,ih];simp;omega
theorem Xy(m:Nat)(l:List Bk):((yC m).map λs=>Bz l s).sum<=Ac l 2:=by
 induction l with
 |nil=>
  have:((yC m).map λs=>Bz [] s).sum=0:=by rw[LY];intro t _;rfl
  omega
 |cons x l ih=>
  have e:∀s,s<m->Bz (x::l) s=Bz l s+EC (Cu s x):=λs _=>by unfold Bz EC;rw[xC]
  rw[KG e,Z9];have e2:Ac (x::l) 2=Ac l 2+EC (Nn 2 x):=by unfold Ac EC;rw[xC]
  have:=Xz m x;have dH:((yC m).map (Bz l)).sum<=Ac l 2:=ih;omega
theorem count_le{l:List Bk}(hn:n<l.length){w:Int}(hw:(AB l n).w≠w):Ac l w+1<=l.length:=by
 have h1:=Nj (y:=⟨w,0,false⟩) (w:=w) hn;have h2:Ac (l.set n ⟨w,0,false⟩) w<=(l.set n ⟨w,0,false⟩).length:=vO;rw[xS] at h2;have h3:EC (Nn w (AB l n))=0:=by simp[Nn,hw,EC]
 have h4:EC (Nn w ⟨w,0,false⟩)=1:=by simp[Nn,EC]
 omega
theorem Qr{s:List (List Int)}(h:∃i,i<s.length/\AH s i=[]):0<=BY s/\(BY s).toNat<s.length/\AH s (BY s).toNat=[]:=by obtain⟨i,hi,he⟩:=h;have ha:s.any uK=true:=Lj.2 ⟨_,DH (d:=[]) hi,by unfold AH at he;rw[he];rfl⟩;unfold BY;rw[if_pos ha];have hl:s.findIdx uK<s.length:=vt.2 (Lj.1 ha);refine⟨by omega,by simpa using hl,?_⟩;have:=vd (w:=hl);unfold AH;simpa[hl] using this
theorem ED.slot{p:AR}(h:ED p){n:Nat}(hn:n<16)(hw:(AB p.zY n).w≠2):0<=BY p.swap/\(BY p.swap).toNat<16/\AH p.swap (BY p.swap).toNat=[]:=by
 rw[<-h.zD];refine Qr (Classical.byContradiction λdh=>?_);have h1:∀s,s<16->Bz p.zY s=1:=by
  intro s hs;have:=h.slots s hs;rw[if_neg] at this
  .exact this
  .intro he
   exact dh ⟨s,by rw[h.zD];exact hs,JB.1 he⟩
 have h2:=Xy 16 p.zY;rw[KG h1] at h2;have h3:=count_le (l:=p.zY) (n:=n) (by rw[h.zO];exact hn) hw;rw[h.zO] at h3;have h4:((yC 16).map λ_=>1).sum=16:=by decide
 omega
theorem Ns{p:AR}(h:ED p){n:Nat}(hn:n<16)(hw:(AB p.zY n).w=1):
 (EL p n).zV= {IP p.zV (BJ p.low (n/4)).toNat (n%4) 0 with zZ:=(IP p.zV (BJ p.low (n/4)).toNat (n%4) 0).zZ.set (AB p.zY n).a.toNat AU.zero}:=by
 have hl:=h.lows (n/4) (by omega);have ct:=h.zK (i:=n/4) (by omega);obtain⟨f1,f2,f3⟩:=h.zG hn hw;have fk:=h.zH hn hw;unfold EL IS;rw[U1 h.k h.may h.alone hl.1 hl.2.1 ct.2 hl.2.2.2.1 (by omega) (.inl rfl)];have di:Dd (AB p.zY n).a.toNat (Ar p.zV.mem (BJ p.low (n/4)).toNat (n%4))=true:=f1;have au:zS (IP p.zV (BJ p.low (n/4)).toNat (n%4) 0).zZ (AB p.zY n).a.toNat= {zS p.zV.zZ (AB p.zY n).a.toNat with r:=0}:=by
  unfold IP
  show zS (A4 (A4 p.zV.zZ (Ar p.zV.mem (BJ p.low (n/4)).toNat (n%4)) (-1)) 0 1) _=_
  rw[FN (by rw[Cg];exact h.k.len),FN h.k.len,di,f3.2];simp[Dd,Bh,EC]
 rw[XP (k:=IP p.zV (BJ p.low (n/4)).toNat (n%4) 0) h.may f2.1 f2.2]
 .show(zS (IP p.zV (BJ p.low (n/4)).toNat (n%4) 0).zZ (AB p.zY n).a.toNat).k=1
  rw[au];exact fk.2
 .rw[au];exact f3.1
 .rw[au]
theorem QP{b i:Nat}{w:Int}(ht:t<m.length)(hb:b<(AH m t).length):Ar (CZ m t b w) f i=if f=t/\i=b then w else Ar m f i:=by
 unfold Ar;rw[Gu]
 by_cases e:f=t
 .subst e
  rw[if_pos ⟨rfl,ht⟩,JX]
  by_cases e2:i=b
  .simp[e2,hb]
  .simp[e2]
 .simp[e]
open Go.RowKit
theorem UB{f:FuncId}{ac:Array Value}{w1:World}(h:∀w',Below w1.heap.size w1 w'->Calls P f ac w' λe bl=>e=.returned v/\Below w'.heap.size w' bl):
 ∀d os,Calls P f ac (vJ (redrawn w1 d) os) λe bl=>e=.returned v/\∃p:Regrown,bl=vJ (redrawn w1 p.d) p.os:=λd os=>Calls.regrown_of (h _ (below_regrown w1 d os))
theorem Wy{f:FuncId}{ac:Array Value}{w1:World}(h:∀w',Calls P f ac w' λe bl=>e=.returned v/\w'=bl):
 ∀d os,Calls P f ac (vJ (redrawn w1 d) os) λe bl=>e=.returned v/\∃p:Regrown,bl=vJ (redrawn w1 p.d) p.os:=UB λw' _=>(h w').mono λe bl ⟨he,hw⟩=>⟨he,hw▸yD _ _⟩
theorem BK{f:FuncId}{ac:Array Value}{w:World}(h:Calls P f ac w λe w'=>e=.returned v/\w=w'):Calls P f ac w λe w'=>e=.returned v/\Below w.heap.size w w':=h.mono λe bl ⟨he,hw⟩=>⟨he,hw▸yD _ _⟩
theorem Td{f:FuncId}{ac:Array Value}{w:World}(h:Calls P f ac w λe w'=>e=.returned v/\∃n,w'=w.drewN n):Calls P f ac w λe w'=>e=.returned v/\Below w.heap.size w w':=
 h.mono λe bl ⟨he,n,hw⟩=>⟨he,hw▸A8 (yD _ _) n⟩
theorem Nv{a b:Value}(h:a=b):Ending.returned a=.returned b:=by rw[h]
section
variable {w:World} {a:Option Addr}
theorem Sk.zP{xs:List AU}(h:Sk 3 A2 w a xs){k:Nat}(hk:k<xs.length):∃b ad,a=some ⟨b,ad,none⟩/\b<w.heap.size/\w.cell? ⟨b,ad+k*3,none⟩=some (.int .i64 (zS xs k).k)/\w.cell? ⟨b,ad+k*3+1,none⟩=some (.string (zS xs k).g)/\w.cell? ⟨b,ad+k*3+2,none⟩=some (.int .i64 (zS xs k).r):=by obtain⟨b,ad,rfl,am,hc⟩:=h k (zS xs k) (by simp[zS,hk]);exact⟨b,ad,rfl,am,hc 0 _ rfl,hc 1 _ rfl,hc 2 _ rfl⟩
theorem Sk.zL{xs:List Al}(h:Sk 4 Ag w a xs){k:Nat}(hk:k<xs.length):∃b ad,a=some ⟨b,ad,none⟩/\b<w.heap.size/\w.cell? ⟨b,ad+k*4,none⟩=some (.int .i64 (AT xs k).e)/\w.cell? ⟨b,ad+k*4+1,none⟩=some (.int .i64 (AT xs k).p)/\w.cell? ⟨b,ad+k*4+2,none⟩=some (.int .i64 (AT xs k).f)/\w.cell? ⟨b,ad+k*4+3,none⟩=some (.bool (AT xs k).w):=by obtain⟨b,ad,rfl,am,hc⟩:=h k (AT xs k) (by simp[AT,hk]);exact⟨b,ad,rfl,am,hc 0 _ rfl,hc 1 _ rfl,hc 2 _ rfl,hc 3 _ rfl⟩
end
theorem Io.cellAt{w:World}{a:Option Addr}{xs:List Int}(h:Io w a xs){k:Nat}(hk:k<xs.length):∃b ad,a=some ⟨b,ad,none⟩/\b<w.heap.size/\w.cell? ⟨b,ad+k,none⟩=some (.int .i64 (nth xs k)):=by obtain⟨b,ad,rfl,hc⟩:=h.at hk;exact⟨b,ad,rfl,yA w _ hc,hc⟩
def Ks(w:World)(a:Option Addr)(m:List (List Int)):Prop:=∀f,f<m.length->∃b ad u,a=some ⟨b,ad,none⟩/\b<w.heap.size/\w.cell? ⟨b,ad+f,none⟩=some u/\Aw w u (AH m f)
theorem Bf.open{w:World}(h:Bf w v m):∃a ai,v=.slice a m.length ai/\m.length<=ai/\ai<=maxLen/\Ks w a m:=by
 obtain⟨vs,h1,h2⟩:=h;obtain⟨a,ai,rfl,hc,a0,H⟩:=BD.open EG (by decide) h1;refine⟨a,ai,by rw[h2.1],by rw[<-h2.1];exact hc,a0,λf hf=>?_⟩;have hv:f<vs.length:=by rw[h2.1];exact hf
 obtain⟨b,ad,rfl,am,a2⟩:=H f _ (yu hv);refine⟨b,ad,vs[f],rfl,am,by simpa using a2 0 _ rfl,h2.2 f _ _ (yu hv) ?_⟩;unfold AH;exact A1 hf
theorem Ks.below{w:World}{a:Option Addr}(h:Ks w a m)(hb:Below w.heap.size w w'):Ks w' a m:=by intro f hf;obtain⟨b,ad,u,rfl,am,hc,hr⟩:=h f hf;exact⟨b,ad,u,rfl,xX am hb.size,(hb.cell (p:=⟨b,ad+f,none⟩) am).trans hc,hr.below hb⟩
theorem Bo{id:Nat}{Q:Exit->Act->World->Prop}{a:Act}{w:World}{l:List Oper}
 (h:wpQuiet prog l.toArray (λw'=>∃p:Regrown,w'=vJ (redrawn w p.d) p.os) (λa'=>∀w',(∃p:Regrown,w'=vJ (redrawn w p.d) p.os)->Q .normal a' w') l a)(hB:Region.lexB .any l.toArray=true:=by kernel_rfl):(Code.region id l.toArray true).wp prog Q a w:=
 wp_region_quiet_below mixed hB h
theorem Bn{ops:Array Oper}{w:World}{Q:Act->World->Prop}{a:Act}(h:∀wq,Below w.heap.size w wq->Q a wq):wpQuiet P ops (λw'=>∃p:Regrown,w'=vJ (redrawn w p.d) p.os) (λa'=>∀w',(∃p:Regrown,w'=vJ (redrawn w p.d) p.os)->Q a' w') [] a:=by refine wpQuiet_nil ?_;rintro w' ⟨⟨d,os⟩,rfl⟩;exact h _ (below_regrown w d os)
def Si(w:World)(a:Option Addr)(bs:List Int):Prop:=
 ∀k,k<bs.length->∃b ad,a=some ⟨b,ad,none⟩/\∀j,j<bs.length->w.cell? ⟨b,ad+j,none⟩=some (.int .u8 (nth bs j))/\0<=nth bs j/\nth bs j<256
theorem Ft.open{w:World}{xs:List Int}(h:Ft w v xs):
 ∃a ai,v=.slice a xs.length ai/\xs.length<=ai/\ai<=maxLen/\Si w a xs:=by
 obtain⟨⟨a,ai,rfl,cG,a0,hl,_,hc⟩,cL⟩:=h;refine⟨a,ai,rfl,cG,a0,λk hk=>?_⟩;obtain⟨b,ad,rfl,a2⟩:=hc (by omega);refine⟨b,ad,rfl,λj hj=>⟨?_,?_⟩⟩
 .rw[a2 j (by omega),List.getElem?_map,Pu hj]
  rfl
 .rw[MU hj]
  exact cL _ (td hj)
theorem Si.at{w:World}{a:Option Addr}{xs:List Int}(h:Si w a xs){k:Nat}(hk:k<xs.length):
 ∃b ad,a=some ⟨b,ad,none⟩/\w.cell? ⟨b,ad+k,none⟩=some (.int .u8 (nth xs k))/\0<=nth xs k/\nth xs k<256:=by
 obtain⟨b,ad,rfl,hc⟩:=h k hk;exact⟨b,ad,rfl,hc k hk⟩
def Ej(w0 w:World)(R:Value)(N:Nat):Prop:=
 ∃g a9 bs,∃p:Nat,R=.pointer (some ⟨g,0,none⟩)/\w0.heap.size<=g/\w.heap[g]?=some (.cells #[a9,.int .i64 p] 101 (0,0))/\Ft w0 a9 bs/\bs.length<=2000/\p<=N
theorem Wc{X:Int}(h0:0<=X)(h1:X<=1000000000):0<=bits .xor .i64 X (X/64):=by
 obtain⟨x,rfl⟩:=Int.eq_ofNat_of_zero_le h0;have e:((x:Int)/64)=((x/64:Nat):Int):=by omega
 have ha:x<2 ^ 40:=by omega
 have hb:x/64<2 ^ 40:=by omega
 have dB:x%2 ^ wT.bits=x:=sW (xX ha (by decide));have da:x/64%2 ^ wT.bits=x/64:=sW (xX hb (by decide));have hx:x ^^^ (x/64)<2 ^ 40:=Nat.xor_lt_two_pow ha hb;rw[e];simp only[bits,BitVec.ofInt_natCast,BitVec.toNat_xor,BitVec.toNat_ofNat,dB,da];rw[xy _ (by omega)];omega
def VM(w0 w:World)(R:Value)(N:Nat)(n:Int)(e:Ending)(w':World):Prop:=
 ∃x:Int,e=.returned (.int .i64 x)/\(0<=x/\(0<n->x<n)/\(n<=0->x=0))/\Ej w0 w' R (N+1)/\Below w0.heap.size w0 w'/\∃g,R=.pointer (some ⟨g,0,none⟩)/\w.grownBy w' (some g)
theorem Ej.stored{w:World}{g p:Nat}{a9:Value}{bs:List Int}{n:Int}(hg:w0.heap.size<=g)(aq:w.heap[g]?=some (.cells #[a9,.int .i64 p] 101 (0,0)))(hr:Ft w0 a9 bs)(a4:bs.length<=2000)(hp:p<=N)(hb:Below w0.heap.size w0 w):
 ∀(k:Nat)(x:Int),0<=x->(0<n->x<n)->(n<=0->x=0)->VM w0 w (.pointer (some ⟨g,0,none⟩)) N n (.returned (.int .i64 x)) ((w.setCell ⟨g,1,none⟩ (.int .i64 (p+1))).drewN k):=by
 intro k x h1 h2 h3;refine⟨x,rfl,⟨h1,h2,h3⟩,⟨g,a9,bs,p+1,rfl,hg,?_,hr,a4,by omega⟩,A8 (hb.setCell hg _) k,g,rfl,?_⟩
 .have:=heap_setCell_same w g 1 #[a9,.int .i64 p] 101 (.int .i64 (p+1)) aq
  simpa using this
 .refine⟨rfl,rfl,rfl,by simp[World.drewN],λb da a3=>?_⟩
  exact heap_setCell_other w ⟨g,1,none⟩ b _ (λe=>a3 (by simp[e]))
theorem ZB(w0:World)(R:Value)(N:Nat)(n:Int)(w:World)(h:Ej w0 w R N)(hb:Below w0.heap.size w0 w)(hN:N<=1000000)(hn:n<=1000000):
 Calls prog 48 #[R,.int .i64 n] w (VM w0 w R N n):=by
 obtain⟨g,a9,bs,p,rfl,hg,aq,hR,a4,hp⟩:=h;have S:=AA (Ej.stored (n:=n) hg aq hR a4 hp hb);have c0:w.cell? ⟨g,0,none⟩=some a9:=cell_of_row w g 0 _ _ _ aq;have c1:w.cell? ⟨g,1,none⟩=some (.int .i64 p):=cell_of_row w g 1 _ _ _ aq;have f1:w.frozen? ⟨g,1,none⟩=false:=frozen_of_row w g 1 _ _ aq;clear aq
 by_cases h1:n<1
 .go_in
  go_wp2;go_ret;exact S.out 0 0 (by omega) (by omega) (by omega)
 obtain⟨a,c,hv,hc,a0,hA⟩:=hR.open;subst hv;unfold maxLen at a0
 by_cases h2:bs.length=0
 .have dC:((bs.length:Int)==0)=true:=by simp[h2]
  clear h2;go_in;go_wp2;go_ret;exact S.out 0 0 (by omega) (by omega) (by omega)
 have dC:((bs.length:Int)==0)=false:=by simp[h2]
 have co:0<bs.length:=by omega
 clear h2
 by_cases h3:p<bs.length
 .obtain⟨b,ad,rfl,D0,dz,bx⟩:=hA.at h3
  have a5:=yA w0 _ D0;have D:w.cell? ⟨b,ad+p,none⟩=some (.int .u8 (nth bs p)):=(hb.cell a5).trans D0;clear D0 hA;have a3:b≠g:=by rintro rfl;simp at a5;omega
  clear a5;go_in;go_wp2;go_ret;exact S.out 0 _ (uv _ (by omega)) (λ_=>vI _ (by omega)) (by omega)
 .have m1:(p:Int).tmod bs.length=(p:Int)%bs.length:=wy (by omega)
  have m2:0<=(p:Int)%bs.length:=uv _ (by omega);have m3:(p:Int)%bs.length<bs.length:=vI _ (by omega);have m4:((p:Int)%bs.length).toNat=p%bs.length:=by rw[show(p:Int)%bs.length=((p%bs.length:Nat):Int) from rfl,yb]
  have q1:0<=(p:Int)/bs.length:=Int.ediv_nonneg (by omega) (by omega);have q2:(p:Int)/bs.length<=p:=Int.ediv_le_self _ (by omega);have s1:wT.wrap ((p:Int)*7)=p*7:=xy _ (by omega);have s2:wT.wrap ((p:Int)*7+3)=p*7+3:=xy _ (by omega);have k1:((p:Int)*7+3).tmod bs.length=((p:Int)*7+3)%bs.length:=wy (by omega);have k2:0<=((p:Int)*7+3)%bs.length:=uv _ (by omega);have k3:((p:Int)*7+3)%bs.length<bs.length:=vI _ (by omega);have k4:(((p:Int)*7+3)%bs.length).toNat=(p*7+3)%bs.length:=by rw[show((p:Int)*7+3)%bs.length=(((p*7+3)%bs.length:Nat):Int) by push_cast;rfl,yb]
  have dm:p%bs.length<bs.length:=th _ co;have cY:(p*7+3)%bs.length<bs.length:=th _ co;obtain⟨b,ad,rfl,D0,dz,bx⟩:=hA.at dm;obtain⟨b',b1,cm,E0,dY,dX⟩:=hA.at cY;obtain⟨rfl,rfl⟩:b=b'/\ad=b1:=by simpa using cm
  clear cm hA;have a5:=yA w0 _ D0;have D:w.cell? ⟨b,ad+p%bs.length,none⟩=some (.int .u8 (nth bs (p%bs.length))):=(hb.cell a5).trans D0;have E:w.cell? ⟨b,ad+(p*7+3)%bs.length,none⟩=some (.int .u8 (nth bs ((p*7+3)%bs.length))):=(hb.cell (p:=⟨b,ad+(p*7+3)%bs.length,none⟩) a5).trans E0;clear D0 E0;have a3:b≠g:=by rintro rfl;simp at a5;omega
  clear a5;go_in;go_wp2;go_quiet (fail);have x0:0<=nth bs (p%bs.length)*131+nth bs ((p*7+3)%bs.length)*1117+(p:Int)*29+(p:Int)/bs.length*53:=by omega
  have x1:nth bs (p%bs.length)*131+nth bs ((p*7+3)%bs.length)*1117+(p:Int)*29+(p:Int)/bs.length*53<=1000000000:=by omega
  generalize nth bs (p%bs.length)*131+nth bs ((p*7+3)%bs.length)*1117+(p:Int)*29+(p:Int)/bs.length*53=X at x0 x1 ⊢;go_wp2;go_ret;have y0:=Wc x0 (by omega:X<=1000000000);exact S.out _ _ (Int.tmod_nonneg _ y0) (λdj=>by rw[wy y0];exact vI _ dj) (by omega)
def YK(w:World)(e:Ending)(w':World):Prop:=∃R,e=.returned R/\Ej w w' R 0/\Below w.heap.size w w'
theorem Ft.take{w:World}{a:Option Addr}{c:Nat}{bs:List Int}(h:Ft w (.slice a bs.length c) bs)(k:Nat)(hk:k<=bs.length):Ft w (.slice a k c) (bs.take k):=by
 obtain⟨⟨a',ai,hv,cG,a0,hl,cF,hc⟩,cL⟩:=h;simp only[Value.slice.injEq,true_and] at hv;obtain⟨rfl,rfl⟩:=hv;have e:(bs.take k).length=k:=by rw[xT];omega
 refine⟨⟨a,c,by rw[e],by omega,a0,by simp,cF,λhn=>?_⟩,λb hb=>cL b (List.mem_of_mem_take hb)⟩;rw[e] at hn ⊢;obtain⟨b,ad,rfl,a2⟩:=hc (by omega);refine⟨b,ad,rfl,λj hj=>?_⟩;rw[a2 j (by omega),List.map_take,List.getElem?_take,if_pos (by omega)]
theorem Ej.opened{w:World}{a9:Value}{bs:List Int}(h:Ft w a9 bs)(hl:bs.length<=2000):YK w (.returned (.pointer (some ⟨w.heap.size,0,none⟩))) (w.alloc (.cells #[a9,.int .i64 0] 101)):=
 ⟨_,rfl,⟨_,a9,bs,0,rfl,yt _,heap_alloc_new w _,h,hl,yt _⟩,(yD _ _).alloc (yt _) _⟩
theorem Vz(v:Value)(bs:List Int)(w:World)(h:Ft w v bs):
 Calls prog 46 #[v] w (YK w):=by
 obtain⟨a,c,hv,hc,a0,hA⟩:=h.open;subst hv;unfold maxLen at a0
 by_cases hl:bs.length<=2000
 .have S:=AA (Ej.opened h hl)
  have cu:¬(2000<bs.length):=by omega
  clear hl hA;go_in;go_wp2;go_ret;exact S.out
 .have S:=AA (Ej.opened (h.take 2000 (by omega)) (by rw[xT];omega))
  have cu:2000<bs.length:=by omega
  have cY:2000<=c:=by omega
  obtain⟨b,ad,rfl,_⟩:=hA.at (k:=0) (by omega);clear hl hA;go_in;go_wp2;go_ret;exact S.out
theorem Ej.lt{w:World}(h:Ej w0 w R N):∃g,R=.pointer (some ⟨g,0,none⟩)/\g<w.heap.size:=by obtain⟨g,a9,bs,p,rfl,hg,aq,_⟩:=h;exact⟨g,rfl,(Array.getElem?_eq_some_iff.1 aq).1⟩
theorem Ej.keep{w:World}(h:Ej w0 w R N)(hb:Below w.heap.size w w'):Ej w0 w' R N:=by obtain⟨g,a9,bs,p,rfl,hg,aq,hr⟩:=h;exact⟨g,a9,bs,p,rfl,hg,(hb.block g (Array.getElem?_eq_some_iff.1 aq).1).trans aq,hr⟩
theorem Ej.kept{w:World}{lo:Nat}(h:Ej w0 w R N){g:Nat}(hR:R=.pointer (some ⟨g,0,none⟩))(am:g<lo)(hb:Below lo w w'):Ej w0 w' R N:=by
 obtain⟨g',a9,bs,p,rfl,hg,aq,hr⟩:=h;obtain rfl:g'=g:=by simpa using hR
 exact⟨g',a9,bs,p,rfl,hg,(hb.block g' am).trans aq,hr⟩
theorem Ej.mono{w:World}{M:Nat}(h:Ej w0 w R N)(hm:N<=M):Ej w0 w R M:=by obtain⟨g,a9,bs,p,e1,hg,aq,hr,hl,hp⟩:=h;exact⟨g,a9,bs,p,e1,hg,aq,hr,hl,yB hp hm⟩
theorem Tc{lo:Nat}{w:World}{e sz:Nat}{xs:List Value}{g:Nat}(h:w.ownsRow lo e sz v n xs)(hg:w.grownBy w' (some g))(am:g<lo):w'.ownsRow lo e sz v n xs:=by
 refine World.ownsRow.kept h hg ?_;cases hv:v.ownBlock with
 |none=>exact .inl rfl
 |some k=>
  have:=(h.lt k hv).1;refine .inr λe=>?_
  simp at e;omega
def Ef(w0:World)(lo g N:Nat)(o:Value)(xs:List Int)(w:World):Prop:=
 g<lo/\lo<=w.heap.size/\w0.heap.size<=lo/\Ej w0 w (.pointer (some ⟨g,0,none⟩)) N/\Below w0.heap.size w0 w/\AF lo w o xs
theorem Ef.pick{w:World}{lo g:Nat}{xs:List Int}{n:Int}{e:Ending}(h:Ef w0 lo g N o xs w)(hp:VM w0 w (.pointer (some ⟨g,0,none⟩)) N n e w'):
 ∃x:Int,e=.returned (.int .i64 x)/\0<=x/\(0<n->x<n)/\Ef w0 lo g (N+1) o xs w'/\w.grownBy w' (some g):=by
 obtain⟨h1,h2,h3,h4,h5,h6⟩:=h;obtain⟨x,rfl,⟨cP,bK,dJ⟩,hr,bx,g1,dt,bN⟩:=hp;obtain rfl:g=g1:=by simpa using dt
 exact⟨x,rfl,cP,bK,⟨h1,yB h2 bN.size,h3,hr,bx,Tc h6 bN h1⟩,bN⟩
theorem Ef.append{w:World}{lo g:Nat}{o':Value}{xs:List Int}(h:Ef w0 lo g N o xs w)(hb:Below lo w w')(ho:w'.ownsRow lo 3 1 o' (xs.length+1) (xs.map (Value.int .i64)++[.int .i64 x])):Ef w0 lo g N o' (xs++[x]) w':=by obtain⟨h1,h2,h3,h4,h5,h6⟩:=h;refine⟨h1,yB h2 hb.size,h3,h4.kept rfl h1 hb,h5.trans (hb.mono h3),?_⟩;simpa[AF] using ho
theorem Ef.step{w:World}{lo g:Nat}{xs:List Int}(h:Ef w0 lo g N o xs w)(hb:Below w.heap.size w w'):Ef w0 lo g N o xs w':=by obtain⟨h1,h2,h3,h4,h5,h6⟩:=h;exact⟨h1,yB h2 hb.size,h3,h4.keep hb,h5.trans (hb.mono (yB h3 h2)),h6.below hb⟩
theorem Ef.alloc{w:World}{lo g:Nat}{xs:List Int}(h:Ef w0 lo g N o xs w)(ob:Obj):Ef w0 lo g N o xs (w.alloc ob):=h.step ((yD _ _).alloc (yt _) _)
theorem Ef.set{w:World}{lo g:Nat}{q ai a:Nat}{xs:List Int}(h:Ef w0 lo g N (.slice (some ⟨q,0,none⟩) xs.length ai) xs w):Ef w0 lo g N (.slice (some ⟨q,0,none⟩) xs.length ai) (xs.set a x) (w.setCell ⟨q,a,none⟩ (.int .i64 x)):=by obtain⟨h1,h2,h3,h4,h5,h6⟩:=h;have hq:=(h6.lt q rfl).1;have S:=World.ownsRow.stored h6 a (.int .i64 x);have hb:Below lo w (w.setCell ⟨q,a,none⟩ (.int .i64 x)):=(yD _ _).setCell hq _;exact⟨h1,yB h2 hb.size,h3,h4.kept rfl h1 hb,h5.trans (hb.mono h3),Zx S.1⟩
theorem Ef.mono{w:World}{lo g M:Nat}{xs:List Int}(h:Ef w0 lo g N o xs w)(hm:N<=M):Ef w0 lo g M o xs w:=by obtain⟨h1,h2,h3,h4,h5,h6⟩:=h;exact⟨h1,h2,h3,h4.mono hm,h5,h6⟩
theorem MV{lo lo':Nat}{w:World}{xs:List Int}(h:AF lo w v xs)(hl:lo'<=lo):AF lo' w v xs:=by
 refine⟨h.1,?_⟩
 rcases h.2 with h'|⟨g,ai,cur,rfl,hb,rest⟩
 .exact .inl h'
 .exact .inr ⟨g,ai,cur,rfl,yB hl hb,rest⟩
def Kh(xs:List Int):Bool:=xs.length==4&&xs.all (Be · 0 9999)
theorem Pc(n:Int)(w:World):
 Calls prog 61 #[.int .i64 n] w λe w'=>e=.returned (.bool (Be n 0 9999))/\w=w':=by
 go_in;go_wp2_with (go_at_call 56;refine(Dt _ _ _ _).mono ?_;rintro e w' ⟨rfl,rfl⟩);go_ret;exact⟨rfl,rfl⟩
theorem TF(n:Int)(w:World):
 Calls prog 161 #[.int .i64 n] w λe w'=>e=.returned (.bool (!Be n 0 9999))/\w=w':=by
 go_in;go_wp2_with (go_at_call 61;refine(Pc _ _).mono ?_;rintro e w' ⟨rfl,rfl⟩);go_ret;exact⟨rfl,rfl⟩
theorem VB(xs:List Int):(!xs.any λx=>!Be x 0 9999)=xs.all (Be · 0 9999):=by simp[List.all_eq_not_any_not]
theorem OL(v:Value)(xs:List Int)(w:World)(h:Aw w v xs):
 Calls prog 107 #[v] w λe w'=>e=.returned (.bool (Kh xs))/\w=w':=by
 obtain⟨a,c,rfl,hc,a0,H0⟩:=h.open;unfold maxLen at a0
 by_cases h4:xs.length=4
 .have e1:Kh xs=xs.all (Be · 0 9999):=by simp[Kh,h4]
  have hb:((xs.length:Int)==4)=true:=by simp[h4]
  have H:=AA e1;clear e1;clear h4;go_in;go_wp2_with (go_at_call 152;refine(NW 161 #[] (λx=>!Be x 0 9999) _ xs _ h (λ_ _=>by kernel_rfl) (λx w=>TF x w)).mono ?_;rintro e w' ⟨rfl,rfl⟩);go_ret;exact⟨AI (by rw[H.out,VB]),rfl⟩
 .have e1:Kh xs=false:=by simp[Kh,h4]
  have hb:((xs.length:Int)==4)=false:=by simp;omega
  have H:=AA e1;clear e1;clear h4;go_in;go_wp2_with fail;go_ret;exact⟨AI H.out.symm,rfl⟩
structure Rb where
 k:Int
 a:Int
 x:Int
 ck:Int
 ce:Int
 ca:Int
 cb:Int
 cc:Int
 nm:ByteArray
def Rb.cells(s:Rb):Array Value:= #[.int .i64 s.k,.int .i64 s.a,.int .i64 s.x,.int .i64 s.ck,.int .i64 s.ce,.int .i64 s.ca,.int .i64 s.cb,.int .i64 s.cc,.string s.nm]
def Rb.val(s:Rb):Value:=.agg s.cells
def Rb.ok(s:Rb):Bool:=if s.k=1 then Be s.a 0 63 else if s.k=2 then Be s.a 0 63&&Be s.x 0 9999 else if s.k=3 then Be s.ce 1 2 else false
theorem MA(n:Int)(w:World):
 Calls prog 28 #[.int .i64 n] w λe w'=>e=.returned (.bool (Be n 0 63))/\w=w':=by
 go_in;go_wp2_with (go_at_call 56;refine(Dt _ _ _ _).mono ?_;rintro e w' ⟨rfl,rfl⟩);go_ret;exact⟨rfl,rfl⟩
theorem Jw(n:Int)(w:World):
 Calls prog 31 #[.int .i64 n] w λe w'=>e=.returned (.bool (Be n 0 63))/\w=w':=by
 go_in;go_wp2_with (go_at_call 42;refine(Cv _ _ _ _).mono ?_;rintro e w' ⟨rfl,rfl⟩);go_ret;exact⟨rfl,rfl⟩
theorem Es(n:Int)(w:World):Calls prog 99 #[.int .i64 n] w λe w'=>e=.returned (.bool (Be n 0 11))/\w=w':=by go_in;go_wp2_with (go_at_call 56;refine(Dt _ _ _ _).mono ?_;rintro e w' ⟨rfl,rfl⟩);go_ret;exact⟨rfl,rfl⟩
theorem OK(n:Int)(w:World):Calls prog 207 #[.int .i64 n] w λe w'=>e=.returned (.bool (Be n 0 3))/\w=w':=by go_in;go_wp2_with (go_at_call 56;refine(Dt _ _ _ _).mono ?_;rintro e w' ⟨rfl,rfl⟩);go_ret;exact⟨rfl,rfl⟩
theorem MR(n:Int)(w:World):Calls prog 44 #[.int .i64 n] w λe w'=>e=.returned (.bool (Be n 0 15))/\w=w':=by go_in;go_wp2_with (go_at_call 56;refine(Dt _ _ _ _).mono ?_;rintro e w' ⟨rfl,rfl⟩);go_ret;exact⟨rfl,rfl⟩
theorem Iy(f:Int)(w:World)(h0:0<=f)(h1:f<=11):Calls prog 85 #[.int .i64 f,.bool true] w λe w'=>e=.returned (.tuple #[.int .i64 (Hh f),.bool true])/\w=w':=by have H:=AA (show Be f 0 11=true from Ab.2 ⟨h0,h1⟩);go_in;go_wp2_with (go_at_call 99;refine(Es _ _).mono ?_;rintro e w' ⟨rfl,rfl⟩;rw[H.out]);go_ret2;exact⟨rfl,rfl⟩
theorem OC(f:Int)(b:Bool)(w:World)(h:Be f 0 11=false):Calls prog 85 #[.int .i64 f,.bool b] w λe w'=>e=.returned (.tuple #[.int .i64 0,.bool false])/\w=w':=by have H:=AA h;clear h;go_in;go_wp2_with (go_at_call 99;refine(Es _ _).mono ?_;rintro e w' ⟨rfl,rfl⟩;rw[H.out]);go_ret2;exact⟨rfl,rfl⟩
theorem UP(h:Bh x=true):0<x/\x<48/\x%2=1:=by simp only[Bh,yp,decide_eq_true_eq] at h;omega
theorem UO(h:Bh x=true):((A9 x:Nat):Int)=x/4:=by have:=UP h;unfold A9;omega
def Sy(x:Int):Value:=.tuple #[.int .i64 (if Bh x then((A9 x:Nat):Int) else 0),.bool (Bh x&&KQ x),.bool (Bh x)]
theorem EX(h:Bh x=true):Sy x=.tuple #[.int .i64 ((A9 x:Nat):Int),.bool (KQ x),.bool true]:=by simp[Sy,h]
theorem Eg(h:Bh x=false):Sy x=.tuple #[.int .i64 0,.bool false,.bool false]:=by simp[Sy,h]
theorem FT(x:Int)(w:World)(hx:x<=9223372036854775807):Calls prog 150 #[.int .i64 x] w λe w'=>e=.returned (Sy x)/\w=w':=by
 by_cases h0:x<0
 .have E:=AA (Eg (x:=x) (by simp[Bh];omega))
  go_in;go_wp2_with fail;go_ret3;exact⟨Nv E.out.symm,rfl⟩
 .have dZ:0<=x:=by omega
  by_cases h1:x%2=0
  .have E:=AA (Eg (x:=x) (by simp[Bh];omega))
   have t:(x%2==0)=true:=by simp[h1]
   clear h1;go_in;go_wp2_with fail;go_ret3;exact⟨Nv E.out.symm,rfl⟩
  .have t:(x%2==0)=false:=by simp;omega
   cases hb:Be (x/4) 0 11
   focus
    have E:=AA (Eg (x:=x) (by have:=Vl.1 hb;simp[Bh];omega))
    have H:=AA hb;clear hb h1
   rotate_left
   focus
    have hg:Bh x=true:=by have:=Ab.1 hb;simp[Bh];omega
    have W:KQ x=(x%4==3):=by cases h:(x%4==3)<;>simp_all[KQ]
    have E:=AA (show Sy x=.tuple #[.int .i64 (x/4),.bool (x%4==3),.bool true] by rw[EX hg,UO hg,W]);clear W;have H:=AA hb;clear hb h1 hg
   rotate_left
   all_goals
    go_in;go_wp2_with (go_at_call 99;refine(Es _ _).mono ?_;rintro e w' ⟨rfl,rfl⟩;rw[H.out]);go_ret3;exact⟨Nv E.out.symm,rfl⟩
theorem Ox(a:Nat)(w:World)(h:a<64):Calls prog 159 #[.int .i64 a] w λe w'=>e=.returned (.tuple #[.int .i64 ((a/16:Nat):Int),.int .i64 ((a/4%4:Nat):Int),.int .i64 ((a%4:Nat):Int),.bool true])/\w=w':=by
 have H:=AA (show Be (a:Int) 0 63=true from Ab.2 (by omega));have e1:(a:Int)/16=((a/16:Nat):Int):=by omega
 have e2:(a:Int)/4%4=((a/4%4:Nat):Int):=by omega
 have e3:(a:Int)%4=((a%4:Nat):Int):=by omega
 have E:=AA (And.intro e1 (And.intro e2 e3));clear e1 e2 e3;go_in;go_wp2_with (go_at_call 28;refine(MA _ _).mono ?_;rintro e w' ⟨rfl,rfl⟩;rw[H.out]);refine bodyPost_ret (v:=.tuple #[.int .i64 ((a:Int)/16),.int .i64 ((a:Int)/4%4),.int .i64 ((a:Int)%4),.bool true]) (by simp[results,Tryz.results159,go_sem]) rfl ⟨?_,rfl⟩;rw[E.out.1,E.out.2.1,E.out.2.2]
theorem Kz(k:Int)(w:World):Calls prog 158 #[.int .i64 k] w λe w'=>e=.returned (.int .i64 (Uq k))/\w=w':=by
 by_cases h3:k=3
 .subst h3
  go_in;go_wp2_with fail;go_ret;exact⟨rfl,rfl⟩
 .have t3:(k==3)=false:=by simp[h3]
  by_cases h2:k=2
  .subst h2
   go_in;go_wp2_with fail;go_ret;exact⟨rfl,rfl⟩
  .have t2:(k==2)=false:=by simp[h2]
   have E:=AA (show Uq k=0 by simp[Uq,Bd,h2,h3]);clear h2 h3;go_in;go_wp2_with fail;go_ret;exact⟨Cb E.out.symm,rfl⟩
theorem Ic(k:Int)(w:World):Calls prog 102 #[.int .i64 k] w λe w'=>e=.returned (.bool (Bd k))/\w=w':=by
 by_cases h2:k=2
 .subst h2
  go_in;go_wp2_with fail;go_ret;exact⟨rfl,rfl⟩
 .have t2:(k==2)=false:=by simp[h2]
  have E:=AA (show Bd k=(k==3) by cases h:(k==3)<;>simp_all[Bd]);clear h2;go_in;go_wp2_with fail;go_ret;exact⟨AI E.out.symm,rfl⟩
theorem Oa{s:ByteArray}{k:Nat}(h:k<s.size)(hc:FI s[k]=false):BP s=false:=by
 have:s.data.toList.all FI=false:=by rw[wg];exact⟨s[k],by simp[uZ],by simp[hc]⟩
 simp[BP,this]
theorem Th{s:ByteArray}(h:∀k (hk:k<s.size),FI s[k]=true):BP s=decide ((s.size:Int)<=4):=by
 have:s.data.toList.all FI=true:=by rw[yd];intro x hx;obtain⟨k,hk,rfl⟩:=List.getElem_of_mem hx;have:=h k (by simpa using hk);simpa[uZ] using this
 rw[BP,this,Bool.true_and]
 by_cases h4:s.size<=4
 .have:(s.size:Int)<=4:=by omega
  simp[h4,this]
 .have:¬(s.size:Int)<=4:=by omega
  simp[h4,this]
theorem EJ(s:ByteArray)(w:World)(hs:s.size<=maxLen):
 Calls prog 179 #[.string s] w λe w'=>e=.returned (.bool (BP s))/\w=w':=by
 unfold maxLen at hs;go_in;go_wp2_with fail;go_loop [3] (λi=>∃k:Nat,k<=s.size/\i=.int .i64 k/\∀j (hj:j<s.size),j<k->FI s[j]=true) (λi=>s.size - (intOf i).toNat)
 case atStart=>exact⟨0,yh _,rfl,λj _ hj=>absurd hj (xP _)⟩
 case round=>
  obtain⟨k,hk,rfl,ao⟩:=hrel;have al:=AA ao;clear ao
  by_cases am:k<s.size
  .by_cases h1:s[k].toNat<97
   .have S:=AA (Oa (s:=s) am (by simp[FI];omega))
    have t1:(s[k].toNat:Int)<97:=by omega
    go_wp2_with fail;go_ret;exact⟨AI S.out.symm,rfl⟩
   .by_cases h2:99<s[k].toNat
    .have S:=AA (Oa (s:=s) am (by simp[FI];omega))
     have t1:(99:Int)<s[k].toNat:=by omega
     have t2:¬(s[k].toNat:Int)<97:=by omega
     go_wp2_with fail;go_ret;exact⟨AI S.out.symm,rfl⟩
    .have Ok:=AA (show FI s[k]=true by simp[FI];omega)
     have t1:¬(99:Int)<s[k].toNat:=by omega
     have t2:¬(s[k].toNat:Int)<97:=by omega
     go_wp2_with fail;go_round
     case rel=>exact⟨k+1,by omega,by go_num,λj hj cI=>by
      rcases xq.1 cI with h|h
      .exact al.out j hj h
      .subst h;exact Ok.out⟩
     case measure=>simp[intOf];omega
  .have S:=AA (Th (s:=s) (λj hj=>al.out j hj (by omega)))
   go_wp2_with fail;go_ret;exact⟨AI S.out.symm,rfl⟩
theorem Kd{f:FuncId}{ac:Array Value}{w:World}(h:Calls P f ac (w.drewN n) λe w'=>e=.returned v/\w.drewN n=w'):Calls P f ac (w.drewN n) λe bl=>e=.returned v/\∃m,bl=w.drewN m:=
 h.mono λ_ _ ⟨he,hm⟩=>⟨he,n,hm.symm⟩
theorem Oo{w wr:World}(h:∃n,wr=w.drewN n)(m:Nat):∃n,wr.drewN m=w.drewN n:=by obtain⟨n,rfl⟩:=h;exact⟨n+m,LD w n m⟩
theorem JE{k:Nat}(h:k<ss.length)(hc:Cq ss k=false):BQ ss=false:=by have:(yC ss.length).all (Cq ss)=false:=wg.2 ⟨k,xU.2 h,by simp[hc]⟩;simp[BQ,this]
theorem MF(h:∀k,k<ss.length->Cq ss k=true):BQ ss=decide ((ss.length:Int)<=6):=by
 have:(yC ss.length).all (Cq ss)=true:=yd.2 λk hk=>h k (xU.1 hk)
 rw[BQ,this,Bool.true_and]
 by_cases h4:ss.length<=6
 .have:(ss.length:Int)<=6:=by omega
  simp[h4,this]
 .have:¬(ss.length:Int)<=6:=by omega
  simp[h4,this]
theorem Sk.str{w:World}{a:Option Addr}(h:Sk 1 BB w a ss){k:Nat}(hk:k<ss.length):∃b ad,a=some ⟨b,ad,none⟩/\w.cell? ⟨b,ad+k,none⟩=some (.string (Db ss k)):=by obtain⟨b,ad,rfl,_,hc⟩:=h k _ (IR hk);exact⟨b,ad,rfl,by simpa using hc 0 _ rfl⟩
def DQ(ss:List ByteArray):Prop:=∀s∈ss,s.size<=maxLen
theorem DQ.nth(h:DQ ss){k:Nat}(hk:k<ss.length):(Db ss k).size<=maxLen:=h _ (ye (IR hk))
theorem GI(v:Value)(ss:List ByteArray)(w:World)(h:BR w v ss)(hs:DQ ss):
 Calls prog 127 #[v] w λe w'=>e=.returned (.bool (BQ ss))/\∃n,w'=w.drewN n:=by
 obtain⟨a,c,rfl,hc,a0,H0⟩:=BD.open Gv (by decide) h;unfold maxLen at a0;have Hs:=AA hs;clear hs h;go_in;go_wp2_with fail;go_loopw [3] (λi wr=>∃k:Nat,k<=ss.length/\i=.int .i64 k/\(∀j,j<k->Cq ss j=true)/\∃n,wr=w.drewN n) (λi _=>ss.length - (intOf i).toNat)
 case atStart=>exact⟨0,yh _,rfl,λj hj=>absurd hj (xP _),0,rfl⟩
 case round=>
  obtain⟨k,hk,rfl,ao,hw⟩:=hrel;have al:=AA ao;clear ao;have Hw:=AA hw;clear hw
  by_cases am:k<ss.length
  .obtain⟨b,ad,rfl,D0⟩:=H0.str am
   have D:wr.cell? ⟨b,ad+k,none⟩=some (.string (Db ss k)):=by obtain⟨n,rfl⟩:=Hw.out;exact D0
   have cZ:(k:Int)<ss.length:=by omega
   have cS:=Hs.out.nth am;cases bw:BP (Db ss k)
   .have S:=AA (JE am (by simp[Cq,bw]))
    have HQ:=AA (show ∀W,Calls prog 179 #[.string (Db ss k)] W λe w'=>e=.returned (.bool false)/\W=w' from λW=>by have:=EJ (Db ss k) W cS;rwa [bw] at this);clear bw D0;go_wp2_with fail;go_quiet ((go_at_call 179;exact Kd (HQ.out _)));go_wp2_with fail;go_ret;exact⟨AI S.out.symm,Oo Hw.out _⟩
   .have HQ:=AA (show ∀W,Calls prog 179 #[.string (Db ss k)] W λe w'=>e=.returned (.bool true)/\W=w' from λW=>by have:=EJ (Db ss k) W cS;rwa [bw] at this)
    by_cases cH:k=0
    .have Ok:=AA (show Cq ss k=true by simp[Cq,bw];exact .inl cH)
     have t0:decide (0<k)=false:=by simp;omega
     clear bw cH D0;go_wp2_with fail;go_quiet ((go_at_call 179;exact Kd (HQ.out _)));go_wp2_with fail;go_roundw
     case rel=>exact⟨k+1,by omega,by go_num,Ak al.out Ok.out,Oo Hw.out _⟩
     case measure=>simp[intOf];omega
    .obtain⟨b',b1,cm,E0⟩:=H0.str (show k - 1<ss.length by omega)
     obtain⟨rfl,rfl⟩:b=b'/\ad=b1:=by simpa using cm
     have E:wr.cell? ⟨b,ad+(k - 1),none⟩=some (.string (Db ss (k - 1))):=by obtain⟨n,rfl⟩:=Hw.out;exact E0
     have t0:decide (0<k)=true:=by simp;omega
     have dG:(0:Int)<k:=by omega
     have s0:wT.wrap ((k:Int) - 1)=(k:Int) - 1:=xy _ (by omega);have s1:((k:Int) - 1).toNat=k - 1:=by omega
     have s2:(k:Int) - 1<ss.length:=by omega
     have s3:(1:Int)<=k:=by omega
     have s4:(0:Int)<=(k:Int) - 1:=by omega
     clear D0 E0 cm;cases b8:Ty (Db ss (k - 1)) (Db ss k)
     .have Ok:=AA (show Cq ss k=true by simp[Cq,bw,b8])
      have hL:Op.bytesLess (Db ss (k - 1)).toList (Db ss k).toList=true:=by simpa[Ty] using b8
      clear bw b8;go_wp2_with fail;go_quiet ((go_at_call 179;exact Kd (HQ.out _)));go_wp2_with fail;go_roundw
      case rel=>exact⟨k+1,by omega,by go_num,Ak al.out Ok.out,Oo Hw.out _⟩
      case measure=>simp[intOf];omega
     .have S:=AA (JE am (by simp[Cq,bw,b8,cH]))
      have hL:Op.bytesLess (Db ss (k - 1)).toList (Db ss k).toList=false:=by simpa[Ty] using b8
      clear bw b8;go_wp2_with fail;go_quiet ((go_at_call 179;exact Kd (HQ.out _)));go_wp2_with fail;go_ret;exact⟨AI S.out.symm,Oo Hw.out _⟩
  .have S:=AA (MF (ss:=ss) (λj hj=>al.out j (by omega)))
   go_wp2_with fail;go_ret;exact⟨AI S.out.symm,Hw.out⟩
def Fs{α:Type}(p:α->Bool)(xs:List α):Int:=if xs.any p then(xs.findIdx p:Int) else -1
section
variable {α:Type} {p:α->Bool} {xs:List α}
theorem Ia(h:∀(j:Nat) x,xs[j]?=some x->p x=false):Fs p xs= -1:=by
 unfold Fs;have:xs.any p=false:=by rw[List.any_eq_false];intro x hx;obtain⟨j,hj⟩:=xj hx;simp[h j x hj]
 simp[this]
theorem J1{k:Nat}{x:α}(hk:xs[k]?=some x)(h:∀(j:Nat) y,j<k->xs[j]?=some y->p y=false)(hp:p x=true):Fs p xs=k:=by
 unfold Fs;obtain⟨am,rfl⟩:=yr.1 hk;have h1:xs.any p=true:=vo.2 ⟨xs[k],td am,hp⟩;have h2:xs.findIdx p=k:=by
  rw[List.findIdx_eq am];exact⟨hp,λj hj=>h j _ hj (yu (by omega))⟩
 simp[h1,h2]
theorem J2:decide (0<=Fs p xs)=xs.any p:=by unfold Fs;cases xs.any p<;>simp
theorem IX{k:Nat}{x:α}(h:∀(j:Nat) y,j<k->xs[j]?=some y->p y=false)(hk:xs[k]?=some x)(hp:p x=false):∀(j:Nat) y,j<k+1->xs[j]?=some y->p y=false:=by
 intro j y hj hy
 rcases xq.1 hj with h'|h'
 .exact h j y h' hy
 .subst h'
  rw[hk] at hy;cases hy;exact hp
end
theorem Ji(F:Nat)(ae:Array Value)(p:AU->Bool)(v:Value)(xs:List AU)(w:World)(h:BS w v xs)
 (hF:∀ac w,(callFunc F ac).run prog w=.ok (.enter F ac) w)(hf:∀x,x∈xs->∀W,Below w.heap.size w W->Calls prog F (#[x.val]++ae) W λe W'=>e=.returned (.bool (p x))/\Below W.heap.size W W'):
 Calls prog 135 #[v,.func (.func F) #[] ae] w λe w'=>e=.returned (.int .i64 (Fs p xs))/\Below w.heap.size w w':=by
 obtain⟨a,c,rfl,hc,a0,H0⟩:=BD.open Ay (by decide) h;clear h;unfold maxLen at a0;have Hf:=AA hf;clear hf;go_in;go_wp2;go_loopw [8] (λi wr=>∃k:Nat,k<=xs.length/\i=.int .i64 k/\(∀(j:Nat) x,j<k->xs[j]?=some x->p x=false)/\Below w.heap.size w wr) (λi _=>xs.length - (intOf i).toNat)
 case atStart=>exact⟨0,yh _,rfl,λj x hj=>absurd hj (xP _),yD _ _⟩
 case round=>
  obtain⟨k,hk,rfl,ao,ab⟩:=hrel;have al:=AA ao;clear ao
  by_cases am:k<xs.length
  .have hx:xs[k]?=some (zS xs k):=by simp[zS,am]
   obtain⟨b,ad,rfl,a5,bB,cq,cp⟩:=H0.zP am;have D0:=(ab.cell (p:=⟨b,ad+k*3,none⟩) a5).trans bB;have D1:=(ab.cell (p:=⟨b,ad+k*3+1,none⟩) a5).trans cq;have D2:=(ab.cell (p:=⟨b,ad+k*3+2,none⟩) a5).trans cp;clear bB cq cp;have Hx:=AA hx;have Hc:=AA (Hf.out _ (ye hx) wr ab);clear hx;cases hp:p (zS xs k)
   .have Hp:=AA hp;clear hp
    go_wp2_with (refine(Hc.out).mono ?_;rintro e w' ⟨rfl,av⟩;rw[Hp.out]);go_roundw
    case rel=>exact⟨k+1,by omega,by go_num,IX al.out Hx.out Hp.out,ab.trans (av.mono ab.size)⟩
    case measure=>simp[intOf];omega
   .have Hp:=AA hp;clear hp
    have ar:=AA (J1 Hx.out al.out Hp.out);go_wp2_with (refine(Hc.out).mono ?_;rintro e w' ⟨rfl,av⟩;rw[Hp.out]);go_ret;exact⟨Cb ar.out.symm,ab.trans (av.mono ab.size)⟩
  .have ar:=AA (Ia (p:=p) (xs:=xs) (λj x hx=>al.out j x (by have:=(yr.1 hx).1;omega) hx))
   go_wp2;go_ret;exact⟨Cb ar.out.symm,ab⟩
theorem Ku(F:Nat)(ae:Array Value)(p:AU->Bool)(v:Value)(xs:List AU)(w:World)(h:BS w v xs)
 (hF:∀ac w,(callFunc F ac).run prog w=.ok (.enter F ac) w)(hf:∀x,x∈xs->∀W,Below w.heap.size w W->Calls prog F (#[x.val]++ae) W λe W'=>e=.returned (.bool (p x))/\Below W.heap.size W W'):
 Calls prog 113 #[v,.func (.func F) #[] ae] w λe w'=>e=.returned (.bool (xs.any p))/\Below w.heap.size w w':=by
 have E:=AA (J2 (p:=p) (xs:=xs));have C:=AA (Ji F ae p v xs w h hF hf);clear h hf;go_in;go_wp2_with (refine(C.out).mono ?_;rintro e w' ⟨rfl,av⟩);go_ret;exact⟨AI E.out,av⟩
theorem Iv(F:Nat)(ae:Array Value)(p:Al->Bool)(v:Value)(xs:List Al)(w:World)(h:Dz w v xs)
 (hF:∀ac w,(callFunc F ac).run prog w=.ok (.enter F ac) w)(hf:∀x,x∈xs->∀W,Below w.heap.size w W->Calls prog F (#[x.val]++ae) W λe W'=>e=.returned (.bool (p x))/\Below W.heap.size W W'):
 Calls prog 198 #[v,.func (.func F) #[] ae] w λe w'=>e=.returned (.int .i64 (Fs p xs))/\Below w.heap.size w w':=by
 obtain⟨a,c,rfl,hc,a0,H0⟩:=BD.open Ch (by decide) h;clear h;unfold maxLen at a0;have Hf:=AA hf;clear hf;go_in;go_wp2;go_loopw [8] (λi wr=>∃k:Nat,k<=xs.length/\i=.int .i64 k/\(∀(j:Nat) x,j<k->xs[j]?=some x->p x=false)/\Below w.heap.size w wr) (λi _=>xs.length - (intOf i).toNat)
 case atStart=>exact⟨0,yh _,rfl,λj x hj=>absurd hj (xP _),yD _ _⟩
 case round=>
  obtain⟨k,hk,rfl,ao,ab⟩:=hrel;have al:=AA ao;clear ao
  by_cases am:k<xs.length
  .have hx:xs[k]?=some (AT xs k):=by simp[AT,am]
   obtain⟨b,ad,rfl,a5,bB,cq,cp,de⟩:=H0.zL am;have D0:=(ab.cell (p:=⟨b,ad+k*4,none⟩) a5).trans bB;have D1:=(ab.cell (p:=⟨b,ad+k*4+1,none⟩) a5).trans cq;have D2:=(ab.cell (p:=⟨b,ad+k*4+2,none⟩) a5).trans cp;have D3:=(ab.cell (p:=⟨b,ad+k*4+3,none⟩) a5).trans de;clear bB cq cp de;have Hx:=AA hx;have Hc:=AA (Hf.out _ (ye hx) wr ab);clear hx;cases hp:p (AT xs k)
   .have Hp:=AA hp;clear hp
    go_wp2_with (refine(Hc.out).mono ?_;rintro e w' ⟨rfl,av⟩;rw[Hp.out]);go_roundw
    case rel=>exact⟨k+1,by omega,by go_num,IX al.out Hx.out Hp.out,ab.trans (av.mono ab.size)⟩
    case measure=>simp[intOf];omega
   .have Hp:=AA hp;clear hp
    have ar:=AA (J1 Hx.out al.out Hp.out);go_wp2_with (refine(Hc.out).mono ?_;rintro e w' ⟨rfl,av⟩;rw[Hp.out]);go_ret;exact⟨Cb ar.out.symm,ab.trans (av.mono ab.size)⟩
  .have ar:=AA (Ia (p:=p) (xs:=xs) (λj x hx=>al.out j x (by have:=(yr.1 hx).1;omega) hx))
   go_wp2;go_ret;exact⟨Cb ar.out.symm,ab⟩
theorem L0(F:Nat)(ae:Array Value)(p:ByteArray->Bool)(v:Value)(xs:List ByteArray)(w:World)(h:BR w v xs)
 (hF:∀ac w,(callFunc F ac).run prog w=.ok (.enter F ac) w)(hf:∀x,x∈xs->∀W,Below w.heap.size w W->Calls prog F (#[Value.string x]++ae) W λe W'=>e=.returned (.bool (p x))/\Below W.heap.size W W'):
 Calls prog 162 #[v,.func (.func F) #[] ae] w λe w'=>e=.returned (.int .i64 (Fs p xs))/\Below w.heap.size w w':=by
 obtain⟨a,c,rfl,hc,a0,H0⟩:=BD.open Gv (by decide) h;clear h;unfold maxLen at a0;have Hf:=AA hf;clear hf;go_in;go_wp2;go_loopw [8] (λi wr=>∃k:Nat,k<=xs.length/\i=.int .i64 k/\(∀(j:Nat) x,j<k->xs[j]?=some x->p x=false)/\Below w.heap.size w wr) (λi _=>xs.length - (intOf i).toNat)
 case atStart=>exact⟨0,yh _,rfl,λj x hj=>absurd hj (xP _),yD _ _⟩
 case round=>
  obtain⟨k,hk,rfl,ao,ab⟩:=hrel;have al:=AA ao;clear ao
  by_cases am:k<xs.length
  .have hx:xs[k]?=some (Db xs k):=by simp[Db,am]
   obtain⟨b,ad,rfl,bB⟩:=H0.str am;have a5:=yA w _ bB;have D0:wr.cell? ⟨b,ad+k,none⟩=some (.string (Db xs k)):=(ab.cell (p:=⟨b,ad+k,none⟩) a5).trans bB;clear bB;have Hx:=AA hx;have Hc:=AA (Hf.out _ (ye hx) wr ab);clear hx;cases hp:p (Db xs k)
   .have Hp:=AA hp;clear hp
    go_wp2_with (refine(Hc.out).mono ?_;rintro e w' ⟨rfl,av⟩;rw[Hp.out]);go_roundw
    case rel=>exact⟨k+1,by omega,by go_num,IX al.out Hx.out Hp.out,ab.trans (av.mono ab.size)⟩
    case measure=>simp[intOf];omega
   .have Hp:=AA hp;clear hp
    have ar:=AA (J1 Hx.out al.out Hp.out);go_wp2_with (refine(Hc.out).mono ?_;rintro e w' ⟨rfl,av⟩;rw[Hp.out]);go_ret;exact⟨Cb ar.out.symm,ab.trans (av.mono ab.size)⟩
  .have ar:=AA (Ia (p:=p) (xs:=xs) (λj x hx=>al.out j x (by have:=(yr.1 hx).1;omega) hx))
   go_wp2;go_ret;exact⟨Cb ar.out.symm,ab⟩
theorem KJ(F:Nat)(ae:Array Value)(p:ByteArray->Bool)(v:Value)(xs:List ByteArray)(w:World)(h:BR w v xs)
 (hF:∀ac w,(callFunc F ac).run prog w=.ok (.enter F ac) w)(hf:∀x,x∈xs->∀W,Below w.heap.size w W->Calls prog F (#[Value.string x]++ae) W λe W'=>e=.returned (.bool (p x))/\Below W.heap.size W W'):
 Calls prog 109 #[v,.func (.func F) #[] ae] w λe w'=>e=.returned (.bool (xs.any p))/\Below w.heap.size w w':=by
 have E:=AA (J2 (p:=p) (xs:=xs));have C:=AA (L0 F ae p v xs w h hF hf);clear h hf;go_in;go_wp2_with (refine(C.out).mono ?_;rintro e w' ⟨rfl,av⟩);go_ret;exact⟨AI E.out,av⟩
theorem Jj(F:Nat)(ae:Array Value)(p:List Int->Bool)(v:Value)(m:List (List Int))(w:World)(h:Bf w v m)
 (hF:∀ac w,(callFunc F ac).run prog w=.ok (.enter F ac) w)(hf:∀u r,r∈m->∀W,Below w.heap.size w W->Aw W u r->Calls prog F (#[u]++ae) W λe W'=>e=.returned (.bool (p r))/\Below W.heap.size W W'):
 Calls prog 160 #[v,.func (.func F) #[] ae] w λe w'=>e=.returned (.int .i64 (Fs p m))/\Below w.heap.size w w':=by
 obtain⟨vs,h1,h2⟩:=h;obtain⟨a,c,rfl,hc,a0,H0⟩:=BD.open EG (by decide) h1;clear h1;unfold maxLen at a0;have Hf:=AA hf;clear hf;have H2:=AA h2;clear h2;go_in;go_wp2;go_loopw [8] (λi wr=>∃k:Nat,k<=vs.length/\i=.int .i64 k/\(∀(j:Nat) x,j<k->m[j]?=some x->p x=false)/\Below w.heap.size w wr) (λi _=>vs.length - (intOf i).toNat)
 case atStart=>exact⟨0,yh _,rfl,λj x hj=>absurd hj (xP _),yD _ _⟩
 case round=>
  obtain⟨k,hk,rfl,ao,ab⟩:=hrel;have al:=AA ao;clear ao
  by_cases am:k<vs.length
  .obtain⟨u,hu⟩:∃u,vs[k]?=some u:=⟨_,yu am⟩
   obtain⟨r,hx⟩:∃r,m[k]?=some r:=⟨_,yu (by rw[<-H2.out.1];exact am)⟩
   obtain⟨b,ad,rfl,a5,a2⟩:=H0 k u hu;have D0:wr.cell? ⟨b,ad+k,none⟩=some u:=(ab.cell (p:=⟨b,ad+k,none⟩) a5).trans (by simpa using a2 0 u rfl);have hr:=H2.out.2 k u r hu hx;have Hx:=AA hx;have Hc:=AA (Hf.out u r (ye hx) wr ab (Aw.below hr ab));clear hx hu a2 hr;cases hp:p r
   .have Hp:=AA hp;clear hp
    go_wp2_with (refine(Hc.out).mono ?_;rintro e w' ⟨rfl,av⟩;rw[Hp.out]);go_roundw
    case rel=>exact⟨k+1,by omega,by go_num,IX al.out Hx.out Hp.out,ab.trans (av.mono ab.size)⟩
    case measure=>simp[intOf];omega
   .have Hp:=AA hp;clear hp
    have ar:=AA (J1 Hx.out al.out Hp.out);go_wp2_with (refine(Hc.out).mono ?_;rintro e w' ⟨rfl,av⟩;rw[Hp.out]);go_ret;exact⟨Cb ar.out.symm,ab.trans (av.mono ab.size)⟩
  .have ar:=AA (Ia (p:=p) (xs:=m) (λj x hx=>al.out j x (by have:=(yr.1 hx).1;rw[<-H2.out.1] at this;omega) hx))
   go_wp2;go_ret;exact⟨Cb ar.out.symm,ab⟩
theorem IV(F:Nat)(ae:Array Value)(p:List Int->Bool)(v:Value)(m:List (List Int))(w:World)(h:Bf w v m)
 (hF:∀ac w,(callFunc F ac).run prog w=.ok (.enter F ac) w)(hf:∀u r,r∈m->∀W,Below w.heap.size w W->Aw W u r->Calls prog F (#[u]++ae) W λe W'=>e=.returned (.bool (p r))/\Below W.heap.size W W'):
 Calls prog 105 #[v,.func (.func F) #[] ae] w λe w'=>e=.returned (.bool (m.any p))/\Below w.heap.size w w':=by
 have E:=AA (J2 (p:=p) (xs:=m));have C:=AA (Jj F ae p v m w h hF hf);clear h hf;go_in;go_wp2_with (refine(C.out).mono ?_;rintro e w' ⟨rfl,av⟩);go_ret;exact⟨AI E.out,av⟩
section
variable {α:Type} {lo e sz:Nat} {cs:α->List Value} {w:World} {g ai k:Nat} {xs:List α}
theorem AQ.zM(h:AQ lo e sz cs w v xs)(hn:0<xs.length):∃g ai,v=.slice (some ⟨g,0,none⟩) xs.length ai/\xs.length<=ai/\ai<=maxLen/\lo<=g/\g<w.heap.size/\∀j,w.frozen? ⟨g,j,none⟩=false:=by
 obtain⟨g,ai,rfl,h1,h2⟩:=JN h hn;obtain⟨a,c,hv,h3,h4⟩:=h.rd.shape;cases hv;exact⟨g,ai,rfl,h3,h4,h1,h2,λj=>xN h j⟩
theorem AQ.stored(hs:∀x,(cs x).length=sz)(h:AQ lo e sz cs w (.slice (some ⟨g,0,none⟩) xs.length ai) xs)(hk:k<xs.length)(y:α):
 AQ lo e sz cs (Lx w g (k*sz) 0 (cs y)) (.slice (some ⟨g,0,none⟩) xs.length ai) (xs.set k y)/\w.grownBy (Lx w g (k*sz) 0 (cs y)) (some g):=by
 obtain⟨h1,h2⟩:=Ih h (k*sz) 0 (cs y);rw[UT hs hk] at h1;refine⟨?_,h2⟩;unfold AQ;rw[xS];exact h1
theorem AQ.zz(hs:∀x,(cs x).length=sz)(h:AQ lo e sz cs w (.slice (some ⟨g,0,none⟩) xs.length ai) xs){x:α}(hk:xs[k]?=some x):∀(j:Nat) u,(cs x)[j]?=some u->w.cell? ⟨g,k*sz+j,none⟩=some u:=by
 intro j u hj;have am:=(yr.1 hk).1;have b7:j<sz:=by rw[<-hs x];exact(yr.1 hj).1
 have hm:k*sz+sz<=xs.length*sz:=by rw[<-Nat.succ_mul];exact vE _ am
 rw[xB h (k*sz+j) (by omega),Oq hs hk b7,hj]
end
theorem AQ.zP{lo e g ai k:Nat}{w:World}{xs:List AU}(h:AQ lo e 3 A2 w (.slice (some ⟨g,0,none⟩) xs.length ai) xs)(hk:k<xs.length):
 w.cell? ⟨g,k*3,none⟩=some (.int .i64 (zS xs k).k)/\w.cell? ⟨g,k*3+1,none⟩=some (.string (zS xs k).g)/\w.cell? ⟨g,k*3+2,none⟩=some (.int .i64 (zS xs k).r):=by
 have hc:=AQ.zz Ay h (k:=k) (x:=zS xs k) (by simp[zS,hk]);exact⟨hc 0 _ rfl,hc 1 _ rfl,hc 2 _ rfl⟩
theorem AQ.zL{lo e g ai k:Nat}{w:World}{xs:List Al}(h:AQ lo e 4 Ag w (.slice (some ⟨g,0,none⟩) xs.length ai) xs)(hk:k<xs.length):
 w.cell? ⟨g,k*4,none⟩=some (.int .i64 (AT xs k).e)/\w.cell? ⟨g,k*4+1,none⟩=some (.int .i64 (AT xs k).p)/\w.cell? ⟨g,k*4+2,none⟩=some (.int .i64 (AT xs k).f)/\w.cell? ⟨g,k*4+3,none⟩=some (.bool (AT xs k).w):=by
 have hc:=AQ.zz Ch h (k:=k) (x:=AT xs k) (by simp[AT,hk]);exact⟨hc 0 _ rfl,hc 1 _ rfl,hc 2 _ rfl,hc 3 _ rfl⟩
theorem AM{B:Nat}{w bl:World}{g:Nat}(h:Below B w w')(hg:w'.grownBy bl (some g))(hB:B<=g)(hs:B<=w'.heap.size):Below B w bl:=h.grown hg hs (λk hk=>by cases hk;exact hB)
theorem Jz(b o:Nat)(vs:List Value):∀(j:Nat)(w:World),w.setCells b (o+j) vs=Lx w b o j vs:=by
 induction vs with
 |nil=>intro j w;rfl
 |cons v vs ih=>intro j w;exact ih (j+1) _
theorem Tm(xs us:List Value)(o:Nat):∀(j:Nat),(JF xs o j us).take o=xs.take o:=by
 induction us generalizing xs with
 |nil=>intro j;rfl
 |cons u us ih=>
  intro j;rw[JF,ih];apply tj;intro k
  by_cases hk:k<o
  .rw[vC hk,vC hk,List.getElem?_set_ne (by omega)]
  .rw[ut (by omega),ut (by omega)]
theorem Ut{lo e sz k:Nat}{w:World}{g ai:Nat}{xs:List Value}(h:w.ownsRow lo e sz (.slice (some ⟨g,0,none⟩) n ai) n xs)(hk:k<=n):w.ownsRow lo e sz (.slice (some ⟨g,0,none⟩) k ai) k (xs.take (k*sz)):=by
 rcases h.2 with⟨h0,_⟩|⟨g',cap',cur,hv,hb,hg,cG,a0,hcs,htake⟩
 .cases h0
 .cases hv
  have hm:k*sz<=n*sz:=vE _ hk;refine⟨by rw[xT,h.1];omega,.inr ⟨g,ai,cur,rfl,hb,hg,by omega,a0,hcs,?_⟩⟩;rw[<-htake,List.take_take,Nat.min_eq_left hm]
theorem RA{lo e sz k g ai:Nat}{w:World}{xs:List Value}{z:Value}(ht:P.underlying t=some (.slice e))(hv:∀w,(zeroValue e).run P w=.ok z w)(df:z.cells.size=sz)(h1:∀u∈z.cells.toList,u.oneCell'=true)
 (h:w.ownsRow lo e sz (.slice (some ⟨g,0,none⟩) n ai) n xs)(hk:k<n):
 ∃w',(∀ty c,(uB #[t] ty #[.slice (some ⟨g,k*sz,none⟩) (n - k) c]).run P w=.ok (.tuple #[]) w')/\w'.ownsRow lo e sz (.slice (some ⟨g,0,none⟩) k ai) k (xs.take (k*sz))/\w.grownBy w' (some g):=by
 have a4:(xK z.cells (n - k)).toList.length=(n - k)*sz:=by simp[xK,df,Nat.mul_comm]
 have dI:=h.1;have dk:k*sz+(n - k)*sz=n*sz:=by rw[<-Nat.add_mul];congr 1;omega
 have hst:=run_storeCells_cells (P:=P) g (k*sz) (xK z.cells (n - k)).toList 0 w (by
  intro j hj;rw[a4] at hj;have:=xB h (k*sz+j) (by omega);simp only[xL] at this ⊢;rw[this];simp;omega) (by intro j _;exact xN h _) (by
  intro u hu;simp only[xK,Array.toList_map,List.mem_map,Array.mem_toList_iff,Array.mem_range] at hu;obtain⟨i,hi,rfl⟩:=hu;have hs:0<z.cells.size:=by
   rcases vQ z.cells.size with h0|h0
   .rw[h0] at hi;simp at hi
   .exact h0
  have am:i%z.cells.size<z.cells.size:=th _ hs;refine h1 _ ?_;simp[am])
 obtain⟨m,hm⟩:∃m,n - k=m+1:=⟨n - k - 1,by omega⟩
 simp only[xL] at hst;refine⟨w.setCells g (k*sz) (xK z.cells (n - k)).toList,λty c=>?_,?_,?_⟩
 .rw[hm] at hst ⊢
  simp[uB,run_underlying ht,hv,hst]
 .have e0:=Jz g (k*sz) (xK z.cells (n - k)).toList 0 w
  rw[xL] at e0;rw[e0];obtain⟨a1,_⟩:=Ih h (k*sz) 0 (xK z.cells (n - k)).toList;have:=Ut a1 (Nat.le_of_lt hk);rw[Tm] at this;exact this
 .have e0:=Jz g (k*sz) (xK z.cells (n - k)).toList 0 w
  rw[xL] at e0;rw[e0];exact(Ih h (k*sz) 0 (xK z.cells (n - k)).toList).2
section
variable {α:Type} {p:α->Bool} {xs ys:List α} {i j:Nat}
structure Jg(p:α->Bool)(xs ys:List α)(i j:Nat):Prop where
 len:ys.length=xs.length
 lt:i<j
 le:j<=xs.length
 kept:ys.take i=(xs.take j).filter λx=>!p x
 rest:ys.drop j=xs.drop j
theorem Jg.start{k:Nat}{x:α}(hk:xs[k]?=some x)(h:∀(j:Nat) y,j<k->xs[j]?=some y->p y=false)(hp:p x=true):Jg p xs xs k (k+1):=by
 have am:=(yr.1 hk).1;refine⟨rfl,by omega,by omega,?_,rfl⟩;rw[Cx hk,wE];have h1:(xs.take k).filter (λx=>!p x)=xs.take k:=by rw[tG];intro y hy;obtain⟨j,hj⟩:=xj hy;have cI:=(yr.1 hj).1;rw[xT] at cI;rw[vC (by omega)] at hj;simp[h j y (by omega) hj]
 rw[h1];simp[hp]
theorem Jg.drop(h:Jg p xs ys i j){x:α}(hx:xs[j]?=some x)(hp:p x=true):Jg p xs ys i (j+1):=by
 have am:=(yr.1 hx).1;refine⟨h.len,by have:=h.lt;omega,by omega,?_,?_⟩
 .rw[h.kept,Cx hx,wE]
  simp[hp]
 .have:=congrArg (List.drop 1) h.rest
  rw[uY,uY] at this;exact this
theorem Jg.keep(h:Jg p xs ys i j){x:α}(hx:xs[j]?=some x)(hp:p x=false):Jg p xs (ys.set i x) (i+1) (j+1):=by
 have am:=(yr.1 hx).1;have ds:=h.lt;refine⟨by rw[xS];exact h.len,by omega,by omega,?_,?_⟩
 .have e:(ys.set i x).take (i+1)=ys.take i++[x]:=by
   have hi:(ys.set i x)[i]?=some x:=by rw[List.getElem?_set_self (by rw[h.len];omega)]
   rw[Cx hi,List.take_set_of_le (yt _)]
  rw[e,h.kept,Cx hx,wE];simp[hp]
 .rw[List.drop_set_of_lt (by omega)]
  have:=congrArg (List.drop 1) h.rest;rw[uY,uY] at this;exact this
theorem Jg.next(h:Jg p xs ys i j):ys[j]?=xs[j]? :=by
 have:=congrArg (λl=>l[0]?) h.rest;simpa using this
theorem Jg.done(h:Jg p xs ys i j)(hj:j=xs.length):ys.take i=xs.filter λx=>!p x:=by rw[h.kept,hj,List.take_length]
theorem TA(h:Fs p xs≠ -1):∃k x,Fs p xs=((k:Nat):Int)/\xs[k]?=some x/\p x=true/\∀(j:Nat) y,j<k->xs[j]?=some y->p y=false:=by
 unfold Fs at h ⊢
 split
 .rename_i ha
  have hl:xs.findIdx p<xs.length:=vt.2 (vo.1 ha);refine⟨_,xs[xs.findIdx p],rfl,yu hl,vd,λj y hj hy=>?_⟩;obtain⟨dq,rfl⟩:=yr.1 hy;have:=List.not_of_lt_findIdx hj;simpa using this
 .rename_i ha
  rw[if_neg ha] at h;exact absurd rfl h
theorem Vf(h:Fs p xs= -1):xs.filter (λx=>!p x)=xs:=by
 rw[tG];intro x hx;unfold Fs at h
 split at h
 .omega
 .rename_i ha
  simp only[vo,not_exists,not_and] at ha;simpa using ha x hx
end
theorem bJ{lo e sz g ai:Nat}{w:World}{xs:List Value}(h:w.ownsRow lo e sz (.slice (some ⟨g,0,none⟩) n ai) n xs):lo<=g/\g<w.heap.size:=World.ownsRow.lt h g rfl
theorem VC:∀w,(zeroValue 112).run prog w=.ok (.agg #[.int .i64 0,.int .i64 0,.int .i64 0,.bool false]) w:=λ_=>by kernel_rfl
theorem Kv{lo:Nat}(F:Nat)(ae:Array Value)(p:Al->Bool)(v:Value)(xs:List Al)(w:World)(h:AQ lo 112 4 Ag w v xs)(cr:lo<=w.heap.size)
 (hF:∀ac w,(callFunc F ac).run prog w=.ok (.enter F ac) w)(hf:∀x,x∈xs->∀W,Below lo w W->Calls prog F (#[x.val]++ae) W λe W'=>e=.returned (.bool (p x))/\Below W.heap.size W W'):
 Calls prog 253 #[v,.func (.func F) #[] ae] w λe w'=>∃v',e=.returned v'/\AQ lo 112 4 Ag w' v' (xs.filter λx=>!p x)/\Below lo w w':=by
 have C0:=Iv F ae p v xs w h.rd hF (λx hx W hW=>hf x hx W (hW.mono cr))
 by_cases bf:Fs p xs= -1
 .have S:=AA (Vf bf)
  rw[bf] at C0;have H:=AA h;obtain⟨a,c,rfl,hc,a0⟩:=h.rd.shape;have C:=AA C0;clear C0 hf bf h;go_in;go_wp2_with (refine(C.out).mono ?_;rintro e w1 ⟨rfl,bx⟩);go_ret;exact⟨_,rfl,by rw[S.out];exact H.out.below bx,bx.mono cr⟩
 .obtain⟨k,x0,hk,cx,cU,ao⟩:=TA bf
  rw[hk] at C0;have dO:k<xs.length:=(yr.1 cx).1;obtain⟨g,ai,rfl,hc,a0,hg,dS,cK⟩:=h.zM (by omega);unfold maxLen at a0;have t0:((k:Int)== -1)=false:=by rw[beq_eq_false_iff_ne];omega
  have C:=AA C0;have Hf:=AA hf;have S0:=AA (Jg.start cx ao cU);have HO:=AA h;clear C0 hf bf hk cx cU ao h cK;go_in;go_wp2_with (refine(C.out).mono ?_;rintro e w1 ⟨rfl,bx⟩);go_loopw [5,6] (λi5 j6 wr=>∃i j:Nat,∃ys:List Al,i5=.int .i64 i/\j6=.int .i64 j/\Jg p xs ys i j/\AQ lo 112 4 Ag wr (.slice (some ⟨g,0,none⟩) xs.length ai) ys/\Below lo w wr) (λ_ j6 _=>xs.length - (intOf j6).toNat)
  case atStart=>exact⟨k,k+1,xs,rfl,by go_num,S0.out,HO.out.below bx,bx.mono cr⟩
  case round=>
   clear bx HO;obtain⟨i,j,ys,rfl,rfl,hS,hO,ab⟩:=hrel;have ds:=hS.lt;have dq:=hS.le;have a4:=hS.len;have S:=AA hS;have b0:AQ lo 112 4 Ag wr (.slice (some ⟨g,0,none⟩) ys.length ai) ys:=by rw[a4];exact hO
   have du:∀q,wr.frozen? ⟨g,q,none⟩=false:=λq=>xN b0 q
   have bA:lo<=wr.heap.size:=yB cr ab.size
   by_cases am:j<xs.length
   .obtain⟨x,hx⟩:∃x,xs[j]?=some x:=⟨_,yu am⟩
    have c5:j<ys.length:=by omega
    have c6:i<ys.length:=by omega
    obtain⟨d0,d1,d2,d3⟩:=AQ.zL b0 (k:=j) c5;obtain⟨e0,e1,e2,e3⟩:=AQ.zL b0 (k:=i) c6;have cN:AT ys j=x:=by have:=S.out.next;rw[hx] at this;simp[AT,this]
    rw[cN] at d0 d1 d2 d3;have dQ:=(bJ b0);have Cf:=AA (Hf.out x (ye hx) (wr.alloc (.cells #[.int .i64 x.e,.int .i64 x.p,.int .i64 x.f,.bool x.w] 112)) (ab.alloc bA _));have Hx:=AA hx;have dE:=AA b0;have dD:i<xs.length:=by omega
    clear hS hO b0 hx cN a4 c5 c6;go_wp2_with fail;refine(Cf.out).mono ?_;rintro e w2 ⟨rfl,av⟩;have cv:=(ab.alloc bA (.cells #[.int .i64 x.e,.int .i64 x.p,.int .i64 x.f,.bool x.w] 112)).trans (av.mono (by simp;omega));have bN:=(AE wr (.cells #[.int .i64 x.e,.int .i64 x.p,.int .i64 x.f,.bool x.w] 112)).trans (av.mono (AE _ _).size);have dd:=AA (dE.out.below bN);obtain⟨dW,dT⟩:=aH av;have hz:wr.heap.size<w2.heap.size:=by have:=av.size;simp at this;omega
    cases hp:p x
    .have SK:=AA (S.out.keep Hx.out hp)
     have Hp:=AA hp;clear hp;have dc:=AQ.stored Ch dd.out (k:=i) (by rw[S.out.len];exact dD) x;have ST:=AA dc;clear dc;have BL:=AA (AM cv ST.out.2 hg (yB bA bN.size));clear bN cv av;go_wp2_with fail;go_roundw
     case rel=>exact⟨i+1,j+1,ys.set i x,by go_num,by go_num,SK.out,by have:=ST.out.1;rw[S.out.len] at this;exact this,BL.out⟩
     case measure=>simp[intOf];omega
    .have SD:=AA (S.out.drop Hx.out hp)
     have Hp:=AA hp;clear hp;have HB:=AA cv;clear bN cv av;go_wp2_with fail;go_roundw
     case rel=>exact⟨i,j+1,ys,rfl,by go_num,SD.out,by have:=dd.out;rw[S.out.len] at this;exact this,HB.out⟩
     case measure=>simp[intOf];omega
   .have c4:j=xs.length:=by omega
    have hd:=AA (hS.done c4);have dr:i<xs.length:=by omega
    have db:wr.ownsRow lo 112 4 (.slice (some ⟨g,0,none⟩) xs.length ai) xs.length (Ci Ag ys):=by have:=b0;unfold AQ at this;rwa [a4] at this
    obtain⟨w3,c9,cM,c8⟩:=RA (P:=prog) (sz:=4) (t:=26) underlying26 VC rfl (by simp[Value.cells,Value.oneCell']) db dr;have hE:(Ci Ag ys).take (i*4)=Ci Ag (xs.filter λx=>!p x):=by
     rw[<-hd.out]
     conv=>lhs;rw[<-List.take_append_drop i ys,Bm]
     rw[List.take_left'];rw[J3 Ch,xT]
     congr 1;omega
    have hL:(xs.filter λx=>!p x).length=i:=by rw[<-hd.out,xT];omega
    rw[hE] at cM;have R:=AA (show AQ lo 112 4 Ag w3 (.slice (some ⟨g,0,none⟩) i ai) (xs.filter λx=>!p x) by unfold AQ;rw[hL];exact cM);have BL:=AA (AM ab c8 hg bA);have dx:¬ai=i:=by omega
    have dw:=λty=>c9 ty (ai - i)
    clear hO b0 db cM hE hL c9 c8 a4 hS du c4 hd;go_wp2_with fail;go_ret;exact⟨_,rfl,R.out,BL.out⟩
end Go.Proofs.YtpdjjjdkhedibaaGreatDoor
