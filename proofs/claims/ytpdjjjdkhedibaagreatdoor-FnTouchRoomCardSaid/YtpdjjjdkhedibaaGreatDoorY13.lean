/-
  Packed:12 texts.
-/
import Derived.Test.YtpdjjjdkhedibaaGreatDoorY1
import Derived.Test.YtpdjjjdkhedibaaGreatDoorY12
import Derived.Deep.DeepCutAuto
import Derived.Deep.CutBlock
import Derived.Test.YtpdjjjdkhedibaaGreatDoorY11
import Derived.Test.YtpdjjjdkhedibaaGreatDoorY7
import Derived.Test.YtpdjjjdkhedibaaGreatDoorY5
import Derived.Test.YtpdjjjdkhedibaaGreatDoorY10
import Derived.Test.YtpdjjjdkhedibaaGreatDoorY8
set_option linter.unusedVariables false
set_option linter.unusedSimpArgs false
set_option maxHeartbeats 16000000
set_option maxRecDepth 100000
open Go Go.Proofs.YtpdjjjdkhedibaaGreatDoor
open And renaming intro->xZ
open Go.Region renaming waitsFor->yg
open Go.RowKit.Below renaming refl->yD
open Go.Value renaming oneCell'->xD,slice->xF
open Go.World.ownsRow renaming lt->yq
open Go renaming bodyPost_ret->yk,cell_of_row->yi,heap_alloc_new->yv,heap_setCell_same->ym
open Int renaming eq_ofNat_of_zero_le->xW
open List renaming filter_cons->vL,foldl_cons->yy,foldl_nil->yw,getD_eq_getElem?_getD->xR,getElem?_eq_getElem->yu,getElem?_set_self->xI,getElem?_take->uD,length_append->yj,length_filter_le->wU,length_set->xS,length_take->xT,mem_cons->xA,not_mem_nil->wR,range->yC
open List.range renaming loop->yz
open Nat renaming add_le_add_left->tv,le_refl->yt,le_succ->wv,le_trans->yB,lt_of_lt_of_le->xX,min_eq_left->sH,mul_le_mul_left->wJ,mul_le_mul_right->vE,zero_le->yh
variable {w1:World} {bq:Nat}
namespace Go.Proofs.YtpdjjjdkhedibaaGreatDoor
open Go.Proofs.Tryz
open Go.RowKit
def Jh(w0:World)(g N:Nat)(w:World)(P:Value->World->Prop)(e:Ending)(w':World):Prop:=∃v,e=.returned v/\P v w'/\Dr w0 g N w'/\w.grownBy w' (some g)
def Pk(m:Int)(v:Value):Prop:=∃x:Int,v=.int .i64 x/\0<=x/\x<m
theorem yO(cs:List Nat)(L:Nat->Bool)(i:Nat):(cs.filter λj=>!GP L i j).length<=(cs.filter λj=>!L j).length:=by
 induction cs with
 |nil=>exact yt _
 |cons c cs ih=>
  simp only[vL]
  by_cases h:c=i
  .subst h
   rw[show GP L c c=true by simp[GP]];cases L c<;>simp<;>omega
  .rw[show GP L i c=L c by simp[GP,h]]
   cases L c<;>simp<;>omega
theorem YW(cs:List Nat)(L:Nat->Bool)(i:Nat)(hi:cs.contains i=true)(hL:L i=false):(cs.filter λj=>!GP L i j).length+1<=(cs.filter λj=>!L j).length:=by
 induction cs with
 |nil=>cases hi
 |cons c cs ih=>
  simp only[vL]
  by_cases h:c=i
  .subst h
   rw[show GP L c c=true by simp[GP],hL];have:=yO cs L c;simp;omega
  .rw[show GP L i c=L c by simp[GP,h]]
   have eE:cs.contains i=true:=by simpa[Ne.symm h] using hi
   have:=ih eE;cases L c<;>simp<;>omega
def Wu(w0:World)(g:Nat)(W0:World)(N0 kk c:Nat)(cs:List Nat)(L:Nat->Bool)(w:World):Prop:=∃M,M+kk*(cs.filter λj=>!L j).length<=N0+kk*c/\Dr w0 g M w/\W0.grownBy w (some g)
section
variable {P:Program} {l:List Oper} {n i:Nat} {o o':Oper} {a a0:Act} {w w0 W0:World} {K:Act->World->Prop} {Q:Exit->Act->World->Prop} {V:List Vx} {R:Nat->Value->World->Prop} {v:Value} {g N0 kk c:Nat} {cs:List Nat} {L:Nat->Bool}
abbrev bW(l:List Oper)(n:Nat)(a0 a:Act):Prop:=a.defers=a0.defers/\a.tmps.size=a0.tmps.size/\∀t,(∀i,i<n->Ae l i≠t)->a.tmps[t]?=a0.tmps[t]?
abbrev bX(l:List Oper)(i:Nat)(V:List Vx)(R:Nat->Value->World->Prop)(a:Act)(w:World):Prop:=∀j,yg .any l.toArray i j=true->RV V R j (a.tmps[Ae l j]?.getD undef) w
abbrev bL(V:List Vx)(R:Nat->Value->World->Prop)(w0:World)(g:Nat)(W0:World)(N0 kk c:Nat)(cs:List Nat)(L:Nat->Bool)(i:Nat)(o:Oper)(a:Act)(w:World)(K:Act->World->Prop):Prop:=∀v w',RV V R i v w'->Wu w0 g W0 N0 kk c cs (GP L i) w'->w.grownBy w' (some g)->K (a.put o.dst v) w'
theorem gc{b dH:Nat}(hW:W0.grownBy w (some g))(ac:b<W0.heap.size)(cx:b≠g)(h:W0.cell? ⟨b,dH,none⟩=some v):w.cell? ⟨b,dH,none⟩=some v:=(World.cell?_of_block (hW.block b ac (by simpa using cx))).trans h
theorem dR{F:FuncId}{vs:Array Value}{Pv:Value->World->Prop}{k:Nat}(ho:l[i]?=some o)(HQ:Hid (bL V R w0 g W0 N0 kk c cs L i o a w K))(Hb:Hid (bW l n a0 a))(Hd:Hid (bX l i V R a w))(HL:Hid (L i=false))(hG:Wu w0 g W0 N0 kk c cs L w)
 (hc:∀M,M<=N0+kk*c->Dr w0 g M w->W0.grownBy w (some g)->Calls P F vs w (Jh w0 g (M+k) w Pv))(hk:k<=kk:=by decide)(hR:∀v w',Pv v w'->RV V R i v w':=by exact λ_ _ h=>h)(hi:cs.contains i=true:=by rfl)
 (e:l[i]?=some o':=by rfl)(hw:Kn l i V o'=some true:=by kernel_rfl)(hr:(execOp (ZF l n i V a0 a) o').run P w=.ok (.enter F vs) w:=by kernel_rfl):AV P l o a w K Q:=by
 obtain rfl:=yF (ho.symm.trans e);refine⟨λ_=>?_,λh=>absurd ((KI Hd hw).symm.trans h) (by decide)⟩;unfold Oper.wp;rw[<-QF Hb Hd,hr,Oper.upon_enter];obtain⟨M,hM,hD,hW⟩:=hG;refine(hc M (by omega) hD hW).mono ?_;intro x w' h;obtain⟨v,rfl,h1,h2,h3⟩:=h;have hl:=YW cs L i hi HL.out;refine HQ.out v w' (hR v w' h1) ⟨M+kk,?_,h2.mono (by omega),AP hW h3⟩ h3;have:=wJ kk hl;rw[Nat.mul_add,Nat.mul_one] at this;omega
theorem bo{F:FuncId}{vs:Array Value}{Pv:Value->Prop}{k:Nat}(ho:l[i]?=some o)(HQ:Hid (bL V R w0 g W0 N0 kk c cs L i o a w K))(Hb:Hid (bW l n a0 a))(Hd:Hid (bX l i V R a w))(HL:Hid (L i=false))(hG:Wu w0 g W0 N0 kk c cs L w)
 (hc:∀M,M<=N0+kk*c->Dr w0 g M w->W0.grownBy w (some g)->Calls P F vs w (GQ w0 g (M+k) w Pv))(hk:k<=kk:=by decide)(hR:∀v w',Pv v->RV V R i v w':=by exact λ_ _ h=>h)(hi:cs.contains i=true:=by rfl)
 (e:l[i]?=some o':=by rfl)(hw:Kn l i V o'=some true:=by kernel_rfl)(hr:(execOp (ZF l n i V a0 a) o').run P w=.ok (.enter F vs) w:=by kernel_rfl):AV P l o a w K Q:=
 dR (Pv:=λv _=>Pv v) ho HQ Hb Hd HL hG hc hk hR hi e hw hr
theorem Ey{id:Nat}(n N kk c:Nat)(cs:List Nat)(V:List Vx)(R:Nat->Value->World->Prop)(dD:Dr w0 g N0 W0)
 (cV:∀i,i<n->∀o,l[i]?=some o->∀a w,Hid (bW l n a0 a)->Hid (bX l i V R a w)->∀L:Nat->Bool,Hid (L i=false)->Wu w0 g W0 N0 kk c cs L w->W0.grownBy w (some g)->
  ∀K:Act->World->Prop,Hid (bL V R w0 g W0 N0 kk c cs L i o a w K)->Hid (∀v w',RV V R i v w'->Below w.heap.size w w'->K (a.put o.dst v) w')->AV P l o a w K Q)
 (cd:∀(vs:Nat->Value) w,(∀i,i<n->RV V R i (vs i) w)->Dr w0 g (N0+kk*c) w->W0.grownBy w (some g)->wpList P l.toArray Q (l.drop n) {a0 with tmps:=Aj l (yC n) vs a0.tmps} w)
 (hst:∀i,i<n->∀v w w',w.grownBy w' (some g)->R i v w->R i v w':=by exact λ_ _ _ _ _ _ h=>h)(dB:cs.length=c:=by rfl)
 (hm:P.follows .mixedOrders=true:=by kernel_rfl)(hB:IJ l n=true:=by kernel_rfl)(hN:a0.tmps.size=N:=by rfl)(hD:Va l n N=true:=by kernel_rfl):(Code.region id l.toArray true).wp P Q a0 W0:=by
 subst dB;refine Fo n hm hB N hN hD (RV V R) (λL w=>Wu w0 g W0 N0 kk cs.length cs L w) ?_ ?_ ?_
 .refine⟨N0,?_,dD.below (A8 (yD _ _) 1),AX (A8 (yD _ _) 1) _⟩
  have:=wU (λj=>!(λ_:Nat=>false) j) cs;exact tv (wJ kk this) _
 .intro i hi o ho a w Hb Hd L HL hG K HK
  have hq:bL V R w0 g W0 N0 kk cs.length cs L i o a w K:=λv w' h1 h2 h3=>HK.out v w' h1 h2 λj u _ hj _ h=>RV.mono (hst j hj u w w' h3) h
  have hW:W0.grownBy w (some g):=by obtain⟨_,_,_,h⟩:=hG;exact h
  refine cV i hi o ho a w Hb Hd L (AA HL.out.1) hG hW K (AA hq) (AA λv w' h1 hb=>hq v w' h1 ?_ (AX hb _));obtain⟨M,h2,h3,h4⟩:=hG;have:=wJ kk (yO cs L i);exact⟨M,by omega,h3.below hb,AP h4 (AX hb _)⟩
 .intro vs w hR L hL hG
  obtain⟨M,h2,h3,h4⟩:=hG;exact cd vs w hR (h3.mono (by omega)) h4
def QB(l:List Oper):Nat->Nat->Nat->Bool
 |0,_,_=>false
 |f+1,k,i=>yg .any l.toArray k i||(yC l.length).any λj=>yg .any l.toArray k j&&QB l f j i
theorem Uy{f k:Nat}(hc:∀j j',L j=true->yg .any l.toArray j j'=true->L j'=true)(hk:L k=true)(h:QB l f k i=true):L i=true:=by
 induction f generalizing k with
 |zero=>cases h
 |succ f ih=>
  unfold QB at h
  rcases Bool.or_eq_true_iff.1 h with h|h
  .exact hc k i hk h
  .obtain⟨j,_,hj⟩:=List.any_eq_true.1 h
   obtain⟨h1,h2⟩:=Bool.and_eq_true_iff.1 hj;exact ih (hc k j hk h1) h2
def aF(s:Nat)(U:Nat->Value->Prop)(R:Nat->Value->World->Prop)(L:Nat->Bool)(i:Nat)(v:Value)(w:World):Prop:=U i v/\(L s=false->R i v w)
def cD(w0:World)(g:Nat)(W0:World)(N0 kk c:Nat)(cs:List Nat)(s:Nat)(Af:World->Prop)(L:Nat->Bool)(w:World):Prop:=(L s=true->Af w)/\(L s=false->Wu w0 g W0 N0 kk c cs L w)
theorem JH{id s:Nat}{U:Nat->Value->Prop}(n N kk c:Nat)(cs:List Nat)(V:List Vx)(R:Nat->Value->World->Prop)(Af:World->Prop)(dD:Dr w0 g N0 W0)
 (cM:∀i,i<n->(i==s||cs.contains i)=false->∀o,l[i]?=some o->∀a w,Hid (YF l n a0 a)->∀L:Nat->Bool,Hid (YD l n V (aF s U R) L a w)->Hid (Ww l i L)->(QB l n s i=true->W0.grownBy w (some g))->
  ∀K:Act->World->Prop,Hid (bG V (aF s U R) L i o a w K)->AV P l o a w K Q)
 (cY:∀i,i<n->cs.contains i=true->∀o,l[i]?=some o->∀a w,Hid (YF l n a0 a)->∀L:Nat->Bool,Hid (YD l n V (aF s U R) L a w)->Hid (Ww l i L)->Wu w0 g W0 N0 kk c cs L w->
  ∀K:Act->World->Prop,Hid (∀v w',U i v->R i v w'->EN V i=none->Wu w0 g W0 N0 kk c cs (GP L i) w'->w.grownBy w' (some g)->K (a.put o.dst v) w')->AV P l o a w K Q)
 (cL:∀o,l[s]?=some o->∀a w,Hid (YF l n a0 a)->∀L:Nat->Bool,Hid (YD l n V (aF s U R) L a w)->Hid (Ww l s L)->Dr w0 g (N0+kk*c) w->W0.grownBy w (some g)->
  ∀K:Act->World->Prop,Hid (∀v w',Af w'->K (a.put o.dst v) w')->AV P l o a w K Q)
 (eK:∀w w',Below w.heap.size w w'->Af w->Af w')
 (cd:∀(vs:Nat->Value) w,∀L:Nat->Bool,(∀i,i<n->RF V (aF s U R) L i (vs i) w)->Af w->wpList P l.toArray Q [] {a0 with tmps:=De l (yC n) vs a0.tmps} w)
 (hst:∀i,i<n->∀v w w',w.grownBy w' (some g)->R i v w->R i v w':=by exact λ_ _ _ _ _ _ h=>h)(dB:cs.length=c:=by rfl)(ew:s<n:=by decide)(ex:EN V s=some undef:=by rfl)(dU:(l[s]?).bind (·.dst)=none:=by rfl)
 (eR:cs.contains s=false:=by rfl)(ez:cs.all (λi=>decide (i<n)&&QB l n s i&&((l[i]?).bind (·.dst)).isSome)=true:=by kernel_rfl)
 (hm:P.follows .mixedOrders=true:=by kernel_rfl)(hN:a0.tmps.size=N:=by rfl)(hB:Wf l N=true:=by kernel_rfl)(hn:l.length=n:=by rfl):(Code.region id l.toArray true).wp P Q a0 W0:=by
 subst dB;refine EB n N (λi=>i==s||cs.contains i) V (aF s U R) (cD w0 g W0 N0 kk cs.length cs s Af) ?_ ?_ ?_ ?_ ?_ ?_ hm hN hB hn
 .refine⟨λh=>(by cases h),λ_=>⟨N0,?_,dD.below (A8 (yD _ _) 1),AX (A8 (yD _ _) 1) _⟩⟩
  have:=wU (λj=>!(λ_:Nat=>false) j) cs;exact tv (wJ kk this) _
 .intro j hj L i v w w' _ _ _ _ hb h
  exact⟨h.1,λhs=>hst j hj v w w' (AX hb _) (h.2 (DU hs))⟩
 .intro L i w w' _ hS _ hb h
  have cx:s≠i:=by rintro rfl;simp at hS
  have e:GP L i s=L s:=by simp[GP,cx]
  refine⟨λhs=>eK w w' hb (h.1 (e▸hs)),λhs=>?_⟩;obtain⟨M,h2,h3,h4⟩:=h.2 (e▸hs);have:=wJ kk (yO cs L i);exact⟨M,by omega,h3.below hb,AP h4 (AX hb _)⟩
 .intro i hi hS o ho a w Hb L Hd HL hG K HK
  refine cM i hi hS o ho a w Hb L Hd HL (λhr=>?_) K HK;have hs:L s=false:=by
   cases hx:L s with
   |false=>rfl
   |true=>exact absurd (Uy HL.out.2.2 hx hr) (by rw[HL.out.1];decide)
  obtain⟨_,_,_,h⟩:=hG.2 hs;exact h
 .intro i hi hS o ho a w Hb L Hd HL hG K HK
  by_cases dA:i=s
  .subst dA
   obtain⟨M,h2,h3,h4⟩:=hG.2 HL.out.1;refine cL o ho a w Hb L Hd HL (h3.mono (by omega)) h4 K (AA λv w' hA=>HK.out v w' ?_ ⟨λ_=>hA,λh=>by simp[GP] at h⟩ λj eD hj _ h=>?_)
   .have e:o.dst=none:=by rw[ho] at dU;exact dU
    rw[e];exact RF.of ex
   .exact RF.mono (λh=>⟨h.1,λh2=>by simp[GP] at h2⟩) h
  .have hc:cs.contains i=true:=by simpa[dA] using hS
   have h3:=List.all_eq_true.1 ez i (by simpa using hc);simp only[Bool.and_eq_true,decide_eq_true_eq] at h3;obtain⟨⟨_,hr⟩,hd⟩:=h3;have hs:L s=false:=by
    cases hx:L s with
    |false=>rfl
    |true=>exact absurd (Uy HL.out.2.2 hx hr) (by rw[HL.out.1];decide)
   have e:GP L i s=L s:=by simp[GP,Ne.symm dA]
   refine cY i hi hc o ho a w Hb L Hd HL (hG.2 hs) K (AA λv w' h1 h2 hv hD hW=>HK.out v w' ?_ ⟨λh=>(by rw[e,hs] at h;cases h),λ_=>hD⟩ λj eD hj _ h=>?_)
   .obtain⟨d,hd⟩:=Option.isSome_iff_exists.1 hd
    have e2:o.dst=some d:=by rw[ho] at hd;exact hd
    rw[e2];unfold RF;rw[hv];exact⟨h1,λ_=>h2⟩
   .exact RF.mono (λh=>⟨h.1,λh2=>hst j hj _ _ _ hW (h.2 (DU h2))⟩) h
 .intro vs w L hL hR hG
  exact cd vs w L hR (hG.1 (hL s ew))
theorem fR{s:Nat}{U:Nat->Value->Prop}{F:FuncId}{vs:Array Value}{Pv:Value->World->Prop}{k:Nat}(ho:l[i]?=some o)(HQ:Hid (∀v w',U i v->R i v w'->EN V i=none->Wu w0 g W0 N0 kk c cs (GP L i) w'->w.grownBy w' (some g)->K (a.put o.dst v) w'))(Hb:Hid (YF l n a0 a))(Hd:Hid (YD l n V (aF s U R) L a w))(HL:Hid (Ww l i L))(hG:Wu w0 g W0 N0 kk c cs L w)
 (hc:∀M,M<=N0+kk*c->Dr w0 g M w->W0.grownBy w (some g)->Calls P F vs w (Jh w0 g (M+k) w Pv))(hk:k<=kk:=by decide)(hR:∀v w',Pv v w'->U i v/\R i v w')(hv:EN V i=none:=by rfl)(hi:cs.contains i=true:=by rfl)
 (e:l[i]?=some o':=by rfl)(hw:Qe l n i V o'=some true:=by kernel_rfl)(hr:(execOp (Xt l n i V a0 a) o').run P w=.ok (.enter F vs) w:=by kernel_rfl):AV P l o a w K Q:=by
 obtain rfl:=yF (ho.symm.trans e);refine⟨λ_=>?_,λh=>absurd ((NM Hd HL hw).symm.trans h) (by decide)⟩;unfold Oper.wp;rw[<-Ov Hb Hd HL,hr,Oper.upon_enter];obtain⟨M,hM,hD,hW⟩:=hG;refine(hc M (by omega) hD hW).mono ?_;intro x w' h;obtain⟨v,rfl,h1,h2,h3⟩:=h;have hl:=YW cs L i hi HL.out.1;obtain⟨r1,r2⟩:=hR v w' h1;refine HQ.out v w' r1 r2 hv ⟨M+kk,?_,h2.mono (by omega),AP hW h3⟩ h3;have:=wJ kk hl;rw[Nat.mul_add,Nat.mul_one] at this;omega
theorem dK{m:Int}(ho:l[i]?=some o)(HQ:Hid (bL V R w0 g W0 N0 kk c cs L i o a w K))(Hb:Hid (bW l n a0 a))(Hd:Hid (bX l i V R a w))(HL:Hid (L i=false))(hG:Wu w0 g W0 N0 kk c cs L w)(hN:N0+kk*c<=1000000)(hm:0<m/\m<=1000000:=by decide)
 (e:l[i]?=some o':=by rfl)(hr:(execOp (ZF l n i V a0 a) o').run prog w=.ok (.enter 48 #[.pointer (some ⟨g,0,none⟩),.int .i64 m]) w:=by kernel_rfl)
 (hw:Kn l i V o'=some true:=by kernel_rfl)(hk:1<=kk:=by decide)(hR:∀v w',Pk m v->RV V R i v w':=by exact λ_ _ h=>h)(hi:cs.contains i=true:=by rfl):AV prog l o a w K Q:=
 bo (Pv:=Pk m) (k:=1) ho HQ Hb Hd HL hG (λM hM hD hW=>(hD.pick m (by omega) hm.2).mono λ_ _ h=>by obtain⟨x,rfl,h0,h1,h2,h3⟩:=h;exact⟨_,rfl,⟨x,rfl,h0,h1 hm.1⟩,h2,h3⟩) hk hR hi e hw hr
theorem fK{s:Nat}{U:Nat->Value->Prop}{m:Int}(ho:l[i]?=some o)(HQ:Hid (∀v w',U i v->R i v w'->EN V i=none->Wu w0 g W0 N0 kk c cs (GP L i) w'->w.grownBy w' (some g)->K (a.put o.dst v) w'))(Hb:Hid (YF l n a0 a))(Hd:Hid (YD l n V (aF s U R) L a w))(HL:Hid (Ww l i L))(hG:Wu w0 g W0 N0 kk c cs L w)(hN:N0+kk*c<=1000000)(hm:0<m/\m<=1000000:=by decide)
 (e:l[i]?=some o':=by rfl)(hr:(execOp (Xt l n i V a0 a) o').run prog w=.ok (.enter 48 #[.pointer (some ⟨g,0,none⟩),.int .i64 m]) w:=by kernel_rfl)
 (hw:Qe l n i V o'=some true:=by kernel_rfl)(hk:1<=kk:=by decide)(hR:∀v w',Pk m v->U i v/\R i v w':=by exact λ_ _ h=>⟨h,trivial⟩)(hv:EN V i=none:=by rfl)(hi:cs.contains i=true:=by rfl):AV prog l o a w K Q:=
 fR (Pv:=λv _=>Pk m v) (k:=1) ho HQ Hb Hd HL hG (λM hM hD hW=>(hD.pick m (by omega) hm.2).mono λ_ _ h=>by obtain⟨x,rfl,h0,h1,h2,h3⟩:=h;exact⟨_,rfl,⟨x,rfl,h0,h1 hm.1⟩,h2,h3⟩) hk hR hv hi e hw hr
end
structure Tx(w0:World)(g N:Nat)(w:World)(T n b:Nat)(cs:Array Value)(wr:World):Prop where
 dr:Dr w0 g N wr
 gr:w.grownBy wr (some g)
 lt:w.heap.size<b
 glt:g<w.heap.size
 lo:w0.heap.size<=w.heap.size
 yK:wr.heap[b]?=some (.cells cs T (0,0))
 res:∃rs:Array Value,rs.size=n/\wr.heap[w.heap.size]?=some (.cells rs T (0,0))
section
variable {w0 w wr w':World} {g N M T n b:Nat} {cs:Array Value}
theorem Tx.draw(h:Tx w0 g N w T n b cs wr)(hd:Dr w0 g M w')(hg:wr.grownBy w' (some g)):Tx w0 g M w T n b cs w':=by
 have yL:∀{q:Nat} {o:Obj},w.heap.size<=q->wr.heap[q]?=some o->w'.heap[q]?=some o:=λ{q o} hq hb=>(hg.block q (AW hb) (by have:=h.glt;simp;omega)).trans hb
 obtain⟨rs,h1,h2⟩:=h.res;exact⟨hd,AP h.gr hg,h.lt,h.glt,h.lo,yL (Nat.le_of_lt h.lt) h.yK,rs,h1,yL (yt _) h2⟩
theorem Tx.pk(h:Tx w0 g N w T n b cs wr)(m:Int)(hN:N<=900000:=by omega)(h0:0<m:=by decide)(hm:m<=1000000:=by decide):Calls prog 48 #[.pointer (some ⟨g,0,none⟩),.int .i64 m] wr λe' w'=>∃x:Int,e'=.returned (.int .i64 x)/\0<=x/\x<m/\Tx w0 g (N+1) w T n b cs w':=
 (h.dr.pick m (by omega) hm).mono λ_ _ hp=>by obtain⟨x,rfl,h1,h2,h3,h4⟩:=hp;exact⟨x,rfl,h1,h2 h0,h.draw h3 h4⟩
theorem Tx.set(h:Tx w0 g N w T n b cs wr)(j:Nat)(u:Value){cs':Array Value}(e:cs.setIfInBounds j u=cs'):Tx w0 g N w T n b cs' (wr.setCell ⟨b,j,none⟩ u):=by
 have hb:=ym wr b j _ _ u h.yK;obtain⟨rs,h1,h2⟩:=h.res;have:=h.lt;have:=h.lo;have:=h.glt;exact⟨h.dr.set (by omega) (by omega),Cc h.gr (by omega) _,h.lt,h.glt,h.lo,by rw[hb,e],rs,h1,(heap_setCell_other wr ⟨b,j,none⟩ _ _ (λe=>by simp at e;omega)).trans h2⟩
theorem Tx.start{T n:Nat}{cs z:Array Value}(h1:Dr w0 g N w1)(g1:(w.alloc (.cells z T)).grownBy w1 (some g))(hz:z.size=n)(am:g<w.heap.size)(aq:w0.heap.size<=w.heap.size):Tx w0 g N w T n w1.heap.size cs (w1.alloc (.cells cs T)):=by have hs:=g1.size;simp at hs;have B0:=yv w (.cells z T);have B1:=(g1.block w.heap.size (by simp) (by simp;omega)).trans B0;exact⟨h1.alloc _,Gq (AP (AX (AE _ _) _) g1) _,by omega,am,aq,yv _ _,z,hz,AC B1 (AE _ _)⟩
end
theorem Tx.mono{w0 w wr:World}{g N M T n b:Nat}{cs:Array Value}(h:Tx w0 g N w T n b cs wr)(hm:N<=M):Tx w0 g M w T n b cs wr:=⟨h.dr.mono hm,h.gr,h.lt,h.glt,h.lo,h.yK,h.res⟩
theorem LB{w:World}{g T:Nat}{a b c:Value}(h:w.heap[g]?=some (.cells #[a,b,c] T (0,0))):w.cell? ⟨g,0,none⟩=some a/\w.cell? ⟨g,1,none⟩=some b/\w.cell? ⟨g,2,none⟩=some c:=⟨yi w g 0 _ _ _ h,yi w g 1 _ _ _ h,yi w g 2 _ _ _ h⟩
theorem Mt{w:World}{g:Nat}(xs:List Int)(t:Nat)(al:(w.alloc (.cells (xs.map (Value.int .i64)).toArray t)).grownBy w1 (some g))(ac:g<w.heap.size){y:Nat}(hy:y<xs.length):∃q:Int,w1.cell? ⟨w.heap.size,y,none⟩=some (.int .i64 q):=
 ⟨xs[y],Ds al ac (by simp[hy])⟩
theorem bQ{w0 w wr:World}{g N M T:Nat}{rs:Array Value}{v0 v1 v2 v3:Value}(hd:Dr w0 g N wr)(hg:w.grownBy wr (some g))(am:g<w.heap.size)(aq:w0.heap.size<=w.heap.size)(hs:rs.size=4)(hB:wr.heap[w.heap.size]?=some (.cells rs T (0,0)))(hM:N<=M){P:Value->Prop}(hP:P (.agg #[v0,v1,v2,v3])):
 ((((wr.setCell ⟨w.heap.size,0,none⟩ v0).setCell ⟨w.heap.size,1,none⟩ v1).setCell ⟨w.heap.size,2,none⟩ v2).setCell ⟨w.heap.size,3,none⟩ v3).heap[w.heap.size]?=some (.cells #[v0,v1,v2,v3] T (0,0))/\
 GQ w0 g M w P (.returned (.agg #[v0,v1,v2,v3])) ((((wr.setCell ⟨w.heap.size,0,none⟩ v0).setCell ⟨w.heap.size,1,none⟩ v1).setCell ⟨w.heap.size,2,none⟩ v2).setCell ⟨w.heap.size,3,none⟩ v3):=by
 obtain⟨a0,a1,a2,a3,rfl⟩:∃a0 a1 a2 a3,rs= #[a0,a1,a2,a3]:=by
  match rs,hs with
  |⟨[a0,a1,a2,a3]⟩,_=>exact⟨a0,a1,a2,a3,rfl⟩
 have n1:w.heap.size≠g:=by omega
 have n3:w.heap.size<=w.heap.size:=yt _;exact⟨Cs hB,_,rfl,hP,((((hd.set n1 aq).set n1 aq).set n1 aq).set n1 aq).mono hM,Cc (Cc (Cc (Cc hg n3 _) n3 _) n3 _) n3 _⟩
theorem aI{w0 w wr:World}{g N M T:Nat}{rs:Array Value}{v0 v1 v2:Value}(hd:Dr w0 g N wr)(hg:w.grownBy wr (some g))(am:g<w.heap.size)(aq:w0.heap.size<=w.heap.size)(hs:rs.size=3)(hB:wr.heap[w.heap.size]?=some (.cells rs T (0,0)))(hM:N<=M){P:Value->Prop}(hP:P (.agg #[v0,v1,v2])):
 (((wr.setCell ⟨w.heap.size,0,none⟩ v0).setCell ⟨w.heap.size,1,none⟩ v1).setCell ⟨w.heap.size,2,none⟩ v2).heap[w.heap.size]?=some (.cells #[v0,v1,v2] T (0,0))/\
 GQ w0 g M w P (.returned (.agg #[v0,v1,v2])) (((wr.setCell ⟨w.heap.size,0,none⟩ v0).setCell ⟨w.heap.size,1,none⟩ v1).setCell ⟨w.heap.size,2,none⟩ v2):=by
 obtain⟨a0,a1,a2,rfl⟩:∃a0 a1 a2,rs= #[a0,a1,a2]:=by
  match rs,hs with
  |⟨[a0,a1,a2]⟩,_=>exact⟨a0,a1,a2,rfl⟩
 have n1:w.heap.size≠g:=by omega
 have n3:w.heap.size<=w.heap.size:=yt _;have h0:=ym wr w.heap.size 0 _ _ v0 hB;have h1:=ym _ w.heap.size 1 _ _ v1 h0;have h2:=ym _ w.heap.size 2 _ _ v2 h1;exact⟨by simpa using h2,_,rfl,hP,(((hd.set n1 aq).set n1 aq).set n1 aq).mono hM,Cc (Cc (Cc hg n3 _) n3 _) n3 _⟩
theorem TS{w0 w:World}{g N:Nat}(h:Dr w0 g N w)(hN:N<=900000):
 Calls prog 231 #[.pointer (some ⟨g,0,none⟩)] w (GQ w0 g (N+2) w λv=>∃x:Int,v=.int .i64 x):=by
 go_in;go_wp2_with fail;refine(h.pick _).mono ?_;rintro e w1 ⟨x,rfl,eQ,dQ,h1,g1⟩
 by_cases hx:x=0
 .subst hx
  go_wp2_with fail;refine((h1.alloc _).pick _).mono ?_;rintro e w2 ⟨y,rfl,eo,dm,h2,g2⟩;have dm:=dm (by decide);have c0:=Ds (j:=0) g2 h1.lt rfl;have c1:=Ds (j:=1) g2 h1.lt rfl;have c2:=Ds (j:=2) g2 h1.lt rfl;have G:=AA (AP g1 (AP (AX (AE _ _) _) g2));clear g1 g2
  rcases(show y=0∨y=1∨y=2 by omega) with rfl|rfl|rfl
  all_goals
   go_wp2_with fail;go_ret;exact⟨_,rfl,⟨_,rfl⟩,h2,G.out⟩
 .have t0:(x==0)=false:=by simp[hx]
  clear hx;go_wp2_with fail;refine(h1.pick _).mono ?_;rintro e w2 ⟨y,rfl,eo,dm,h2,g2⟩;have G:=AA (AP g1 g2);clear g1 g2;go_wp2_with fail;go_ret;exact⟨_,rfl,⟨_,rfl⟩,h2,G.out⟩
theorem MD{w0 w:World}{g N:Nat}(h:Dr w0 g N w)(hN:N<=800000):
 Calls prog 195 #[.pointer (some ⟨g,0,none⟩)] w (GQ w0 g (N+8) w λv=>∃x:Al,v=.agg #[.int .i64 x.e,.int .i64 x.p,.int .i64 x.f,.bool x.w]):=by
 have ac:=h.lt;have av:w0.heap.size<=w.heap.size:=h.2.1.size;go_in;go_wp2_with fail;refine((h.alloc _).pick _).mono ?_;rintro e w1 ⟨x,rfl,_,_,h1,g1⟩;go_wp2_with fail;refine(h1.pick _).mono ?_;rintro e w2 ⟨y,rfl,_,_,h2,g2⟩;go_wp2_with fail;refine(h2.pick _).mono ?_;rintro e w3 ⟨f,rfl,_,_,h3,g3⟩;have St:=Tx.start (T:=112) (n:=4) (cs:= #[.int .i64 x,.int .i64 y,.int .i64 f,.bool false]) h3 (AP (AP g1 g2) g3) rfl ac av;clear h h1 h2 h3 g1 g2 g3;go_wp2_with fail;generalize w3.alloc _=w4 at St ⊢;generalize w3.heap.size=b at St ⊢;refine(St.pk _).mono ?_;rintro e w5 ⟨z,rfl,_,_,S5⟩;clear St;obtain⟨c0,c1,c2,c3⟩:=AG S5.yK;have fz:=AK S5.yK;go_wp2_with fail;have S6:=S5.set (cs':= #[.int .i64 x,.int .i64 y,.int .i64 f,.bool (z==0)]) 3 (.bool (z==0)) (by simp);refine(S6.pk _).mono ?_;rintro e w7 ⟨u,rfl,_,_,St⟩;clear S5 S6 c0 c1 c2 c3 fz;have eH:=St.lt;go_upto_block 0 with fail;go_cut [] (λwx=>∃x:Al,Tx w0 g (N+8) w 112 4 b #[.int .i64 x.e,.int .i64 x.p,.int .i64 x.f,.bool x.w] wx)
 case first=>
  by_cases u0:u=0
  .subst u0
   go_wp2_with fail;have ch:=St.dr.lt;have SA:=St.draw (St.dr.alloc (.cells #[.int .i64 (-1),.int .i64 3] 3)) (AX (AE _ _) _);refine(SA.dr.pick _).mono ?_;rintro e w6 ⟨k9,rfl,k0,k1,h6,g6⟩;replace k1:=k1 (by decide);obtain⟨k9,rfl⟩:=xW k0;obtain⟨q,hq⟩:=Mt [-1,3] 3 g6 ch (y:=k9) (by simp;omega);have S6:=SA.draw h6 g6;clear St SA g6 h6 ch;obtain⟨c0,c1,c2,c3⟩:=AG S6.yK;have fz:=AK S6.yK;go_wp2_with fail;go_meet;exact⟨⟨q,y,f,z==0⟩,(S6.set 0 _ (by simp)).mono (by omega)⟩
  have t0:(u==0)=false:=by simp[u0]
  by_cases u1:u=1
  .subst u1
   clear u0;go_wp2_with fail;have ch:=St.dr.lt;have SA:=St.draw (St.dr.alloc (.cells #[.int .i64 (-1),.int .i64 15,.int .i64 16] 3)) (AX (AE _ _) _);refine(SA.dr.pick _).mono ?_;rintro e w6 ⟨k9,rfl,k0,k1,h6,g6⟩;replace k1:=k1 (by decide);obtain⟨k9,rfl⟩:=xW k0;obtain⟨q,hq⟩:=Mt [-1,15,16] 3 g6 ch (y:=k9) (by simp;omega);have S6:=SA.draw h6 g6;clear St SA g6 h6 ch;obtain⟨c0,c1,c2,c3⟩:=AG S6.yK;have fz:=AK S6.yK;go_wp2_with fail;go_meet;exact⟨⟨x,q,f,z==0⟩,(S6.set 1 _ (by simp)).mono (by omega)⟩
  have t1:(u==1)=false:=by simp[u1]
  by_cases u2:u=2
  .subst u2
   clear u0 u1;go_wp2_with fail;refine(TS St.dr (by omega)).mono ?_;rintro e w8 ⟨_,rfl,⟨q,rfl⟩,h8,g8⟩;have S6:=St.draw h8 g8;clear St h8 g8;obtain⟨c0,c1,c2,c3⟩:=AG S6.yK;have fz:=AK S6.yK;go_wp2_with fail;go_meet;exact⟨⟨x,y,q,z==0⟩,(S6.set 2 _ (by simp)).mono (by omega)⟩
  have t2:(u==2)=false:=by simp[u2]
  clear u0 u1 u2;go_wp2_with fail;go_meet;exact⟨⟨x,y,f,z==0⟩,St.mono (by omega)⟩
 case rest=>
  clear St;obtain⟨x1,S6⟩:=hcut;obtain⟨c0,c1,c2,c3⟩:=AG S6.yK;have fz:=AK S6.yK;obtain⟨rs,cW,bp⟩:=S6.res;have de:=AK bp;obtain⟨BX,FX⟩:=bQ (v0:=.int .i64 x1.e) (v1:=.int .i64 x1.p) (v2:=.int .i64 x1.f) (v3:=.bool x1.w) S6.dr S6.gr S6.glt S6.lo cW bp (yt _) (P:=λv=>∃x:Al,v=.agg #[.int .i64 x.e,.int .i64 x.p,.int .i64 x.f,.bool x.w]) ⟨x1,rfl⟩;obtain⟨r0,r1,r2,r3,rfl⟩:∃r0 r1 r2 r3,rs= #[r0,r1,r2,r3]:=by
   match rs,cW with
   |⟨[a0,a1,a2,a3]⟩,_=>exact⟨a0,a1,a2,a3,rfl⟩
  obtain⟨d0,d1,d2,d3⟩:=AG bp;have BH:=AA BX;have FH:=AA FX;clear BX FX bp S6;go_wp2_with fail;exact yk (v:=.agg #[_,_,_,_]) (by simp[results,Tryz.results195,go_sem,AG BH.out]) rfl FH.out
def Mb(v:Value):Prop:=∃x:AU,x.g.size<=8/\v=.agg #[.int .i64 x.k,.string x.g,.int .i64 x.r]
theorem Uk{w0 w:World}{g N:Nat}(h:Dr w0 g N w)(hN:N<=800000):
 Calls prog 143 #[.pointer (some ⟨g,0,none⟩)] w (GQ w0 g (N+10) w Mb):=by
 have ac:=h.lt;have av:w0.heap.size<=w.heap.size:=h.2.1.size;go_in;go_wp2_with fail;refine((h.alloc _).pick _).mono ?_;rintro e w1 ⟨x,rfl,_,_,h1,g1⟩
 by_cases x0:x=0
 .subst x0
  have B0:=yv w (.cells #[.int .i64 0,.string ⟨#[]⟩,.int .i64 0] 92);have B1:=(g1.block w.heap.size (by simp) (by simp;omega)).trans B0;have de:=AK B1;obtain⟨d0,d1,d2⟩:=LB B1;obtain⟨BX,FX⟩:=aI (v0:=.int .i64 0) (v1:=.string ⟨#[]⟩) (v2:=.int .i64 0) h1 (AP (AX (AE _ _) _) g1) ac av rfl B1 (M:=N+10) (by omega) (P:=Mb) ⟨⟨0,⟨#[]⟩,0⟩,by decide,rfl⟩;have BH:=AA BX;have FH:=AA FX;clear BX FX B0 B1 h1 g1 h;go_wp2_with fail;exact yk (v:=.agg #[_,_,_]) (by simp[results,Tryz.results143,go_sem,LB BH.out]) rfl FH.out
 have t9:(x==0)=false:=by simp[x0]
 clear x0;go_wp2_with fail;refine(h1.pick _).mono ?_;rintro e w2 ⟨x,rfl,_,_,h2,g2⟩;go_wp2_with fail;refine(Nq w2.heap.size 5 [⟨#[97]⟩,⟨#[97]⟩,⟨#[98]⟩,⟨#[97,98]⟩,⟨#[]⟩] (h2.alloc _) (by omega) rfl (by decide) (by decide) (by have:=h2.lt;omega) (by simp) (λk hk=>J6 w2 [⟨#[97]⟩,⟨#[97]⟩,⟨#[98]⟩,⟨#[97,98]⟩,⟨#[]⟩] _ hk)).mono ?_;rintro e w3 ⟨v,rfl,⟨s,hs,rfl⟩,h3,g3⟩;have dw:s.size<=8:=by
  simp only[xA,wR,or_false] at hs
  rcases hs with rfl|rfl|rfl|rfl|rfl<;>decide
 clear hs;go_wp2_with fail;refine(h3.pick _).mono ?_;rintro e w4 ⟨y,rfl,y0,y1,h4,g4⟩;replace y1:=y1 (by decide);go_wp2_with fail;refine(h4.pick _).mono ?_;rintro e w5 ⟨f,rfl,f0,f1,h5,g5⟩;replace f1:=f1 (by decide);have St:=Tx.start (T:=92) (n:=3) (cs:= #[.int .i64 (1+x),.string s,.int .i64 (wrap64 (y*f))]) h5 (AP (AP (AP g1 g2) (AP (AX (AE _ _) _) g3)) (AP g4 g5)) rfl ac av;clear h h1 h2 h3 h4 h5 g1 g2 g3 g4 g5;go_wp2_with fail;generalize w5.alloc _=w7 at St ⊢;generalize w5.heap.size=b at St ⊢;generalize wrap64 (y*f)=r at St ⊢;generalize 1+x=k at St ⊢;refine(St.pk _).mono ?_;rintro e w8 ⟨u,rfl,_,_,S8⟩;clear St;have St:=S8;clear S8;have eH:=St.lt;go_upto_block 0 with fail;go_cut [] (λwx=>∃x:AU,x.g.size<=8/\Tx w0 g (N+10) w 92 3 b #[.int .i64 x.k,.string x.g,.int .i64 x.r] wx)
 case first=>
  by_cases u0:u=0
  .subst u0
   go_wp2_with fail;have ch:=St.dr.lt;have SA:=St.draw (St.dr.alloc (.cells #[.int .i64 (-1),.int .i64 0,.int .i64 4] 3)) (AX (AE _ _) _);refine(SA.dr.pick _).mono ?_;rintro e w6 ⟨k9,rfl,k0,k1,h6,g6⟩;replace k1:=k1 (by decide);obtain⟨k9,rfl⟩:=xW k0;obtain⟨q,hq⟩:=Mt [-1,0,4] 3 g6 ch (y:=k9) (by simp;omega);have S6:=SA.draw h6 g6;clear St SA g6 h6 ch;obtain⟨c0,c1,c2⟩:=LB S6.yK;have fz:=AK S6.yK;go_wp2_with fail;go_meet;exact⟨⟨q,s,r⟩,dw,(S6.set 0 _ (by simp)).mono (by omega)⟩
  have t0:(u==0)=false:=by simp[u0]
  by_cases u1:u=1
  .subst u1
   clear u0;go_wp2_with fail;refine(JD St.dr (by omega)).mono ?_;rintro e w9 ⟨_,rfl,⟨q,eA,rfl⟩,h8,g8⟩;have S6:=St.draw h8 g8;clear St h8 g8;obtain⟨c0,c1,c2⟩:=LB S6.yK;have fz:=AK S6.yK;go_wp2_with fail;go_meet;exact⟨⟨k,q,r⟩,eA,(S6.set 1 _ (by simp)).mono (by omega)⟩
  have t1:(u==1)=false:=by simp[u1]
  by_cases u2:u=2
  .subst u2
   clear u0 u1;go_wp2_with fail;have ch:=St.dr.lt;have SA:=St.draw (St.dr.alloc (.cells #[.int .i64 (-1),.int .i64 50,.int .i64 51] 3)) (AX (AE _ _) _);refine(SA.dr.pick _).mono ?_;rintro e w6 ⟨k9,rfl,k0,k1,h6,g6⟩;replace k1:=k1 (by decide);obtain⟨k9,rfl⟩:=xW k0;obtain⟨q,hq⟩:=Mt [-1,50,51] 3 g6 ch (y:=k9) (by simp;omega);have S6:=SA.draw h6 g6;clear St SA g6 h6 ch;obtain⟨c0,c1,c2⟩:=LB S6.yK;have fz:=AK S6.yK;go_wp2_with fail;go_meet;exact⟨⟨k,s,q⟩,dw,(S6.set 2 _ (by simp)).mono (by omega)⟩
  have t2:(u==2)=false:=by simp[u2]
  clear u0 u1 u2;go_wp2_with fail;go_meet;exact⟨⟨k,s,r⟩,dw,St.mono (by omega)⟩
 case rest=>
  clear St;obtain⟨x1,ep,S6⟩:=hcut;obtain⟨c0,c1,c2⟩:=LB S6.yK;have fz:=AK S6.yK;obtain⟨rs,cW,bp⟩:=S6.res;have de:=AK bp;obtain⟨BX,FX⟩:=aI (v0:=.int .i64 x1.k) (v1:=.string x1.g) (v2:=.int .i64 x1.r) S6.dr S6.gr S6.glt S6.lo cW bp (yt _) (P:=Mb) ⟨x1,ep,rfl⟩;obtain⟨r0,r1,r2,rfl⟩:∃r0 r1 r2,rs= #[r0,r1,r2]:=by
   match rs,cW with
   |⟨[a0,a1,a2]⟩,_=>exact⟨a0,a1,a2,rfl⟩
  obtain⟨d0,d1,d2⟩:=LB bp;have BH:=AA BX;have FH:=AA FX;clear BX FX bp S6;go_wp2_with fail;exact yk (v:=.agg #[_,_,_]) (by simp[results,Tryz.results143,go_sem,LB BH.out]) rfl FH.out
theorem IH{w w2:World}{g q:Nat}(h:w.grownBy w1 (some g))(h2:w1.grownBy w2 (some q))(hq:w.heap.size<=q):w.grownBy w2 (some g):=
 ⟨h2.os.trans h.os,h2.tape.trans h.tape,h2.output.trans h.output,yB h.size h2.size,λk hk cx=>(h2.block k (xX hk h.size) (λe=>by cases e;omega)).trans (h.block k hk cx)⟩
structure MJ(ok:AN->Prop)(w0:World)(g N:Nat)(w:World)(b:Nat)(m i e c:Value)(k:AN)(wr:World):Prop where
 dr:Dr w0 g N wr
 gr:w.grownBy wr (some g)
 yI:Im (w.heap.size+1) wr b m i e c k
 good:ok k
 glt:g<w.heap.size
 lo:w0.heap.size<=w.heap.size
 lt:w.heap.size<b
 res:∃a0 a1 a2 a3,wr.heap[w.heap.size]?=some (.cells #[a0,a1,a2,a3] 28 (0,0))
section
variable {ok:AN->Prop} {w0 w wr w':World} {g N M b:Nat} {m i e c m' i' e' c':Value} {k k':AN}
theorem MJ.draw(h:MJ ok w0 g N w b m i e c k wr)(hd:Dr w0 g M w')(hg:wr.grownBy w' (some g)):MJ ok w0 g M w b m i e c k w':=by
 have am:=h.glt;have hp:∀b',some g=some b'->b'<w.heap.size+1:=λb' e=>by cases e;omega
 have ds:∀b',some g=some b'->b'<w.heap.size:=λb' e=>by cases e;exact am
 obtain⟨a0,a1,a2,a3,h1⟩:=h.res;exact⟨hd,AP h.gr hg,⟨Fk h.yI.1 h.yI.2.1 hg hp,h.yI.2.1,h.yI.2.2.past hg hp⟩,h.good,am,h.lo,h.lt,a0,a1,a2,a3,Fk h1 (yt _) hg ds⟩
theorem MJ.below(h:MJ ok w0 g N w b m i e c k wr)(hb:Below wr.heap.size wr w'):MJ ok w0 g N w b m i e c k w':=h.draw (h.dr.below hb) (AX hb _)
theorem MJ.mono(h:MJ ok w0 g N w b m i e c k wr)(hm:N<=M):MJ ok w0 g M w b m i e c k wr:=⟨h.dr.mono hm,h.gr,h.yI,h.good,h.glt,h.lo,h.lt,h.res⟩
theorem MJ.pk(h:MJ ok w0 g N w b m i e c k wr)(n:Int)(hN:N<=900000:=by omega)(h0:0<n:=by decide)(hn:n<=1000000:=by decide):Calls prog 48 #[.pointer (some ⟨g,0,none⟩),.int .i64 n] wr λe' w'=>∃x:Int,e'=.returned (.int .i64 x)/\0<=x/\x<n/\MJ ok w0 g (N+1) w b m i e c k w':=
 (h.dr.pick n (by omega) hn).mono λ_ _ hp=>by obtain⟨x,rfl,h1,h2,h3,h4⟩:=hp;exact⟨x,rfl,h1,h2 h0,h.draw h3 h4⟩
theorem aX{b0 b1 b2 b3:Value}(hd:Dr w0 g N wr)(hg:w.grownBy wr (some g))(hB:wr.heap[b]?=some (.cells #[b0,b1,b2,b3] 28 (0,0)))(O:DP (w.heap.size+1) wr m' i' e' c' k')(hk:ok k')(h3:g<w.heap.size)(h2:w0.heap.size<=w.heap.size)(h1:w.heap.size<b)(bl:∃a0 a1 a2 a3,wr.heap[w.heap.size]?=some (.cells #[a0,a1,a2,a3] 28 (0,0))):MJ ok w0 g N w b m' i' e' c' k' ((((wr.setCell ⟨b,0,none⟩ m').setCell ⟨b,1,none⟩ i').setCell ⟨b,2,none⟩ e').setCell ⟨b,3,none⟩ c'):=by
 have al:=Ao wr b m' i' e' c';obtain⟨a0,a1,a2,a3,h4⟩:=bl;have n1:b≠g:=by omega
 have n2:w0.heap.size<=b:=by omega
 have n3:w.heap.size<=b:=by omega
 exact⟨(((hd.set n1 n2).set n1 n2).set n1 n2).set n1 n2,Cc (Cc (Cc (Cc hg n3 _) n3 _) n3 _) n3 _,⟨Cs hB,h1,O.yL al hB⟩,hk,h3,h2,h1,a0,a1,a2,a3,(al.block _ (AW h4) (by simp;omega)).trans h4⟩
end
def ba(ok:AN->Prop)(w0:World)(g N:Nat)(w:World):Ending->World->Prop:=Jh w0 g N w λv w'=>∃m i e c k,v=.agg #[m,i,e,c]/\Og w.heap.size w' m i e c k/\ok k
def Iz(ok:AN->Prop)(w0:World)(g N:Nat)(w:World)(b:Nat)(wr:World):Prop:=∃m i e c k,Dr w0 g N wr/\w.grownBy wr (some g)/\wr.heap[b]?=some (.cells #[m,i,e,c] 28 (0,0))/\Og w.heap.size wr m i e c k/\ok k/\∃a0 a1 a2 a3,wr.heap[w.heap.size]?=some (.cells #[a0,a1,a2,a3] 28 (0,0))
theorem MJ.ke{ok ok':AN->Prop}{w0 w wr:World}{g N M b q:Nat}{m i e c m' i' e' c':Value}{k k':AN}(h:MJ ok w0 g N w b m i e c k wr)(al:wr.grownBy w1 (some q))(hq:w.heap.size<q)(hB:w1.heap[b]?=some (.cells #[m',i',e',c'] 28 (0,0)))(O:Og (w.heap.size+1) w1 m' i' e' c' k')(hk:ok' k')(hM:N<=M):Iz ok' w0 g M w b w1:=by
 obtain⟨a0,a1,a2,a3,h4⟩:=h.res;have h1:=h.glt;have h2:=h.lo;exact⟨m',i',e',c',k',(h.dr.keep al (by simp;omega) (λk hk=>by cases hk;omega)).mono hM,IH h.gr al (by omega),hB,O.map (λ_ _ _ _ _ _ _ h=>BO h (wv _)),hk,a0,a1,a2,a3,(al.block _ (AW h4) (by simp;omega)).trans h4⟩
def bg(ok:AN->Prop)(w0:World)(g N:Nat)(w:World)(m i e c:Value)(W:World):Prop:=W.heap[w.heap.size]?=some (.cells #[m,i,e,c] 28 (0,0))/\ba ok w0 g N w (.returned (.agg #[m,i,e,c])) W
theorem aY{ok:AN->Prop}{w0 w wr:World}{g N M:Nat}{m i e c a0 a1 a2 a3:Value}{k:AN}(hd:Dr w0 g N wr)(hg:w.grownBy wr (some g))(S:Og w.heap.size wr m i e c k)(hk:ok k)(am:g<w.heap.size)(aq:w0.heap.size<=w.heap.size)(hB:wr.heap[w.heap.size]?=some (.cells #[a0,a1,a2,a3] 28 (0,0)))(hM:N<=M):
 bg ok w0 g M w m i e c ((((wr.setCell ⟨w.heap.size,0,none⟩ m).setCell ⟨w.heap.size,1,none⟩ i).setCell ⟨w.heap.size,2,none⟩ e).setCell ⟨w.heap.size,3,none⟩ c):=by
 have al:=Ao wr w.heap.size m i e c;have n1:w.heap.size≠g:=by omega
 have n3:=yt w.heap.size;exact⟨Cs hB,_,rfl,⟨_,_,_,_,k,rfl,S.map (Kf al hB (.inl rfl) (yt _)),hk⟩,((((hd.set n1 aq).set n1 aq).set n1 aq).set n1 aq).mono hM,Cc (Cc (Cc (Cc hg n3 _) n3 _) n3 _) n3 _⟩
structure ID(ok:AR->Prop)(w0:World)(g N:Nat)(w:World)(b:Nat)(m i e c s l q:Value)(P:AR)(wr:World):Prop where
 dr:Dr w0 g N wr
 gr:w.grownBy wr (some g)
 yG:Gm (w.heap.size+1) b wr m i e c s l q P
 good:ok P
 glt:g<w.heap.size
 lo:w0.heap.size<=w.heap.size
 lt:w.heap.size<b
 res:∃a0 a1 a2 a3 a4 a5 a6 a7 a8,wr.heap[w.heap.size]?=some (.cells #[a0,a1,a2,a3,a4,a5,a6,a7,a8] 32 (0,0))
section
variable {ok:AR->Prop} {w0 w wr w':World} {g N M b:Nat} {m i e c s l q m' i' e' c' s' l' q':Value} {P P':AR}
theorem FG.past'{lo:Nat}{row:Option Nat}(h:FG lo w m i e c s l q P)(hg:w.grownBy w' row)(hr:∀b,row=some b->b<lo):FG lo w' m i e c s l q P:=by
 obtain⟨h1,⟨vs,h2,h3,h4⟩,h5,h6,h7⟩:=h;exact⟨h1.past hg hr,⟨vs,Bq h2 hg hr,h3.mono λ_ _ x=>Bq x hg hr,h4⟩,Bq h5 hg hr,Bq h6 hg hr,h7⟩
theorem ID.draw(h:ID ok w0 g N w b m i e c s l q P wr)(hd:Dr w0 g M w')(hg:wr.grownBy w' (some g)):ID ok w0 g M w b m i e c s l q P w':=by
 have am:=h.glt;have hp:∀b',some g=some b'->b'<w.heap.size+1:=λb' e=>by cases e;omega
 have ds:∀b',some g=some b'->b'<w.heap.size:=λb' e=>by cases e;exact am
 obtain⟨a0,a1,a2,a3,a4,a5,a6,a7,a8,h1⟩:=h.res;exact⟨hd,AP h.gr hg,⟨Fk h.yG.yK h.yG.yJ hg hp,h.yG.yJ,h.yG.own.past' hg hp⟩,h.good,am,h.lo,h.lt,a0,a1,a2,a3,a4,a5,a6,a7,a8,Fk h1 (yt _) hg ds⟩
theorem ID.below(h:ID ok w0 g N w b m i e c s l q P wr)(hb:Below wr.heap.size wr w'):ID ok w0 g N w b m i e c s l q P w':=h.draw (h.dr.below hb) (AX hb _)
theorem ID.mono(h:ID ok w0 g N w b m i e c s l q P wr)(hm:N<=M):ID ok w0 g M w b m i e c s l q P wr:=⟨h.dr.mono hm,h.gr,h.yG,h.good,h.glt,h.lo,h.lt,h.res⟩
theorem ID.pk(h:ID ok w0 g N w b m i e c s l q P wr)(n:Int)(hN:N<=900000:=by omega)(h0:0<n:=by decide)(hn:n<=1000000:=by decide):Calls prog 48 #[.pointer (some ⟨g,0,none⟩),.int .i64 n] wr λe' w'=>∃x:Int,e'=.returned (.int .i64 x)/\0<=x/\x<n/\ID ok w0 g (N+1) w b m i e c s l q P w':=
 (h.dr.pick n (by omega) hn).mono λ_ _ hp=>by obtain⟨x,rfl,h1,h2,h3,h4⟩:=hp;exact⟨x,rfl,h1,h2 h0,h.draw h3 h4⟩
theorem ah{b0 b1 b2 b3 b4 b5 b6 b7 b8:Value}(hd:Dr w0 g N wr)(hg:w.grownBy wr (some g))(hB:wr.heap[b]?=some (.cells #[b0,b1,b2,b3,b4,b5,b6,b7,b8] 32 (0,0)))(O:FG (w.heap.size+1) wr m' i' e' c' s' l' q' P')(hk:ok P')(h3:g<w.heap.size)(h2:w0.heap.size<=w.heap.size)(h1:w.heap.size<b)(bl:∃a0 a1 a2 a3 a4 a5 a6 a7 a8,wr.heap[w.heap.size]?=some (.cells #[a0,a1,a2,a3,a4,a5,a6,a7,a8] 32 (0,0))):ID ok w0 g N w b m' i' e' c' s' l' q' P' (((Ew wr b m' i' e' c' s' l' q').setCell ⟨b,7,none⟩ (.int .i64 P'.zR)).setCell ⟨b,8,none⟩ (.int .i64 P'.zU)):=by
 obtain⟨n6,o6,au⟩:=DF hB O;obtain⟨a0,a1,a2,a3,a4,a5,a6,a7,a8,h4⟩:=bl;exact⟨hd.keep au (by simp;omega) (λk hk=>by cases hk;omega),IH hg au (by omega),⟨n6,h1,o6⟩,hk,h3,h2,h1,a0,a1,a2,a3,a4,a5,a6,a7,a8,(au.block _ (AW h4) (by simp;omega)).trans h4⟩
end
def bd(ok:AR->Prop)(w0:World)(g N:Nat)(w:World):Ending->World->Prop:=Jh w0 g N w λv w'=>∃m i e c s l q P,v=AO m i e c s l q P.zR P.zU/\OE w.heap.size w' m i e c s l q P/\ok P
def UA(ok:AR->Prop)(w0:World)(g N:Nat)(w:World)(b:Nat)(wr:World):Prop:=∃m i e c s l q P,Dr w0 g N wr/\w.grownBy wr (some g)/\wr.heap[b]?=some (.cells #[m,i,e,c,s,l,q,.int .i64 P.zR,.int .i64 P.zU] 32 (0,0))/\OE w.heap.size wr m i e c s l q P/\ok P/\∃a0 a1 a2 a3 a4 a5 a6 a7 a8,wr.heap[w.heap.size]?=some (.cells #[a0,a1,a2,a3,a4,a5,a6,a7,a8] 32 (0,0))
theorem ID.pe{ok ok':AR->Prop}{w0 w wr:World}{g N M b q:Nat}{m i e c s l p m' i' e' c' s' l' p':Value}{P P':AR}(h:ID ok w0 g N w b m i e c s l p P wr)(al:wr.grownBy w1 (some q))(hq:w.heap.size<q)(hB:w1.heap[b]?=some (.cells #[m',i',e',c',s',l',p',.int .i64 P'.zR,.int .i64 P'.zU] 32 (0,0)))(O:OE (w.heap.size+1) w1 m' i' e' c' s' l' p' P')(hk:ok' P')(hM:N<=M):UA ok' w0 g M w b w1:=by
 obtain⟨a0,a1,a2,a3,a4,a5,a6,a7,a8,h4⟩:=h.res;have h1:=h.glt;have h2:=h.lo;exact⟨m',i',e',c',s',l',p',P',(h.dr.keep al (by simp;omega) (λk hk=>by cases hk;omega)).mono hM,IH h.gr al (by omega),hB,O.map (λ_ _ _ _ _ _ _ h=>BO h (wv _)),hk,a0,a1,a2,a3,a4,a5,a6,a7,a8,(al.block _ (AW h4) (by simp;omega)).trans h4⟩
def bh(ok:AR->Prop)(w0:World)(g N:Nat)(w:World)(m i e c s l q:Value)(P:AR)(W:World):Prop:=W.heap[w.heap.size]?=some (.cells #[m,i,e,c,s,l,q,.int .i64 P.zR,.int .i64 P.zU] 32 (0,0))/\bd ok w0 g N w (.returned (AO m i e c s l q P.zR P.zU)) W
theorem aj{ok:AR->Prop}{w0 w wr:World}{g N M:Nat}{m i e c s l q a0 a1 a2 a3 a4 a5 a6 a7 a8:Value}{P:AR}(hd:Dr w0 g N wr)(hg:w.grownBy wr (some g))(S:OE w.heap.size wr m i e c s l q P)(hk:ok P)(am:g<w.heap.size)(aq:w0.heap.size<=w.heap.size)(hB:wr.heap[w.heap.size]?=some (.cells #[a0,a1,a2,a3,a4,a5,a6,a7,a8] 32 (0,0)))(hM:N<=M):
 bh ok w0 g M w m i e c s l q P (((Ew wr w.heap.size m i e c s l q).setCell ⟨w.heap.size,7,none⟩ (.int .i64 P.zR)).setCell ⟨w.heap.size,8,none⟩ (.int .i64 P.zU)):=by
 have al:=FD (w:=wr) (g:=w.heap.size) (b0:=m) (b1:=i) (b2:=e) (b3:=c) (b4:=s) (b5:=l) (b6:=q) (b7:=.int .i64 P.zR) (b8:=.int .i64 P.zU);exact⟨GV hB,_,rfl,⟨_,_,_,_,_,_,_,P,rfl,S.map (Kf al hB (.inr rfl) (yt _)),hk⟩,(hd.keep al (by simp;omega) (λk hk=>by cases hk;exact aq)).mono hM,IH hg al (yt _)⟩
structure Kq(w0:World)(g N:Nat)(w W1:World)(b:Nat)(m i e c s l q:Value)(P:AR)(wr:World):Prop where
 dr:Dr w0 g N wr
 gr:w.grownBy wr (some g)
 yK:wr.heap[b]?=some (.cells #[m,i,e,c,s,l,q,.int .i64 P.zR,.int .i64 P.zU] 32 (0,0))
 sf:OE (w.heap.size+1) wr m i e c s l q P
 good:ED P
 glt:g<w.heap.size
 lo:w0.heap.size<=w.heap.size
 lt:w.heap.size<b
 sz:W1.heap.size<=wr.heap.size
 kp:∀k,k<W1.heap.size->k≠g->k≠b->wr.heap[k]?=W1.heap[k]?
section
variable {w0 w W1 wr w':World} {g N M b:Nat} {m i e c s l q m' i' e' c' s' l' q':Value} {P P':AR}
theorem Kq.draw(h:Kq w0 g N w W1 b m i e c s l q P wr)(hd:Dr w0 g M w')(hg:wr.grownBy w' (some g)):Kq w0 g M w W1 b m i e c s l q P w':=by
 have h1:=h.glt;have h2:=h.lt;have h3:=h.sz;exact⟨hd,AP h.gr hg,(hg.block b (AW h.yK) (by simp;omega)).trans h.yK,h.sf.map (GN hg (by omega) (yt _)),h.good,h1,h.lo,h2,yB h3 hg.size,λk hk dx dy=>(hg.block k (by omega) (by simp;omega)).trans (h.kp k hk dx dy)⟩
theorem Kq.below(h:Kq w0 g N w W1 b m i e c s l q P wr)(hb:Below wr.heap.size wr w'):Kq w0 g N w W1 b m i e c s l q P w':=h.draw (h.dr.below hb) (AX hb _)
theorem Kq.mono(h:Kq w0 g N w W1 b m i e c s l q P wr)(hm:N<=M):Kq w0 g M w W1 b m i e c s l q P wr:=⟨h.dr.mono hm,h.gr,h.yK,h.sf,h.good,h.glt,h.lo,h.lt,h.sz,h.kp⟩
theorem Kq.pk(h:Kq w0 g N w W1 b m i e c s l q P wr)(n:Int)(hN:N<=900000:=by omega)(h0:0<n:=by decide)(hn:n<=1000000:=by decide):Calls prog 48 #[.pointer (some ⟨g,0,none⟩),.int .i64 n] wr λe' w'=>∃x:Int,e'=.returned (.int .i64 x)/\0<=x/\x<n/\Kq w0 g (N+1) w W1 b m i e c s l q P w':=
 (h.dr.pick n (by omega) hn).mono λ_ _ hp=>by obtain⟨x,rfl,h1,h2,h3,h4⟩:=hp;exact⟨x,rfl,h1,h2 h0,h.draw h3 h4⟩
theorem Kq.put(h:Kq w0 g N w W1 b m i e c s l q P wr)(O:OE (w.heap.size+1) wr m' i' e' c' s' l' q' P')(hk:ED P'):
 Kq w0 g N w W1 b m' i' e' c' s' l' q' P' (((Ew wr b m' i' e' c' s' l' q').setCell ⟨b,7,none⟩ (.int .i64 P'.zR)).setCell ⟨b,8,none⟩ (.int .i64 P'.zU)):=by
 have h1:=h.glt;have h2:=h.lt;have h3:=h.sz;have h4:=h.lo;have au:=FD (w:=wr) (g:=b) (b0:=m') (b1:=i') (b2:=e') (b3:=c') (b4:=s') (b5:=l') (b6:=q') (b7:=.int .i64 P'.zR) (b8:=.int .i64 P'.zU);exact⟨h.dr.keep au (by simp;omega) (λk hk=>by cases hk;omega),IH h.gr au (by omega),GV h.yK,O.map (Kf au h.yK (.inr rfl) (yt _)),hk,h1,h4,h2,yB h3 au.size,λk hk dx dy=>(au.block k (by omega) (by simp;omega)).trans (h.kp k hk dx dy)⟩
end
def Pf(w0:World)(g N:Nat)(w W1:World)(b:Nat)(wr:World):Prop:=∃m i e c s l q P,Kq w0 g N w W1 b m i e c s l q P wr
theorem Pf.below{w0 w W1 wr w':World}{g N b:Nat}(h:Pf w0 g N w W1 b wr)(hb:Below wr.heap.size wr w'):Pf w0 g N w W1 b w':=by obtain⟨m,i,e,c,s,l,q,P,h⟩:=h;exact⟨m,i,e,c,s,l,q,P,h.below hb⟩
def OD(lo:Nat)(w:World)(v:Value):Prop:=∃m i e c s l q P,v=AO m i e c s l q P.zR P.zU/\OE lo w m i e c s l q P/\ED P
theorem OD.past{lo g:Nat}{w w':World}{v:Value}(h:OD lo w v)(hg:g<lo)(hb:w.grownBy w' (some g)):OD lo w' v:=by obtain⟨m,i,e,c,s,l,q,P,h1,h2,h3⟩:=h;exact⟨m,i,e,c,s,l,q,P,h1,h2.map (GN hb hg (yt _)),h3⟩
theorem OE.pgR{lo lo':Nat}{w:World}{m i e c s l q:Value}{P:AR}(h:OE lo w m i e c s l q P)(hk:ED P)(hl:lo'<=lo):OD lo' w (AO m i e c s l q P.zR P.zU):=⟨m,i,e,c,s,l,q,P,rfl,h.map (λ_ _ _ _ _ _ _ x=>BO x hl),hk⟩
theorem Iz.put{ok:AN->Prop}{w0 w wr:World}{g N b:Nat}{a0 a1 a2 a3 b0 b1 b2 b3 m' i' e' c':Value}{k':AN}(hd:Dr w0 g N wr)(hg:w.grownBy wr (some g))(hB:wr.heap[b]?=some (.cells #[b0,b1,b2,b3] 28 (0,0)))(O:Og w.heap.size wr m' i' e' c' k')(hk:ok k')(ac:g<w.heap.size)(aq:w0.heap.size<=w.heap.size)(hb:w.heap.size<b)(bl:wr.heap[w.heap.size]?=some (.cells #[a0,a1,a2,a3] 28 (0,0))):
 Iz ok w0 g N w b ((((wr.setCell ⟨b,0,none⟩ m').setCell ⟨b,1,none⟩ i').setCell ⟨b,2,none⟩ e').setCell ⟨b,3,none⟩ c'):=by
 have al:=Ao wr b m' i' e' c';exact⟨m',i',e',c',k',hd.keep al (by simp;omega) (λk hk=>by cases hk;omega),IH hg al (by omega),Cs hB,O.map (Kf al hB (.inl rfl) (yt _)),hk,a0,a1,a2,a3,(al.block _ (AW bl) (by simp;omega)).trans bl⟩
theorem Iz.draw{ok:AN->Prop}{w0 w wr w':World}{g N M b:Nat}(h:Iz ok w0 g N w b wr)(ac:g<w.heap.size)(hb:w.heap.size<b)(hd:Dr w0 g M w')(hg:wr.grownBy w' (some g)):Iz ok w0 g M w b w':=by
 obtain⟨m,i,e,c,k,h1,h2,h3,h4,h5,a0,a1,a2,a3,h6⟩:=h;exact⟨m,i,e,c,k,hd,AP h2 hg,(hg.block _ (AW h3) (by simp;omega)).trans h3,h4.map (λ_ _ _ _ _ _ _ x=>Bq x hg (λb' e=>by cases e;exact ac)),h5,a0,a1,a2,a3,(hg.block _ (AW h6) (by simp;omega)).trans h6⟩
theorem Iz.below{ok:AN->Prop}{w0 w wr w':World}{g N b:Nat}(h:Iz ok w0 g N w b wr)(ac:g<w.heap.size)(hb:w.heap.size<b)(ed:Below wr.heap.size wr w'):Iz ok w0 g N w b w':=by obtain⟨m,i,e,c,k,h1,h2⟩:=h;exact Iz.draw ⟨m,i,e,c,k,h1,h2⟩ ac hb (h1.below ed) (AX ed _)
theorem Iz.mono{ok:AN->Prop}{w0 w wr:World}{g N M b:Nat}(h:Iz ok w0 g N w b wr)(hm:N<=M):Iz ok w0 g M w b wr:=by obtain⟨m,i,e,c,k,h1,h2⟩:=h;exact⟨m,i,e,c,k,h1.mono hm,h2⟩
theorem Iz.pk{ok:AN->Prop}{w0 w wr:World}{g N b:Nat}(h:Iz ok w0 g N w b wr)(ac:g<w.heap.size)(hb:w.heap.size<b)(n:Int)(hN:N<=900000:=by omega)(h0:0<n:=by decide)(hn:n<=1000000:=by decide):Calls prog 48 #[.pointer (some ⟨g,0,none⟩),.int .i64 n] wr λe' w'=>∃x:Int,e'=.returned (.int .i64 x)/\0<=x/\x<n/\Iz ok w0 g (N+1) w b w':=by
 obtain⟨m,i,e,c,k,h1,h2⟩:=h;refine(h1.pick n (by omega) hn).mono λ_ _ hp=>?_
 obtain⟨x,rfl,h3,h4,h5,h6⟩:=hp;exact⟨x,rfl,h3,h4 h0,Iz.draw ⟨m,i,e,c,k,h1,h2⟩ ac hb h5 h6⟩
def YH(lo:Nat)(w:World)(v:Value):Prop:=∃m i e c k,v=.agg #[m,i,e,c]/\Og lo w m i e c k/\DJ k
theorem YH.past{lo g:Nat}{w w':World}{v:Value}(h:YH lo w v)(hg:g<lo)(hb:w.grownBy w' (some g)):YH lo w' v:=by obtain⟨m,i,e,c,k,h1,h2,h3⟩:=h;exact⟨m,i,e,c,k,h1,h2.map (GN hb hg (yt _)),h3⟩
def Wd(w:World)(t:AR×Int×Bool)(r:Ending)(w':World):Prop:=∃m i e c s l q,r=.returned (.tuple #[AO m i e c s l q t.1.zR t.1.zU,.int .i64 t.2.1,.bool t.2.2])/\FG w.heap.size w' m i e c s l q t.1/\Below w.heap.size w w'
def T0(w:World)(t:AR×Int)(r:Ending)(w':World):Prop:=∃m i e c s l q,r=.returned (.tuple #[AO m i e c s l q t.1.zR t.1.zU,.int .i64 t.2])/\FG w.heap.size w' m i e c s l q t.1/\Below w.heap.size w w'
theorem Yv{p:AR}{a:Nat}{Q:AR}(h:BV p (a/4)=(Q,true)):Kl p a=({Q with zV:=(Ad Q.zV (Ah 10 (a:Int) 0 0)).1},(Ad Q.zV (Ah 10 (a:Int) 0 0)).2.1,true):=by unfold Kl;rw[h];rfl
theorem X1{p:AR}{a:Nat}{x:Int}{Q:AR}(h:BV p (a/4)=(Q,true)):Iu p a x=({Q with zV:=(Ad Q.zV (Ah 11 (a:Int) x 0)).1},true):=by unfold Iu;rw[h];rfl
theorem QM(mv iv ev cv sv lv qv:Value)(P:AR)(w:World)(h:Kx w mv iv ev cv sv lv qv P)(hP:ED P){a:Nat}(ha:a<64):
 Calls prog 12 #[AO mv iv ev cv sv lv qv P.zR P.zU,.int .i64 a] w (Wd w (Kl P a)):=by
 obtain⟨j,hj⟩:∃j,j=a/4:=⟨_,rfl⟩
 have q1:(a:Int)/4=(j:Int):=by omega
 have hA:Be (a:Int) 0 63=true:=Ab.2 (by omega);have bm:=Nz (p:=P) (n:=a/4) hP (by omega);have bn:=Wk hP ha;have ab:=λQ=>Yv (p:=P) (a:=a) (Q:=Q)
 have cg:j<16:=by omega
 have cz:=λ(h:(BV P j).2=false)=>GG hP cg h
 have bi:=λW (hR:Kx W mv iv ev cv sv lv qv P)=>It mv iv ev cv sv lv qv P W hR hP cg
 rw[<-hj] at bm bn ab;generalize BV P j=t at bm bn ab bi cz;generalize Kl P a=tt at bn ab ⊢;obtain⟨Q,bb⟩:=t;dsimp only at bm bn ab bi cz;have HC:=λm i e c W (hR:Ma W m i e c Q.zV)=>FR hR bm.k 10 (a:Int) 0 0 (by decide)
 have ab:=ab Q;generalize Ad Q.zV (Ah 10 (a:Int) 0 0)=res at HC ab;obtain⟨kr,vr,nr⟩:=res;unfold KL at HC;dsimp only at HC ab;have HC:=AA HC;unfold IW AO at bi;have bi:=AA bi;unfold AO Wd AO;obtain⟨N0,N1,cj,cf⟩:=Jy w (.cells #[mv,iv,ev,cv,sv,lv,qv,.int .i64 P.zR,.int .i64 P.zU] 32) ((.cells #[.slice none 0 0,.slice none 0 0,.slice none 0 0,.slice none 0 0,.slice none 0 0,.slice none 0 0,.slice none 0 0,.int .i64 0,.int .i64 0] 32));have h0:=h.below cj;have ay:Bg P=true:=Dl.2 hP;obtain⟨x0,x1,x2,x3,x4,x5,x6,x7,x8⟩:=AD N0;have ej:=AA cf;clear cf;go_in;go_wp2_with fail;generalize(w.alloc _).alloc _=W0 at*;have CV:=Fn mv iv ev cv sv lv qv P W0 h0 (Ce hP.k);rw[ay] at CV;have db:=AA h0;have cQ:=AA cz;unfold AO at CV;have eN:=AA bm;have cR:=AA bn;have be:=AA ab;have br:=AA cj;have ax:=AA N0;have cI:=AA N1;clear h h0 cj N0 N1 hP ay x0 x1 x2 x3 x4 x5 x6 x7 x8 bm bn ab hj cz;refine CV.mono ?_;rintro r w1 ⟨rfl,b1⟩;obtain⟨x0,x1,x2,x3,x4,x5,x6,x7,x8⟩:=AD (AC ax.out b1);have cw:=AA b1;clear b1 CV;go_wp2_with fail;refine(Jw _ _).mono ?_;rintro r w2 ⟨rfl,rfl⟩;rw[hA];go_wp2_with fail;refine(bi.out w1 (db.out.below cw.out)).mono ?_;rintro r w2 ⟨m2,i2,e2,c2,s2,l2,q2,rfl,O2,b2⟩;obtain⟨⟨⟨ma,mn,mc,rfl⟩,⟨ia,iN,ic,rfl⟩,⟨ea,en,ec,rfl⟩,⟨qa,qn,qc,rfl⟩⟩,⟨sa,sn,sc,rfl⟩,⟨la,ln,lc,rfl⟩,⟨pa,pn,pc,rfl⟩⟩:=O2.zQ;have bA:=AE w2 (.cells #[.slice ma mn mc,.slice ia iN ic,.slice ea en ec,.slice qa qn qc,.slice sa sn sc,.slice la ln lc,.slice pa pn pc,.int .i64 Q.zR,.int .i64 Q.zU] 32);have I3:=Gm.start O2 b2.size;have ae:=cw.out.trans ((b2.trans (bA.mono b2.size)).mono cw.out.size);have ao:=AA I3;have N3:=AA (AC cI.out ae);have bf:=AA (br.out.trans (ae.mono br.out.size));have az:=AA (yB br.out.size cw.out.size);have cu:=AA (yB b2.size bA.size);clear O2 bA I3 ae b2 x0 x1 x2 x3 x4 x5 x6 x7 x8 bi db;cases bb
 focus
  have e:=cR.out rfl
  obtain rfl:=cQ.out rfl;subst e;clear cR be cQ HC;have S5:=DF N3.out (ao.out.own.lower az.out);obtain⟨c0,c1,c2,c3,c4,c5,c6,c7,c8⟩:=ao.out.cells;obtain⟨a0,a1,a2,a3,a4,a5,a6,a7,a8⟩:=AD N3.out;have f5:=AK N3.out;have dG:=AA S5;clear S5;go_wp2_with fail;obtain⟨N6,O6,au⟩:=dG.out;have B6:=AM bf.out au (by omega) bf.out.size
 rotate_left
 focus
  have e:=be.out rfl
  subst e;have C3:=AA (HC.out _ _ _ _ _ ao.out.own.ker.rd);obtain⟨c0,c1,c2,c3,c4,c5,c6,c7,c8⟩:=ao.out.cells;clear be cR cQ HC;go_wp2_with fail;generalize hg3:w2.heap.size=g3 at*;generalize w2.alloc _=W3 at*;refine C3.out.mono ?_;rintro r w4 ⟨m4,i4,e4,ef,rfl,O4,b4⟩;obtain⟨⟨bt,bs,bk,rfl⟩,⟨bN,b9,bz,rfl⟩,⟨cr,cp,cq,rfl⟩,⟨bx,bu,bw,rfl⟩⟩:=O4.zQ;have bA:=AE w4 (.cells #[.slice bt bs bk,.slice bN b9 bz,.slice cr cp cq,.slice bx bu bw] 28);have ar:=b4.trans (bA.mono b4.size);have I4:=ao.out.below ar;have I5:=ao.out.put ar (yt _) cu.out (O4.below bA);have G5:=Ao (w4.alloc (.cells #[.slice bt bs bk,.slice bN b9 bz,.slice cr cp cq,.slice bx bu bw] 28)) g3 (.slice bt bs bk) (.slice bN b9 bz) (.slice cr cp cq) (.slice bx bu bw);have N4:=AC N3.out ar;have ng:g3≠w.heap.size+1:=λe=>by have h1:=ao.out.yJ;have h2:=AW cI.out;have h3:=cw.out.size;omega
  have N5:=Ap N4 G5 ng;have B5:=AM (bf.out.trans (ar.mono bf.out.size)) G5 (yB az.out ao.out.yJ) (yB bf.out.size ar.size);obtain⟨d0,d1,d2,d3,_⟩:=I4.cells;have fd:=AK I4.yK;generalize hW5:((((w4.alloc _).setCell _ _).setCell _ _).setCell _ _).setCell _ _=W5 at I5 G5 N5 B5;have S6:=DF N5 (I5.own.lower az.out);obtain⟨y0,y1,y2,y3,y4,y5,y6,y7,y8⟩:=I5.cells;obtain⟨a0,a1,a2,a3,a4,a5,a6,a7,a8⟩:=AD N5;have f5:=AK N5;have da:=AA S6;have cH:=AA B5;clear S6 b4 bA ar O4 I4 I5 G5 N4 N5 B5 C3 c0 c1 c2 c3 c4 c5 c6 c7 c8;go_wp2_with fail;obtain⟨N6,O6,au⟩:=da.out;have B6:=AM cH.out au (by omega) cH.out.size
 rotate_left
 all_goals
  unfold Ew at N6 O6 B6;exact yk (v:=.tuple #[.agg #[_,_,_,_,_,_,_,_,_],_,_]) (by simp[results,Tryz.results12,go_sem,AD N6]) rfl ⟨_,_,_,_,_,_,_,rfl,O6,B6⟩
theorem Km(mv iv ev cv sv lv qv:Value)(P:AR)(w:World)(h:Kx w mv iv ev cv sv lv qv P)(hP:ED P){a:Nat}(ha:a<64){x:Int}(hx:EA x=true):
 Calls prog 25 #[AO mv iv ev cv sv lv qv P.zR P.zU,.int .i64 a,.int .i64 x] w (IW w (Iu P a x)):=by
 obtain⟨j,hj⟩:∃j,j=a/4:=⟨_,rfl⟩
 have q1:(a:Int)/4=(j:Int):=by omega
 have hA:Be (a:Int) 0 63=true:=Ab.2 (by omega);have bm:=Nz (p:=P) (n:=a/4) hP (by omega);have bn:=U2 (w:=x) hP ha;have ab:=λQ=>X1 (p:=P) (a:=a) (x:=x) (Q:=Q)
 have cg:j<16:=by omega
 have cz:=λ(h:(BV P j).2=false)=>GG hP cg h
 have bi:=λW (hR:Kx W mv iv ev cv sv lv qv P)=>It mv iv ev cv sv lv qv P W hR hP cg
 rw[<-hj] at bm bn ab;generalize BV P j=t at bm bn ab bi cz;generalize Iu P a x=tt at bn ab ⊢;obtain⟨Q,bb⟩:=t;dsimp only at bm bn ab bi cz;have HC:=λm i e c W (hR:Ma W m i e c Q.zV)=>FR hR bm.k 11 (a:Int) x 0 (by decide)
 have ab:=ab Q;generalize Ad Q.zV (Ah 11 (a:Int) x 0)=res at HC ab;obtain⟨kr,vr,nr⟩:=res;unfold KL at HC;dsimp only at HC ab;have HC:=AA HC;unfold IW AO at bi;have bi:=AA bi;unfold AO IW AO;obtain⟨N0,N1,cj,cf⟩:=Jy w (.cells #[mv,iv,ev,cv,sv,lv,qv,.int .i64 P.zR,.int .i64 P.zU] 32) ((.cells #[.slice none 0 0,.slice none 0 0,.slice none 0 0,.slice none 0 0,.slice none 0 0,.slice none 0 0,.slice none 0 0,.int .i64 0,.int .i64 0] 32));have h0:=h.below cj;have ay:Bg P=true:=Dl.2 hP;obtain⟨x0,x1,x2,x3,x4,x5,x6,x7,x8⟩:=AD N0;have ej:=AA cf;clear cf;go_in;go_wp2_with fail;generalize(w.alloc _).alloc _=W0 at*;have CV:=Fn mv iv ev cv sv lv qv P W0 h0 (Ce hP.k);rw[ay] at CV;have db:=AA h0;have cQ:=AA cz;unfold AO at CV;have eN:=AA bm;have cR:=AA bn;have be:=AA ab;have br:=AA cj;have ax:=AA N0;have cI:=AA N1;clear h h0 cj N0 N1 hP ay x0 x1 x2 x3 x4 x5 x6 x7 x8 bm bn ab hj cz;refine CV.mono ?_;rintro r w1 ⟨rfl,b1⟩;obtain⟨x0,x1,x2,x3,x4,x5,x6,x7,x8⟩:=AD (AC ax.out b1);have cw:=AA b1;clear b1 CV;go_wp2_with fail;refine(Jw _ _).mono ?_;rintro r w2 ⟨rfl,rfl⟩;rw[hA];go_wp2_with fail;refine(Cv _ _ _ _).mono ?_;rintro r w2 ⟨rfl,rfl⟩;rw[show Be x 0 9999=true from hx];go_wp2_with fail;refine(bi.out w1 (db.out.below cw.out)).mono ?_;rintro r w2 ⟨m2,i2,e2,c2,s2,l2,q2,rfl,O2,b2⟩;obtain⟨⟨⟨ma,mn,mc,rfl⟩,⟨ia,iN,ic,rfl⟩,⟨ea,en,ec,rfl⟩,⟨qa,qn,qc,rfl⟩⟩,⟨sa,sn,sc,rfl⟩,⟨la,ln,lc,rfl⟩,⟨pa,pn,pc,rfl⟩⟩:=O2.zQ;have bA:=AE w2 (.cells #[.slice ma mn mc,.slice ia iN ic,.slice ea en ec,.slice qa qn qc,.slice sa sn sc,.slice la ln lc,.slice pa pn pc,.int .i64 Q.zR,.int .i64 Q.zU] 32);have I3:=Gm.start O2 b2.size;have ae:=cw.out.trans ((b2.trans (bA.mono b2.size)).mono cw.out.size);have ao:=AA I3;have N3:=AA (AC cI.out ae);have bf:=AA (br.out.trans (ae.mono br.out.size));have az:=AA (yB br.out.size cw.out.size);have cu:=AA (yB b2.size bA.size);clear O2 bA I3 ae b2 x0 x1 x2 x3 x4 x5 x6 x7 x8 bi db;cases bb
 focus
  have e:=cR.out rfl
  obtain rfl:=cQ.out rfl;subst e;clear cR be cQ HC;have S5:=DF N3.out (ao.out.own.lower az.out);obtain⟨c0,c1,c2,c3,c4,c5,c6,c7,c8⟩:=ao.out.cells;obtain⟨a0,a1,a2,a3,a4,a5,a6,a7,a8⟩:=AD N3.out;have f5:=AK N3.out;have dG:=AA S5;clear S5;go_wp2_with fail;obtain⟨N6,O6,au⟩:=dG.out;have B6:=AM bf.out au (by omega) bf.out.size
 rotate_left
 focus
  have e:=be.out rfl
  subst e;have C3:=AA (HC.out _ _ _ _ _ ao.out.own.ker.rd);obtain⟨c0,c1,c2,c3,c4,c5,c6,c7,c8⟩:=ao.out.cells;clear be cR cQ HC;go_wp2_with fail;generalize hg3:w2.heap.size=g3 at*;generalize w2.alloc _=W3 at*;refine C3.out.mono ?_;rintro r w4 ⟨m4,i4,e4,ef,rfl,O4,b4⟩;obtain⟨⟨bt,bs,bk,rfl⟩,⟨bN,b9,bz,rfl⟩,⟨cr,cp,cq,rfl⟩,⟨bx,bu,bw,rfl⟩⟩:=O4.zQ;have bA:=AE w4 (.cells #[.slice bt bs bk,.slice bN b9 bz,.slice cr cp cq,.slice bx bu bw] 28);have ar:=b4.trans (bA.mono b4.size);have I4:=ao.out.below ar;have I5:=ao.out.put ar (yt _) cu.out (O4.below bA);have G5:=Ao (w4.alloc (.cells #[.slice bt bs bk,.slice bN b9 bz,.slice cr cp cq,.slice bx bu bw] 28)) g3 (.slice bt bs bk) (.slice bN b9 bz) (.slice cr cp cq) (.slice bx bu bw);have N4:=AC N3.out ar;have ng:g3≠w.heap.size+1:=λe=>by have h1:=ao.out.yJ;have h2:=AW cI.out;have h3:=cw.out.size;omega
  have N5:=Ap N4 G5 ng;have B5:=AM (bf.out.trans (ar.mono bf.out.size)) G5 (yB az.out ao.out.yJ) (yB bf.out.size ar.size);obtain⟨d0,d1,d2,d3,_⟩:=I4.cells;have fd:=AK I4.yK;generalize hW5:((((w4.alloc _).setCell _ _).setCell _ _).setCell _ _).setCell _ _=W5 at I5 G5 N5 B5;have S6:=DF N5 (I5.own.lower az.out);obtain⟨y0,y1,y2,y3,y4,y5,y6,y7,y8⟩:=I5.cells;obtain⟨a0,a1,a2,a3,a4,a5,a6,a7,a8⟩:=AD N5;have f5:=AK N5;have da:=AA S6;have cH:=AA B5;clear S6 b4 bA ar O4 I4 I5 G5 N4 N5 B5 C3 c0 c1 c2 c3 c4 c5 c6 c7 c8;go_wp2_with fail;obtain⟨N6,O6,au⟩:=da.out;have B6:=AM cH.out au (by omega) cH.out.size
 rotate_left
 all_goals
  unfold Ew at N6 O6 B6;exact yk (v:=.tuple #[.agg #[_,_,_,_,_,_,_,_,_],_]) (by simp[results,Tryz.results25,go_sem,AD N6]) rfl ⟨_,_,_,_,_,_,_,rfl,O6,B6⟩
theorem TQ(mv iv ev cv sv lv qv:Value)(P:AR)(call:Aa)(w:World)(h:Kx w mv iv ev cv sv lv qv P)(hP:ED P)(he:0<=call.e/\call.e<3)(dY:call.nm.size<=maxLen)(d9:call.c<=9223372036854775807):
 Calls prog 140 #[AO mv iv ev cv sv lv qv P.zR P.zU,.agg call.cs] w (T0 w (Nr P call)):=by
 unfold AO T0 Nr AO;have CC:=AA (λW (hR:Ma W mv iv ev cv P.zV)=>LI hR hP.k call he dY d9);unfold NV at CC;generalize Ad P.zV call=res at CC ⊢;obtain⟨kr,vr,nr⟩:=res;obtain⟨ck,ce,ca,cb,cc,nm⟩:=call;simp only[Aa.cs] at CC ⊢
 try dsimp only at CC ⊢
 obtain⟨N0,NC,N1,cj,cf⟩:=Kg w (.cells #[mv,iv,ev,cv,sv,lv,qv,.int .i64 P.zR,.int .i64 P.zU] 32) (.cells #[.int .i64 ck,.int .i64 ce,.int .i64 ca,.int .i64 cb,.int .i64 cc,.string nm] 55) ((.cells #[.slice none 0 0,.slice none 0 0,.slice none 0 0,.slice none 0 0,.slice none 0 0,.slice none 0 0,.slice none 0 0,.int .i64 0,.int .i64 0] 32));have h0:=h.below cj;have CO:=AA (LL mv iv ev cv sv lv qv P _ h0 hP);unfold Om AO at CO;have eM:=AA h0.1;obtain⟨x0,x1,x2,x3,x4,x5,x6,x7,x8⟩:=AD N0;have ej:=AA cf;clear cf h h0 he dY d9 hP;go_in;go_wp2_with fail;generalize((w.alloc _).alloc _).alloc _=W0 at*;have br:=AA cj;have ax:=AA N0;have eO:=AA NC;have cI:=AA N1;clear cj N0 NC N1 x0 x1 x2 x3 x4 x5 x6 x7 x8;refine CO.out.mono ?_;rintro r w2 ⟨m2,i2,e2,c2,s2,l2,q2,rfl,O2,b2⟩;obtain⟨⟨⟨ma,mn,mc,rfl⟩,⟨ia,iN,ic,rfl⟩,⟨ea,en,ec,rfl⟩,⟨qa,qn,qc,rfl⟩⟩,⟨sa,sn,sc,rfl⟩,⟨la,ln,lc,rfl⟩,⟨pa,pn,pc,rfl⟩⟩:=O2.zQ;have bA:=AE w2 (.cells #[.slice ma mn mc,.slice ia iN ic,.slice ea en ec,.slice qa qn qc,.slice sa sn sc,.slice la ln lc,.slice pa pn pc,.int .i64 P.zR,.int .i64 P.zU] 32);have I3:=Gm.start O2 b2.size;have ae:=b2.trans (bA.mono b2.size);obtain⟨x0,x1,x2,x3,_⟩:=AD (AC ax.out ae);obtain⟨k0,k1,k2,k3,k4,k5⟩:=JT (AC eO.out ae);have ao:=AA I3;have N3:=AA (AC cI.out ae);have bf:=AA (br.out.trans (ae.mono br.out.size));have cu:=AA (yB b2.size bA.size);have ek:=AA (CC.out _ (eM.out.below ae));clear O2 bA I3 ae b2 CO CC;go_wp2_with fail;generalize hg3:w2.heap.size=g3 at*;generalize w2.alloc _=W3 at*;refine ek.out.mono ?_;rintro r w4 ⟨m4,i4,e4,ef,rfl,O4,b4⟩;obtain⟨⟨bt,bs,bk,rfl⟩,⟨bN,b9,bz,rfl⟩,⟨cr,cp,cq,rfl⟩,⟨bx,bu,bw,rfl⟩⟩:=O4.zQ;have bA:=AE w4 (.cells #[.slice bt bs bk,.slice bN b9 bz,.slice cr cp cq,.slice bx bu bw] 28);have ar:=b4.trans (bA.mono b4.size);have I4:=ao.out.below ar;have I5:=ao.out.put ar (yt _) cu.out (O4.below bA);have G5:=Ao (w4.alloc (.cells #[.slice bt bs bk,.slice bN b9 bz,.slice cr cp cq,.slice bx bu bw] 28)) g3 (.slice bt bs bk) (.slice bN b9 bz) (.slice cr cp cq) (.slice bx bu bw);have N4:=AC N3.out ar;have ng:g3≠w.heap.size+1+1:=λe=>by have h1:=ao.out.yJ;have h2:=AW cI.out;omega
 have N5:=Ap N4 G5 ng;have B5:=AM (bf.out.trans (ar.mono bf.out.size)) G5 (yB br.out.size ao.out.yJ) (yB bf.out.size ar.size);obtain⟨d0,d1,d2,d3,_⟩:=I4.cells;have fd:=AK I4.yK;generalize hW5:((((w4.alloc _).setCell _ _).setCell _ _).setCell _ _).setCell _ _=W5 at I5 G5 N5 B5;have S6:=DF N5 (I5.own.lower br.out.size);obtain⟨y0,y1,y2,y3,y4,y5,y6,y7,y8⟩:=I5.cells;obtain⟨a0,a1,a2,a3,a4,a5,a6,a7,a8⟩:=AD N5;have f5:=AK N5;have da:=AA S6;have cH:=AA B5;clear S6 b4 bA ar O4 I4 I5 G5 N4 N5 B5 ek x0 x1 x2 x3 k0 k1 k2 k3 k4 k5;go_wp2_with fail;obtain⟨N6,O6,au⟩:=da.out;have B6:=AM cH.out au (by omega) cH.out.size;unfold Ew at N6 O6 B6;exact yk (v:=.tuple #[.agg #[_,_,_,_,_,_,_,_,_],_]) (by simp[results,Tryz.results140,go_sem,AD N6]) rfl ⟨_,_,_,_,_,_,_,rfl,O6,B6⟩
theorem Pf.mono{w0 w W1 wr:World}{g N M b:Nat}(h:Pf w0 g N w W1 b wr)(hm:N<=M):Pf w0 g M w W1 b wr:=by obtain⟨m,i,e,c,s,l,q,P,h⟩:=h;exact⟨m,i,e,c,s,l,q,P,h.mono hm⟩
theorem TU{w0 w:World}{g N:Nat}(h:Dr w0 g N w)(hN:N<=100000):
 Calls prog 87 #[.pointer (some ⟨g,0,none⟩)] w (bd ED w0 g (N+900) w):=by
 have ac:=h.lt;have av:w0.heap.size<=w.heap.size:=h.2.1.size;have B0:=yv w (.cells #[.slice none 0 0,.slice none 0 0,.slice none 0 0,.slice none 0 0,.slice none 0 0,.slice none 0 0,.slice none 0 0,.int .i64 0,.int .i64 0] 32);have bA:=AE w (.cells #[.slice none 0 0,.slice none 0 0,.slice none 0 0,.slice none 0 0,.slice none 0 0,.slice none 0 0,.slice none 0 0,.int .i64 0,.int .i64 0] 32);have gA:=AX bA (some g);have hA:=h.below bA;have dn:=AW B0;go_in;go_wp2_with fail;generalize w.alloc _=wa at*;refine(hA.pick _).mono ?_;rintro e w2 ⟨y,rfl,y0,y1,h2,g2⟩;replace y1:=y1 (by decide);have R2:=(g2.block w.heap.size dn (by simp;omega)).trans B0;have G2:=AP gA g2;have dP:w.heap.size+1<=w2.heap.size:=yB dn g2.size;clear hA gA B0 bA g2 h dn;go_wp2_with fail;refine(M8 (1+y) w2 (by omega) (by omega)).mono ?_;rintro e w6 ⟨m1,i1,e1,c1,s1,l1,q1,rfl,O6,b6⟩;obtain⟨⟨⟨ma,mn,mc,rfl⟩,⟨ia,iN,ic,rfl⟩,⟨ea,en,ec,rfl⟩,⟨ca,cn,cc,rfl⟩⟩,⟨sa,sn,sc,rfl⟩,⟨la,ln,lc,rfl⟩,⟨qa,qn,qc,rfl⟩⟩:=O6.zQ;have co:ED (Us (1+y)):=Wl (by omega) (by omega);clear y0 y1;generalize Us (1+y)=P1 at*;unfold AO;have bB:=AE w6 (.cells #[.slice ma mn mc,.slice ia iN ic,.slice ea en ec,.slice ca cn cc,.slice sa sn sc,.slice la ln lc,.slice qa qn qc,.int .i64 P1.zR,.int .i64 P1.zU] 32);have cC:=b6.trans (bB.mono b6.size);have St:Kq w0 g (N+1) w (w6.alloc (.cells #[.slice ma mn mc,.slice ia iN ic,.slice ea en ec,.slice ca cn cc,.slice sa sn sc,.slice la ln lc,.slice qa qn qc,.int .i64 P1.zR,.int .i64 P1.zU] 32)) w6.heap.size _ _ _ _ _ _ _ P1 (w6.alloc (.cells #[.slice ma mn mc,.slice ia iN ic,.slice ea en ec,.slice ca cn cc,.slice sa sn sc,.slice la ln lc,.slice qa qn qc,.int .i64 P1.zR,.int .i64 P1.zU] 32)):=⟨h2.below cC,AP G2 (AX cC _),yv _ _,O6.map (KE bB dP),co,ac,av,by have:=b6.size;omega,yt _,λ_ _ _ _=>rfl⟩;have R6:=AC R2 cC;clear O6 b6 bB cC h2 G2 R2 co dP;go_wp2_with fail;generalize w6.alloc _=W1 at*;generalize w6.heap.size=b at*;refine(St.pk 24).mono ?_;rintro e w7 ⟨n,rfl,n0,n1,S7⟩;clear St;obtain⟨n,rfl⟩:=xW n0;have dt:n<24:=by omega
 clear n0 n1;go_wp2_with fail;refine(S7.pk 5).mono ?_;rintro e w8 ⟨z,rfl,z0,z1,S8⟩;clear S7;go_wp2_with fail;generalize(z==0)=gr;go_loopw [7] (λi wr=>∃j:Nat,j<=n/\i=.int .i64 j/\Pf w0 g (N+3+33*j) w W1 b wr) (λi _=>n - (intOf i).toNat)
 case atStart=>exact⟨0,yh _,rfl,_,_,_,_,_,_,_,P1,S8⟩
 case round=>
  clear S8 z0 z1;obtain⟨j,hj,rfl,m1,i1,e1,c1,s1,l1,q1,Q,St⟩:=hrel;obtain⟨⟨⟨ma,mn,mc,rfl⟩,⟨ia,iN,ic,rfl⟩,⟨ea,en,ec,rfl⟩,⟨ca,cn,cc,rfl⟩⟩,⟨sa,sn,sc,rfl⟩,⟨la,ln,lc,rfl⟩,⟨qa,qn,qc,rfl⟩⟩:=St.sf.zQ
  by_cases dZ:j<n
  .go_wp2_with fail
   refine(St.pk 4).mono ?_;rintro e wr ⟨x,rfl,x0,x1,S4⟩;clear St;obtain⟨N1,hN1⟩:∃M,M=N+3+33*j+1:=⟨_,rfl⟩
   rw[<-hN1] at S4;have du:=S4.lt;obtain⟨c0,c1,c2,c3,c4,c5,c6,c7,c8⟩:=AD S4.yK;have ad:=AW S4.yK
   rcases(show(x=0∨x=1)∨x=2∨x=3 by omega) with hx|rfl|rfl
   .rcases hx with rfl|rfl<;>go_wp2_with fail
    all_goals
     refine JH (s:=10) (U:=λix vv=>match ix with
      |2=>Pk 64 vv
      |4=>Pk 999 vv
      |5=>∃x:Int,vv=.int .i64 x/\1<=x/\x<=999
      |6|7=>∃v,∃x:Bool,vv=.tuple #[v,.bool x]
      |_=>True) 11 66 1 2 [2,4] [.a #[.slice ma mn mc,.slice ia iN ic,.slice ea en ec,.slice ca cn cc,.slice sa sn sc,.slice la ln lc,.slice qa qn qc,.int .i64 Q.zR,.int .i64 Q.zU],.p g 0,.z,.p g 0,.z,.z,.z,.z,.z,.z,.u] (λix vv ww=>match ix with
      |6|7=>∃v,(∃x:Bool,vv=.tuple #[v,.bool x])/\OD (w.heap.size+1) ww v
      |8=>OD (w.heap.size+1) ww vv
      |9=>True
      |_=>True) (λww=>Pf w0 g (N1+2) w W1 b ww) S4.dr ?_ ?_ ?_ ?_ ?_ (hst:=?_)
     .intro i hi hS o ho a wx Hb ll Hd HL hr K HK
      match i,hi,hS with
      |0,_,_=>have hW:=hr (by kernel_rfl);have dl:=gc hW ad (by omega) c0;have dk:=gc hW ad (by omega) c1;have dj:=gc hW ad (by omega) c2;have di:=gc hW ad (by omega) c3;have bk:=gc hW ad (by omega) c4;have dO:=gc hW ad (by omega) c5;have dN:=gc hW ad (by omega) c6;have dM:=gc hW ad (by omega) c7;have dJ:=gc hW ad (by omega) c8;exact Nl ho HK Hb Hd HL (hl:=Qz ‹_› ‹_› ‹_› ‹_› ‹_› ‹_› ‹_› ‹_› ‹_›)
      |1,_,_|3,_,_=>exact Wg ho HK Hb Hd HL
      |2,_,hs|4,_,hs|10,_,hs=>cases hs
      |5,_,_=>obtain rfl:=yF ho;have d4:(Pk 999 (a.tmps[36]?.getD undef))/\(ll 10=false->True):=DV Hd HL 4;obtain⟨⟨x4,d4,p2,p3⟩,_⟩:=d4;have cJ:=Ba HL 10;clear Hd Hb;refine yE ?_;go_simp;exact HK.out _ _ ⟨⟨_,by rw[IntWalk.i64_in _ (by omega)],by omega,by omega⟩,λ_=>trivial⟩ (yD _ _)
      |6,_,_=>obtain rfl:=yF ho;have d0:(a.tmps[32]?.getD undef)=.agg #[.slice ma mn mc,.slice ia iN ic,.slice ea en ec,.slice ca cn cc,.slice sa sn sc,.slice la ln lc,.slice qa qn qc,.int .i64 Q.zR,.int .i64 Q.zU]:=DV Hd HL 0;have d2:(Pk 64 (a.tmps[34]?.getD undef))/\(ll 10=false->True):=DV Hd HL 2;obtain⟨⟨x2,d2,p0,p1⟩,_⟩:=d2;have d5:(∃x:Int,(a.tmps[37]?.getD undef)=.int .i64 x/\1<=x/\x<=999)/\(ll 10=false->True):=DV Hd HL 5;obtain⟨⟨x5,d5,r0,r1⟩,_⟩:=d5;have cJ:=Ba HL 10;clear Hd Hb;have hW:=hr (by kernel_rfl);have cP:=S4.sf.map (GN hW (by omega) (yt _));have dp:=hW.size;obtain⟨a2,rfl⟩:=xW p0;refine yE ?_;go_simp;refine(Km _ _ _ _ _ _ _ Q wx cP.rd S4.good (a:=a2) (by omega) (x:=x5) (Ab.2 (by omega))).mono ?_;rintro e w_ ⟨m9,i9,e9,c9,s9,l9,q9,rfl,hO,cO⟩;exact HK.out _ _ ⟨⟨_,_,rfl⟩,λ_=>⟨_,⟨_,rfl⟩,hO.sf.pgR (Se S4.good (by omega) (Ab.2 (by omega))) (by omega)⟩⟩ cO
      |7,_,_=>obtain rfl:=yF ho;have d6:(∃v,∃x:Bool,(a.tmps[38]?.getD undef)=.tuple #[v,.bool x])/\(ll 10=false->∃v,(∃x:Bool,(a.tmps[38]?.getD undef)=.tuple #[v,.bool x])/\OD (w.heap.size+1) wx v):=DV Hd HL 6;have cJ:=Ba HL 10;clear Hd Hb;have q:=d6.2 (Ba HL 10);obtain⟨v9,⟨x9,e9⟩,q⟩:=q;refine yE ?_;go_simp;exact HK.out _ _ ⟨⟨_,_,rfl⟩,λ_=>⟨_,⟨_,rfl⟩,q⟩⟩ (yD _ _)
      |8,_,_=>obtain rfl:=yF ho;have d7:(∃v,∃x:Bool,(a.tmps[31]?.getD undef)=.tuple #[v,.bool x])/\(ll 10=false->∃v,(∃x:Bool,(a.tmps[31]?.getD undef)=.tuple #[v,.bool x])/\OD (w.heap.size+1) wx v):=DV Hd HL 7;have cJ:=Ba HL 10;clear Hd Hb;have q:=d7.2 (Ba HL 10);obtain⟨v9,⟨x9,e9⟩,q⟩:=q;refine yE ?_;go_simp;exact HK.out _ _ ⟨trivial,λ_=>q⟩ (yD _ _)
      |9,_,_=>obtain rfl:=yF ho;have d7:(∃v,∃x:Bool,(a.tmps[31]?.getD undef)=.tuple #[v,.bool x])/\(ll 10=false->∃v,(∃x:Bool,(a.tmps[31]?.getD undef)=.tuple #[v,.bool x])/\OD (w.heap.size+1) wx v):=DV Hd HL 7;clear Hd Hb;obtain⟨v9,x9,e9⟩:=d7.1;refine yE ?_;go_simp;exact HK.out _ _ ⟨trivial,λ_=>trivial⟩ (yD _ _)
     .intro i hi hS o ho a wx Hb ll Hd HL hG K HK
      match i,hi,hS with
      |2,_,_=>exact fK (m:=64) ho HK Hb Hd HL hG (by omega)
      |4,_,_=>exact fK (m:=999) ho HK Hb Hd HL hG (by omega)
      |0,_,hs|1,_,hs|3,_,hs|5,_,hs|6,_,hs|7,_,hs|8,_,hs|9,_,hs|10,_,hs=>cases hs
     .intro o ho a wx Hb ll Hd HL hD hW K HK
      obtain rfl:=yF ho;have e3:a.tmps[3]?.getD undef=.pointer (some ⟨b,0,none⟩):=eg (Oj Hb 3);have d8:(True)/\(ll 10=false->OD (w.heap.size+1) wx (a.tmps[39]?.getD undef)):=DV Hd HL 8;clear Hd Hb;have q:=d8.2 HL.out.1;obtain⟨m9,i9,e9,c9,s9,l9,q9,P9,e0,cm,cN⟩:=q;unfold AO at e0;obtain⟨⟨⟨va,vn,vc,rfl⟩,⟨wa,wn,wc,rfl⟩,⟨xa,xn,xc,rfl⟩,⟨ya,yn,yc,rfl⟩⟩,⟨ta,tn,tc,rfl⟩,⟨ua,un,uc,rfl⟩,⟨za,zn,zc,rfl⟩⟩:=cm.zQ;have S9:=(S4.draw hD hW).put cm cN;have B9:=(S4.draw hD hW).yK;obtain⟨c0,c1,c2,c3,c4,c5,c6,c7,c8⟩:=AD B9;have fq:=AK B9;refine yE ?_;go_simp;exact HK.out undef _ ⟨_,_,_,_,_,_,_,P9,S9⟩
     .exact λ_ _ hb h=>h.below hb
     rotate_left
     .intro i hi v ww dh hg hz
      match i,hi with
      |6,_|7,_=>exact(by obtain⟨v9,h1,h2⟩:=hz;exact⟨v9,h1,h2.past (by omega) hg⟩)
      |8,_=>exact(hz.past (by omega) hg)
      |9,_|0,_|1,_|2,_|3,_|4,_|5,_|10,_=>exact hz
     .intro vs wx ll hR hA
      clear hR;simp only[De,Bb,yC,yz,yy,yw];simp
      try generalize vs 0=z0
      try generalize vs 1=z1
      try generalize vs 2=z2
      try generalize vs 3=z3
      try generalize vs 4=z4
      try generalize vs 5=z5
      try generalize vs 6=z6
      try generalize vs 7=z7
      try generalize vs 8=z8
      try generalize vs 9=z9
      try generalize vs 10=z10
      go_wp2_with fail;go_roundw
      case rel=>exact⟨j+1,by omega,by go_num,hA.mono (by omega)⟩
      case measure=>simp[intOf];omega
   .go_wp2_with fail
    refine JH (s:=8) (U:=λix vv=>match ix with
     |2=>Pk 64 vv
     |3|4=>∃v x y,vv=.tuple #[v,.int .i64 x,.bool y]
     |_=>True) 9 66 1 1 [2] [.a #[.slice ma mn mc,.slice ia iN ic,.slice ea en ec,.slice ca cn cc,.slice sa sn sc,.slice la ln lc,.slice qa qn qc,.int .i64 Q.zR,.int .i64 Q.zU],.p g 0,.z,.z,.z,.z,.z,.z,.u] (λix vv ww=>match ix with
     |3|4=>∃v,(∃x y,vv=.tuple #[v,.int .i64 x,.bool y])/\OD (w.heap.size+1) ww v
     |5=>OD (w.heap.size+1) ww vv
     |6|7=>True
     |_=>True) (λww=>Pf w0 g (N1+1) w W1 b ww) S4.dr ?_ ?_ ?_ ?_ ?_ (hst:=?_)
    .intro i hi hS o ho a wx Hb ll Hd HL hr K HK
     match i,hi,hS with
     |0,_,_=>have hW:=hr (by kernel_rfl);have dl:=gc hW ad (by omega) c0;have dk:=gc hW ad (by omega) c1;have dj:=gc hW ad (by omega) c2;have di:=gc hW ad (by omega) c3;have bk:=gc hW ad (by omega) c4;have dO:=gc hW ad (by omega) c5;have dN:=gc hW ad (by omega) c6;have dM:=gc hW ad (by omega) c7;have dJ:=gc hW ad (by omega) c8;exact Nl ho HK Hb Hd HL (hl:=Qz ‹_› ‹_› ‹_› ‹_› ‹_› ‹_› ‹_› ‹_› ‹_›)
     |1,_,_=>exact Wg ho HK Hb Hd HL
     |2,_,hs|8,_,hs=>cases hs
     |3,_,_=>obtain rfl:=yF ho;have d0:(a.tmps[44]?.getD undef)=.agg #[.slice ma mn mc,.slice ia iN ic,.slice ea en ec,.slice ca cn cc,.slice sa sn sc,.slice la ln lc,.slice qa qn qc,.int .i64 Q.zR,.int .i64 Q.zU]:=DV Hd HL 0;have d2:(Pk 64 (a.tmps[46]?.getD undef))/\(ll 8=false->True):=DV Hd HL 2;obtain⟨⟨x2,d2,p0,p1⟩,_⟩:=d2;have u8:=Ba HL 8;clear Hd Hb;have hW:=hr (by kernel_rfl);have cP:=S4.sf.map (GN hW (by omega) (yt _));have dp:=hW.size;obtain⟨a2,rfl⟩:=xW p0;refine yE ?_;go_simp;refine(QM _ _ _ _ _ _ _ Q wx cP.rd S4.good (a:=a2) (by omega)).mono ?_;rintro e w_ ⟨m9,i9,e9,c9,s9,l9,q9,rfl,hO,cO⟩;exact HK.out _ _ ⟨⟨_,_,_,rfl⟩,λ_=>⟨_,⟨_,_,rfl⟩,hO.sf.pgR (Yw S4.good (by omega)) (by omega)⟩⟩ cO
     |4,_,_=>obtain rfl:=yF ho;have d3:(∃v x y,(a.tmps[47]?.getD undef)=.tuple #[v,.int .i64 x,.bool y])/\(ll 8=false->∃v,(∃x y,(a.tmps[47]?.getD undef)=.tuple #[v,.int .i64 x,.bool y])/\OD (w.heap.size+1) wx v):=DV Hd HL 3;have u8:=Ba HL 8;clear Hd Hb;have q:=d3.2 (Ba HL 8);obtain⟨v9,⟨x9,y9,e9⟩,q⟩:=q;refine yE ?_;go_simp;exact HK.out _ _ ⟨⟨_,_,_,rfl⟩,λ_=>⟨_,⟨_,_,rfl⟩,q⟩⟩ (yD _ _)
     |5,_,_=>obtain rfl:=yF ho;have d4:(∃v x y,(a.tmps[43]?.getD undef)=.tuple #[v,.int .i64 x,.bool y])/\(ll 8=false->∃v,(∃x y,(a.tmps[43]?.getD undef)=.tuple #[v,.int .i64 x,.bool y])/\OD (w.heap.size+1) wx v):=DV Hd HL 4;have u8:=Ba HL 8;clear Hd Hb;have q:=d4.2 (Ba HL 8);obtain⟨v9,⟨x9,y9,e9⟩,q⟩:=q;refine yE ?_;go_simp;exact HK.out _ _ ⟨trivial,λ_=>q⟩ (yD _ _)
     |6,_,_=>obtain rfl:=yF ho;have d4:(∃v x y,(a.tmps[43]?.getD undef)=.tuple #[v,.int .i64 x,.bool y])/\(ll 8=false->∃v,(∃x y,(a.tmps[43]?.getD undef)=.tuple #[v,.int .i64 x,.bool y])/\OD (w.heap.size+1) wx v):=DV Hd HL 4;clear Hd Hb;obtain⟨v9,x9,y9,e9⟩:=d4.1;refine yE ?_;go_simp;exact HK.out _ _ ⟨trivial,λ_=>trivial⟩ (yD _ _)
     |7,_,_=>obtain rfl:=yF ho;have d4:(∃v x y,(a.tmps[43]?.getD undef)=.tuple #[v,.int .i64 x,.bool y])/\(ll 8=false->∃v,(∃x y,(a.tmps[43]?.getD undef)=.tuple #[v,.int .i64 x,.bool y])/\OD (w.heap.size+1) wx v):=DV Hd HL 4;clear Hd Hb;obtain⟨v9,x9,y9,e9⟩:=d4.1;refine yE ?_;go_simp;exact HK.out _ _ ⟨trivial,λ_=>trivial⟩ (yD _ _)
    .intro i hi hS o ho a wx Hb ll Hd HL hG K HK
     match i,hi,hS with
     |2,_,_=>exact fK (m:=64) ho HK Hb Hd HL hG (by omega)
     |0,_,hs|1,_,hs|3,_,hs|4,_,hs|5,_,hs|6,_,hs|7,_,hs|8,_,hs=>cases hs
    .intro o ho a wx Hb ll Hd HL hD hW K HK
     obtain rfl:=yF ho;have e3:a.tmps[3]?.getD undef=.pointer (some ⟨b,0,none⟩):=eg (Oj Hb 3);have d5:(True)/\(ll 8=false->OD (w.heap.size+1) wx (a.tmps[48]?.getD undef)):=DV Hd HL 5;clear Hd Hb;have q:=d5.2 HL.out.1;obtain⟨m9,i9,e9,c9,s9,l9,q9,P9,e0,cm,cN⟩:=q;unfold AO at e0;obtain⟨⟨⟨va,vn,vc,rfl⟩,⟨wa,wn,wc,rfl⟩,⟨xa,xn,xc,rfl⟩,⟨ya,yn,yc,rfl⟩⟩,⟨ta,tn,tc,rfl⟩,⟨ua,un,uc,rfl⟩,⟨za,zn,zc,rfl⟩⟩:=cm.zQ;have S9:=(S4.draw hD hW).put cm cN;have B9:=(S4.draw hD hW).yK;obtain⟨c0,c1,c2,c3,c4,c5,c6,c7,c8⟩:=AD B9;have fq:=AK B9;refine yE ?_;go_simp;exact HK.out undef _ ⟨_,_,_,_,_,_,_,P9,S9⟩
    .exact λ_ _ hb h=>h.below hb
    rotate_left
    .intro i hi v ww dh hg hz
     match i,hi with
     |3,_|4,_=>exact(by obtain⟨v9,h1,h2⟩:=hz;exact⟨v9,h1,h2.past (by omega) hg⟩)
     |5,_=>exact(hz.past (by omega) hg)
     |6,_|7,_|0,_|1,_|2,_|8,_=>exact hz
    .intro vs wx ll hR hA
     clear hR;simp only[De,Bb,yC,yz,yy,yw];simp
     try generalize vs 0=z0
     try generalize vs 1=z1
     try generalize vs 2=z2
     try generalize vs 3=z3
     try generalize vs 4=z4
     try generalize vs 5=z5
     try generalize vs 6=z6
     try generalize vs 7=z7
     try generalize vs 8=z8
     go_wp2_with fail;go_roundw
     case rel=>exact⟨j+1,by omega,by go_num,hA.mono (by omega)⟩
     case measure=>simp[intOf];omega
   .go_wp2_with fail
    refine(TT _ _ _ _ Q.zV.zZ S4.dr (by omega) (λw' hg=>(S4.sf.map (GN hg (by omega) (yt _))).rd.1.2.1) (Nat.le_of_eq S4.good.k.len)).mono ?_;rintro e w9 ⟨v,rfl,⟨x,rfl,hx⟩,h9,g9⟩;have S9:=S4.draw h9 g9;have NC:=yv w9 (.cells #[.int .i64 x.k,.int .i64 x.e,.int .i64 x.a,.int .i64 x.b,.int .i64 x.c,.string x.nm] 55);have bC:=AE w9 (.cells #[.int .i64 x.k,.int .i64 x.e,.int .i64 x.a,.int .i64 x.b,.int .i64 x.c,.string x.nm] 55);clear S4 h9 g9 c0 c1 c2 c3 c4 c5 c6 c7 c8 ad;simp only[Aa.cs];go_upto_if 57 with fail;generalize w9.alloc _=wc at*;go_cut [] (λW=>∃y:Aa,VG y/\W.heap[w9.heap.size]?=some (.cells y.cs 55 (0,0))/\Below w9.heap.size w9 W)
    case first=>
     cases gr
     .go_wp2_with fail
      go_meet;exact⟨x,hx,NC,bC⟩
     .have fc:=AK NC
      obtain⟨d0,d1,d2,d3,d4,d5⟩:=Gc NC;have N2:=bV (x:=⟨1,1,0,0,0,⟨#[98]⟩⟩) NC;go_wp2_with fail;go_meet;exact⟨⟨1,1,0,0,0,⟨#[98]⟩⟩,⟨⟨by decide,by decide,by decide,by decide⟩,.inl rfl⟩,N2,AM (AM (AM (AM (AM (AM bC (Aq _ _ 0 _) (yt _) bC.size) (Aq _ _ 1 _) (yt _) (by simpa using bC.size)) (Aq _ _ 2 _) (yt _) (by simpa using bC.size)) (Aq _ _ 3 _) (yt _) (by simpa using bC.size)) (Aq _ _ 4 _) (yt _) (by simpa using bC.size)) (Aq _ _ 5 _) (yt _) (by simpa using bC.size)⟩
    case rest=>
    clear NC bC hx;obtain⟨y,⟨hy,cU⟩,NY,bY⟩:=hcut;have cF:=S9.below bY;obtain⟨c0,c1,c2,c3,c4,c5,c6,c7,c8⟩:=AD cF.yK;obtain⟨d0,d1,d2,d3,d4,d5⟩:=Gc NY;have C:=TQ _ _ _ _ _ _ _ Q y _ cF.sf.rd cF.good ⟨hy.2.1,hy.2.2.1⟩ (by have:=hy.1;unfold maxLen;omega) (by have:=hy.2.2.2;omega);have hO:=(Y7 cF.good cU).1;unfold AO at C;simp only[Aa.cs] at C;go_wp2_with fail;refine C.mono ?_;rintro e eP ⟨m9,i9,e9,c9,s9,l9,q9,rfl,dE,eh⟩;obtain⟨⟨⟨va,vn,vc,rfl⟩,⟨wa,wn,wc,rfl⟩,⟨xa,xn,xc,rfl⟩,⟨ya,yn,yc,rfl⟩⟩,⟨ta,tn,tc,rfl⟩,⟨ua,un,uc,rfl⟩,⟨za,zn,zc,rfl⟩⟩:=dE.zQ;unfold AO;have df:=cF.below eh;have eL:=AA ((df.put (dE.sf.map (λ_ _ _ _ _ _ _ x=>BO x (by have:=cF.lt;have:=AW cF.yK;omega))) hO).mono (M:=N+3+33*(j+1)) (by omega));have fq:=AK df.yK;clear c0 c1 c2 c3 c4 c5 c6 c7 c8 d0 d1 d2 d3 d4 d5 C;obtain⟨c0,c1,c2,c3,c4,c5,c6,c7,c8⟩:=AD df.yK;clear df cF S9 dE eh bY NY hO hy cU;go_wp2_with fail;go_roundw
    case rel=>exact⟨j+1,by omega,by go_num,_,_,_,_,_,_,_,_,eL.out⟩
    case measure=>simp[intOf];omega
  .obtain⟨c0,c1,c2,c3,c4,c5,c6,c7,c8⟩:=AD St.yK
   have dT:=AW R6;have R9:=(St.kp w.heap.size dT (by omega) (by have:=St.lt;omega)).trans R6;obtain⟨d0,d1,d2,d3,d4,d5,d6,d7,d8⟩:=AD R9;have de:=AK R9;obtain⟨BX,FX⟩:=aj (ok:=ED) (M:=N+900) St.dr St.gr (St.sf.map (λ_ _ _ _ _ _ _ x=>BO x (wv _))) St.good ac av R9 (by omega);unfold Ew at BX FX;have BH:=AA BX;have FH:=AA FX;clear BX FX St R9 R6;go_wp2_with fail;exact yk (v:=.agg #[_,_,_,_,_,_,_,_,_]) (by simp[results,Tryz.results87,go_sem,AD BH.out]) rfl FH.out
theorem YM{ss:List ByteArray}{s:ByteArray}:BQ (Gn ss s).1=true:=by
 unfold Gn
 by_cases h:(BQ ss&&BP s)=true
 .rw[if_pos h]
  obtain⟨h1,h2⟩:=Bool.and_eq_true_iff.1 h;exact YP h1 h2
 .rw[if_neg h]
  decide+kernel
def aP(w:World)(r:Ending)(w':World):Prop:=∃v' b,r=.returned (.tuple #[v',.bool b])/\(∃c',AQ w.heap.size 112 4 Ag w' v' c'/\c'.length<=4)/\Below w.heap.size w w'
theorem RD(v:Value)(c:List Al)(x:Al)(w:World)(h:Dz w v c):
 Calls prog 194 #[v,.agg #[.int .i64 x.e,.int .i64 x.p,.int .i64 x.f,.bool x.w]] w (aP w):=by
 have b0:=AE w (.cells #[.int .i64 x.e,.int .i64 x.p,.int .i64 x.f,.bool x.w] 112);have N0:=yv w (.cells #[.int .i64 x.e,.int .i64 x.p,.int .i64 x.f,.bool x.w] 112);have h0:=BD.below h b0;go_in;go_wp2_with fail;generalize w.alloc _=W0 at*;have ax:=AA b0;have HN:=AA N0;obtain⟨y0,y1,y2,y3⟩:=AG N0;clear N0 b0;refine(Is v c W0 h0).mono ?_;rintro r w1 ⟨rfl,b1⟩;cases hc:BT c
 .go_wp2_with fail
  go_ret2;exact⟨_,_,rfl,⟨[],AQ.lower (By Ag _ _ _) (yB ax.out.size b1.size),yh _⟩,(ax.out.trans (b1.mono ax.out.size)).alloc (yB ax.out.size b1.size) _⟩
 .have hl:=(Ep.1 hc).2.2
  obtain⟨y0,y1,y2,y3⟩:=AG (AC HN.out b1);go_wp2_with fail;refine(Mr x _).mono ?_;rintro r w2 ⟨rfl,b2⟩;have ae:=b1.trans (b2.mono b1.size);cases hx:CU x
  .go_wp2_with fail
   go_ret2;exact⟨_,_,rfl,⟨[],AQ.lower (By Ag _ _ _) (yB ax.out.size ae.size),yh _⟩,(ax.out.trans (ae.mono ax.out.size)).alloc (yB ax.out.size ae.size) _⟩
  .obtain⟨y0,y1,y2,y3⟩:=AG (AC HN.out ae)
   have hp:=(Ep.1 (Wp hc hx)).2.2;go_wp2_with fail;refine(Rs v c x _ (BD.below h0 ae) hl).mono ?_;rintro r w3 ⟨v',rfl,O3,b3⟩;have HO:=AA (xZ O3 hp);have HB:=AA ((ax.out.trans ((ae.trans (b3.mono ae.size)).mono ax.out.size)));have HL:=AA (yB ax.out.size ae.size);obtain⟨a9,c9,e9,_,_⟩:=O3.rd.shape;generalize List.length _=n9 at e9;subst e9;clear O3 hp b3 b1 b2 ae hl;go_wp2_with fail;go_ret2;exact⟨_,_,rfl,⟨_,HO.out.1.lower HL.out,HO.out.2⟩,HB.out⟩
theorem Nm{w w2:World}{g:Nat}{row:Option Nat}(h:w.grownBy w1 (some g))(h2:w1.grownBy w2 row)(hq:∀k,row=some k->w.heap.size<=k):w.grownBy w2 (some g):=
 ⟨h2.os.trans h.os,h2.tape.trans h.tape,h2.output.trans h.output,yB h.size h2.size,λk hk cx=>(h2.block k (xX hk h.size) (λe=>by have:=hq k e.symm;omega)).trans (h.block k hk cx)⟩
theorem Pz(w:World)(e:TypeId)(sz n:Nat)(xs:List Value)(hl:xs.length=n*sz)(hm:n<=maxLen):(w.alloc (.cells xs.toArray e)).ownsRow w.heap.size e sz (.slice (some ⟨w.heap.size,0,none⟩) n n) n xs:=
 ⟨hl,.inr ⟨_,_,_,rfl,yt _,yv _ _,yt _,hm,by simpa using hl,by rw[<-hl];simp⟩⟩
theorem WP{ss:List ByteArray}{s:ByteArray}(h:DQ ss)(hs:s.size<=maxLen):DQ (ss++[s]):=by
 intro x hx
 rcases List.mem_append.1 hx with h1|h1
 .exact h x h1
 .simp at h1;subst h1;exact hs
theorem Qx{w0 w:World}{g N:Nat}(h:Dr w0 g N w)(hN:N<=700000):
 Calls prog 144 #[.pointer (some ⟨g,0,none⟩)] w (Jh w0 g (N+60) w λv w'=>∃ss,AQ w.heap.size 9 1 BB w' v ss/\DQ ss):=by
 have ac:=h.lt;have av:w0.heap.size<=w.heap.size:=h.2.1.size;go_in;go_wp2_with fail;have o1:=By BB w 9 1;have h1:=h.alloc (.cells #[] 9);have g1:w.grownBy (w.alloc (.cells #[] 9)) (some g):=AX (AE _ _) _;generalize w.alloc (.cells #[] 9)=wa at o1 h1 g1;generalize(xF (some ⟨w.heap.size,0,none⟩) 0 0)=o at o1 ⊢;refine(h1.pick _).mono ?_;rintro e w2 ⟨n,rfl,n0,n1,h2,g2⟩;replace n1:=n1 (by decide);obtain⟨n,rfl⟩:=xW n0;have hp:∀b',some g=some b'->b'<w.heap.size:=λb' e=>by cases e;exact ac
 have o2:AQ w.heap.size 9 1 BB w2 o []:=Bq o1 g2 hp;have g3:=AP g1 g2;clear o1 h1 g1 g2 h;have Hp:=AA hp;clear hp;go_wp2_with fail;go_loopw [3,5] (λo i wr=>∃k:Nat,∃ss,k<=n/\i=.int .i64 k/\BQ ss=true/\AQ w.heap.size 9 1 BB wr o ss/\Dr w0 g (N+1+3*k) wr/\w.grownBy wr (some g)) (λ_ i _=>n - (intOf i).toNat)
 case atStart=>exact⟨0,[],yh _,rfl,by decide+kernel,o2,h2,g3⟩
 case round=>
  clear o2 h2 g3;obtain⟨k,ss,hk,rfl,ay,hO,hD,hG⟩:=hrel;have cG:=AA ay;have HO:=AA hO;obtain⟨oa,oc,rfl,_,_⟩:=hO.rd.shape;have cX:=(GM.1 cG.out).2.2;clear ay hO
  by_cases dv:k<n
  .go_wp2_with fail
   refine(JD hD (by omega)).mono ?_;rintro e w3 ⟨_,rfl,⟨s,ey,rfl⟩,h3,g3⟩;have O3:AQ w.heap.size 9 1 BB w3 _ ss:=Bq HO.out g3 Hp.out;have hz:w.heap.size<=w3.heap.size:=yB hG.size g3.size;go_wp2_with fail;refine(LU _ ss s w3 O3.rd (GO cG.out) (by unfold maxLen;omega)).mono ?_;rintro e w4 ⟨v4,rfl,O4,b4⟩;cases hb:(Gn ss s).2
   .have HR:=AA (xZ (O3.below b4) (xZ (h3.below b4) (AP (AP hG g3) (AX b4 _))))
    clear cX O3 O4 h3 g3 b4 hD hG;go_wp2_with fail;go_roundw
    case rel=>exact⟨k+1,ss,by omega,by go_num,cG.out,HR.out.1,HR.out.2.1.mono (by omega),HR.out.2.2⟩
    case measure=>simp[intOf];omega
   .have HR:=AA (xZ (O4.lower hz) (xZ (h3.below b4) (AP (AP hG g3) (AX b4 _))))
    clear cX O3 O4 h3 g3 b4 hD hG;go_wp2_with fail;go_roundw
    case rel=>exact⟨k+1,(Gn ss s).1,by omega,by go_num,YM,HR.out.1,HR.out.2.1.mono (by omega),HR.out.2.2⟩
    case measure=>simp[intOf];omega
  .have eC:k<=7:=by omega
   go_wp2_with fail;refine(hD.pick _).mono ?_;rintro e w3 ⟨u,rfl,_,_,h3,g3⟩;have O3:AQ w.heap.size 9 1 BB w3 _ ss:=Bq HO.out g3 Hp.out;have G3:=AP hG g3;clear hD hG HO g3
   by_cases u0:u=0
   .subst u0
    go_wp2_with fail;refine(JD h3 (by omega)).mono ?_;rintro e w4 ⟨_,rfl,⟨s,ey,rfl⟩,h4,g4⟩;have O4:AQ w.heap.size 9 1 BB w4 _ ss:=Bq O3 g4 Hp.out;have G4:=AP G3 g4;have hz:w.heap.size<=w4.heap.size:=G4.size;have dc:=AA O4;have HH:=AA (xZ h4 G4);clear O3 h3 G3 g4 O4 h4 G4;go_wp2_with (at_builtin;go_must (refine Bc (lo:=w.heap.size) (n:=ss.length) (xs:=Ci BB ss) (m:=1) (news:=[.string s]) rfl rfl 9 (.string ⟨#[]⟩) 1 16 underlying72 Tryz.zJ rfl (by decide) rfl (Co dc.out (AE _ _)) rfl (Rd.zC _ #[_] _ 1 1 _ (by simp) rfl (by simp[maxLen])) (by simp[xD]) (by unfold maxLen;omega) (by omega) (by simp;omega) ?_;intro o' w9 k1 k2 k3 k4));have o9:AQ w.heap.size 9 1 BB w9 o' (ss++[s]):=by unfold AQ;rw[Bm,Er,yj];exact k1
    have ai:∀k,(xF oa ss.length oc).ownBlock=some k->w.heap.size<=k:=λk e=>(yq dc.out k e).1
    have D9:=(HH.out.1.alloc (.cells #[.string s] 9)).keep k2 (λe=>by have:=ai g e;have:=Hp.out g rfl;omega) (λk e=>yB av (ai k e));have G9:=Nm (Gq HH.out.2 (.cells #[.string s] 9)) k2 ai;have HF:=AA (xZ o9 (xZ (D9.mono (M:=N+60) (by omega)) G9));clear o9 D9 G9 k1 k2 k3 k4;go_wp2_with fail;go_ret;exact⟨_,rfl,⟨_,HF.out.1,WP (GO cG.out) (by unfold maxLen;omega)⟩,HF.out.2.1,HF.out.2.2⟩
   have t0:(u==0)=false:=by simp[u0]
   clear u0;go_wp2_with fail;refine(h3.pick _).mono ?_;rintro e w4 ⟨u',rfl,_,_,h4,g4⟩;have O4:AQ w.heap.size 9 1 BB w4 _ ss:=Bq O3 g4 Hp.out;have HF:=AA (xZ O4 (xZ (h4.mono (M:=N+60) (by omega)) (AP G3 g4)));clear O3 h3 G3 g4 O4 h4 t0
   by_cases u0:u'=0
   .subst u0
    go_wp2_with fail;go_ret;refine⟨_,rfl,⟨[⟨#[97]⟩,⟨#[97,97]⟩,⟨#[97,98]⟩,⟨#[98]⟩,⟨#[98,97]⟩,⟨#[99]⟩],AQ.lower (Pz w4 9 1 6 (Ci BB [⟨#[97]⟩,⟨#[97,97]⟩,⟨#[97,98]⟩,⟨#[98]⟩,⟨#[98,97]⟩,⟨#[99]⟩]) rfl (by simp[maxLen])) HF.out.2.2.size,?_⟩,HF.out.2.1.alloc _,Gq HF.out.2.2 _⟩;intro x hx;simp only[xA,wR,or_false] at hx
    rcases hx with rfl|rfl|rfl|rfl|rfl|rfl<;>decide
   have t0:(u'==0)=false:=by simp[u0]
   clear u0;go_wp2_with fail;go_ret;exact⟨_,rfl,⟨_,HF.out.1,GO cG.out⟩,HF.out.2.1,HF.out.2.2⟩
theorem TR{w0 w:World}{g N:Nat}(h:Dr w0 g N w)(hN:N<=700000):
 Calls prog 145 #[.pointer (some ⟨g,0,none⟩)] w (Jh w0 g (N+80) w λv w'=>∃ss,AQ w.heap.size 112 4 Ag w' v ss):=by
 have ac:=h.lt;have av:w0.heap.size<=w.heap.size:=h.2.1.size;go_in;go_wp2_with fail;have o1:=By Ag w 112 4;have h1:=h.alloc (.cells #[] 112);have g1:w.grownBy (w.alloc (.cells #[] 112)) (some g):=AX (AE _ _) _;generalize w.alloc (.cells #[] 112)=wa at o1 h1 g1;generalize(xF (some ⟨w.heap.size,0,none⟩) 0 0)=o at o1 ⊢;refine(h1.pick _).mono ?_;rintro e w2 ⟨n,rfl,n0,n1,h2,g2⟩;replace n1:=n1 (by decide);obtain⟨n,rfl⟩:=xW n0;have hp:∀b',some g=some b'->b'<w.heap.size:=λb' e=>by cases e;exact ac
 have o2:AQ w.heap.size 112 4 Ag w2 o []:=Bq o1 g2 hp;have g3:=AP g1 g2;clear o1 h1 g1 g2 h;have Hp:=AA hp;clear hp;go_wp2_with fail;go_loopw [3,5] (λo i wr=>∃k:Nat,∃ss,k<=n/\i=.int .i64 k/\ss.length<=4/\AQ w.heap.size 112 4 Ag wr o ss/\Dr w0 g (N+1+8*k) wr/\w.grownBy wr (some g)) (λ_ i _=>n - (intOf i).toNat)
 case atStart=>exact⟨0,[],yh _,rfl,yh _,o2,h2,g3⟩
 case round=>
  clear o2 h2 g3;obtain⟨k,ss,hk,rfl,ay,hO,hD,hG⟩:=hrel;have cG:=AA ay;have HO:=AA hO;obtain⟨oa,oc,rfl,_,_⟩:=hO.rd.shape;have cX:ss.length<=6:=by have:=cG.out;omega
  clear ay hO
  by_cases dv:k<n
  .go_wp2_with fail
   refine(MD hD (by omega)).mono ?_;rintro e w3 ⟨_,rfl,⟨s,rfl⟩,h3,g3⟩;have O3:AQ w.heap.size 112 4 Ag w3 _ ss:=Bq HO.out g3 Hp.out;have hz:w.heap.size<=w3.heap.size:=yB hG.size g3.size;go_wp2_with fail;refine(RD _ ss s w3 O3.rd).mono ?_;rintro e w4 ⟨v4,bb,rfl,⟨em,O4,eB⟩,b4⟩;cases bb
   .have HR:=AA (xZ (O3.below b4) (xZ (h3.below b4) (AP (AP hG g3) (AX b4 _))))
    clear cX O3 O4 h3 g3 b4 hD hG;go_wp2_with fail;go_roundw
    case rel=>exact⟨k+1,ss,by omega,by go_num,cG.out,HR.out.1,HR.out.2.1.mono (by omega),HR.out.2.2⟩
    case measure=>simp[intOf];omega
   .have HR:=AA (xZ (O4.lower hz) (xZ (h3.below b4) (AP (AP hG g3) (AX b4 _))))
    clear cX O3 O4 h3 g3 b4 hD hG;go_wp2_with fail;go_roundw
    case rel=>exact⟨k+1,em,by omega,by go_num,eB,HR.out.1,HR.out.2.1.mono (by omega),HR.out.2.2⟩
    case measure=>simp[intOf];omega
  .have eC:k<=7:=by omega
   go_wp2_with fail;refine(hD.pick _).mono ?_;rintro e w3 ⟨u,rfl,_,_,h3,g3⟩;have O3:AQ w.heap.size 112 4 Ag w3 _ ss:=Bq HO.out g3 Hp.out;have G3:=AP hG g3;clear hD hG HO g3;have HF:=AA (xZ O3 (xZ (h3.mono (M:=N+80) (by omega)) G3))
   by_cases u0:u=0
   .subst u0
    go_wp2_with fail;refine(MD h3 (by omega)).mono ?_;rintro e w4 ⟨_,rfl,⟨s,rfl⟩,h4,g4⟩;have O4:AQ w.heap.size 112 4 Ag w4 _ ss:=Bq O3 g4 Hp.out;have G4:=AP G3 g4;have hz:w.heap.size<=w4.heap.size:=G4.size;have dc:=AA O4;have HH:=AA (xZ h4 G4);clear O3 h3 G3 g4 O4 h4 G4;go_wp2_with (at_builtin;go_must (refine Bc (lo:=w.heap.size) (n:=ss.length) (xs:=Ci Ag ss) (m:=1) (news:=[.int .i64 s.e,.int .i64 s.p,.int .i64 s.f,.bool s.w]) rfl rfl 112 (.agg #[.int .i64 0,.int .i64 0,.int .i64 0,.bool false]) 4 32 underlying26 Tryz.zF rfl (by decide) rfl (Co dc.out (AE _ _)) rfl (Rd.zC _ #[.int .i64 s.e,.int .i64 s.p,.int .i64 s.f,.bool s.w] _ 4 1 _ (by simp) rfl (by simp[maxLen])) (by simp[xD]) (by unfold maxLen;omega) (by omega) (by simp;omega) ?_;intro o' w9 k1 k2 k3 k4));have o9:AQ w.heap.size 112 4 Ag w9 o' (ss++[s]):=by unfold AQ;rw[Bm,Er,yj];exact k1
    have ai:∀k,(xF oa ss.length oc).ownBlock=some k->w.heap.size<=k:=λk e=>(yq dc.out k e).1
    have D9:=(HH.out.1.alloc (.cells #[.int .i64 s.e,.int .i64 s.p,.int .i64 s.f,.bool s.w] 112)).keep k2 (λe=>by have:=ai g e;have:=Hp.out g rfl;omega) (λk e=>yB av (ai k e));have G9:=Nm (Gq HH.out.2 (.cells #[.int .i64 s.e,.int .i64 s.p,.int .i64 s.f,.bool s.w] 112)) k2 ai;have HF:=AA (xZ o9 (xZ (D9.mono (M:=N+80) (by omega)) G9));clear o9 D9 G9 k1 k2 k3 k4;go_wp2_with fail;go_ret;exact⟨_,rfl,⟨_,HF.out.1⟩,HF.out.2.1,HF.out.2.2⟩
   have t0:(u==0)=false:=by simp[u0]
   clear u0
   by_cases u0:u=1
   .subst u0
    clear O3 h3 G3;go_wp2_with (at_builtin;go_must (refine Bc (lo:=w.heap.size) (n:=ss.length) (xs:=Ci Ag ss) (m:=ss.length) (news:=Ci Ag ss) rfl rfl 112 (.agg #[.int .i64 0,.int .i64 0,.int .i64 0,.bool false]) 4 32 underlying26 Tryz.zF rfl (by decide) rfl HF.out.1 rfl (HF.out.1.rd) (Jo ss) (by unfold maxLen;omega) (by omega) (HF.out.2.2.size) ?_;intro o' w9 k1 k2 k3 k4));have o9:AQ w.heap.size 112 4 Ag w9 o' (ss++ss):=by unfold AQ;rw[Bm,yj];exact k1
    have ai:∀k,(xF oa ss.length oc).ownBlock=some k->w.heap.size<=k:=λk e=>(yq HF.out.1 k e).1
    have D9:=HF.out.2.1.keep k2 (λe=>by have:=ai g e;have:=Hp.out g rfl;omega) (λk e=>yB av (ai k e));have G9:=Nm HF.out.2.2 k2 ai;have HH:=AA (xZ o9 (xZ D9 G9));clear o9 D9 G9 k1 k2 k3 k4;go_wp2_with fail;go_ret;exact⟨_,rfl,⟨_,HH.out.1⟩,HH.out.2.1,HH.out.2.2⟩
   have t1:(u==1)=false:=by simp[u0]
   clear u0 O3 h3 G3;go_wp2_with fail;go_ret;exact⟨_,rfl,⟨_,HF.out.1⟩,HF.out.2.1,HF.out.2.2⟩
def Uo:List ByteArray:=[⟨#[98]⟩,⟨#[97]⟩,⟨#[97,98]⟩,⟨#[]⟩]
theorem aa{s:ByteArray}(hs:s∈Uo):DJ (Mu [[gA],[s],[gC]]):=by
 simp only[Uo,xA,wR,or_false] at hs
 rcases hs with rfl|rfl|rfl|rfl<;>exact EZ.1 (by kernel_rfl)
theorem V6{s:ByteArray}(hs:s∈Uo):∀ts∈[[gA],[s],[gC]],BQ ts=true:=by
 intro ts h;simp only[Uo,xA,wR,or_false] at hs h
 rcases h with rfl|rfl|rfl
 .decide+kernel
 .rcases hs with rfl|rfl|rfl|rfl<;>decide+kernel
 .decide+kernel
theorem Xg{s:ByteArray}(hs:s∈Uo):∀ts∈[[gA],[s],[gC]],DQ ts:=by
 intro ts h;simp only[Uo,xA,wR,or_false] at hs h
 rcases h with rfl|rfl|rfl<;>intro x hx<;>rw[List.mem_singleton] at hx<;>subst hx
 .decide
 .rcases hs with rfl|rfl|rfl|rfl<;>decide
 .decide
theorem Xr{w:World}{va vb vc:Value}{a b c:List ByteArray}(u:TypeId)(ha:BR w va a)(hb:BR w vb b)(hc:BR w vc c)(sa:∃x n k,va=.slice x n k)(sb:∃x n k,vb=.slice x n k)(sc:∃x n k,vc=.slice x n k):
 Li (w.alloc (.cells #[va,vb,vc] u)) (.slice (some ⟨w.heap.size,0,none⟩) 3 3) [a,b,c]:=by
 obtain⟨_,_,_,rfl⟩:=sa;obtain⟨_,_,_,rfl⟩:=sb;obtain⟨_,_,_,rfl⟩:=sc;refine⟨[_,_,_],Rd.zC _ #[_,_,_] u 1 3 _ (by simp) rfl (by simp[maxLen]),rfl,?_⟩;intro i x y hx hy
 match i,hx,hy with
 |0,hx,hy=>simp at hx hy;subst hx hy;exact ha.below (AE _ _)
 |1,hx,hy=>simp at hx hy;subst hx hy;exact hb.below (AE _ _)
 |2,hx,hy=>simp at hx hy;subst hx hy;exact hc.below (AE _ _)
theorem Qy{w0 w:World}{g N:Nat}(h:Dr w0 g N w)(hN:N<=400000):
 Calls prog 141 #[.pointer (some ⟨g,0,none⟩)] w (ba DJ w0 g (N+3000) w):=by
 have ac:=h.lt;have av:w0.heap.size<=w.heap.size:=h.2.1.size;go_in;go_wp2_with fail;obtain⟨B0,BA,b0,cf⟩:=Jy w (.cells #[.slice none 0 0,.slice none 0 0,.slice none 0 0,.slice none 0 0] 28) (.cells #[.string ⟨#[97]⟩] 9);go_wp2_with fail;generalize(w.alloc _).alloc _=wa at*;rw[<-cf];have h0:=h.below b0;refine(Nq wa.heap.size 4 Uo (h0.alloc _) (by omega) rfl (by decide) (by decide) (by have:=h0.lt;omega) (by simp) (λk hk=>J6 wa Uo _ hk)).mono ?_;rintro e w1 ⟨v,rfl,⟨s,hs,rfl⟩,h1,g1⟩;have g2:=AP (AX (AE wa (.cells #[.string ⟨#[98]⟩,.string ⟨#[97]⟩,.string ⟨#[97,98]⟩,.string ⟨#[]⟩] 9)) (some g)) g1;have el:=(g2.block _ (AW BA) (by simp;omega)).trans BA;have B1:=(g2.block _ (AW B0) (by simp;omega)).trans B0;have G1:=AP (AX b0 (some g)) g2;clear h0 g1 g2 BA B0 b0 h;obtain⟨NS,NC,b1,dW⟩:=Jy w1 (.cells #[.string s] 9) (.cells #[.string ⟨#[99]⟩] 9);have dq:=Xr 72 (show BR _ _ [⟨#[97]⟩] from Mz (AC el b1)) (show BR _ _ [s] from Mz NS) (show BR _ _ [⟨#[99]⟩] from Mz NC) ⟨_,_,_,rfl⟩ ⟨_,_,_,rfl⟩ ⟨_,_,_,rfl⟩;rw[dW] at dq;go_wp2_with fail;refine(Kw _ [[⟨#[97]⟩],[s],[⟨#[99]⟩]] _ dq rfl (V6 hs) (Xg hs)).mono ?_;rintro e w2 ⟨m,i,ev,c,rfl,O2,b2⟩;have ci:=b1.trans (((AE _ _).trans (b2.mono (AE _ _).size)).mono b1.size);obtain⟨⟨ma,mn,mc,rfl⟩,⟨ia,iN,ic,rfl⟩,⟨ea,en,ec,rfl⟩,⟨ca,cn,cc,rfl⟩⟩:=O2.zQ;have bK:=AE w2 (.cells #[.slice ma mn mc,.slice ia iN ic,.slice ea en ec,.slice ca cn cc] 28);have cS:w.heap.size<w2.heap.size:=by have:=AW B1;have:=ci.size;omega
 have St:Iz DJ w0 g (N+1) w w2.heap.size (w2.alloc (.cells #[.slice ma mn mc,.slice ia iN ic,.slice ea en ec,.slice ca cn cc] 28)):=⟨_,_,_,_,Mu [[⟨#[97]⟩],[s],[⟨#[99]⟩]],(h1.below ci).below bK,AP (AP G1 (AX ci _)) (AX bK _),yv _ _,(O2.sf.map (KE bK (by have:=b1.size;have:=(AE ((w1.alloc (.cells #[.string s] 9)).alloc (.cells #[.string ⟨#[99]⟩] 9)) (.cells #[.slice (some ⟨w.heap.size+1,0,none⟩) 1 1,.slice (some ⟨w1.heap.size,0,none⟩) 1 1,.slice (some ⟨w1.heap.size+1,0,none⟩) 1 1] 72)).size;have:=AW B1;omega))),aa hs,_,_,_,_,AC (AC B1 ci) bK⟩;clear O2 b2 ci dq NS NC b1 dW h1 G1 el B1 bK cf hs;go_wp2_with fail;generalize w2.alloc _=w3 at*;generalize w2.heap.size=b at*;refine(St.pk ac cS 5 (by omega) (by decide) (by decide)).mono ?_;rintro e w4 ⟨x,rfl,x0,x1,S4⟩;clear St;go_upto_if 24 with fail;go_cut [] (λwx=>Iz DJ w0 g (N+20) w b wx)
 case first=>
  by_cases hx:0<x
  .go_wp2_with fail
   refine(S4.pk ac cS 3 (by omega) (by decide) (by decide)).mono ?_;rintro e w5 ⟨y,rfl,y0,y1,S5⟩;clear S4;go_wp2_with fail;refine(M8 (1+y) w5 (by omega) (by omega)).mono ?_;rintro e w6 ⟨m1,i1,e1,c1,s1,l1,q1,rfl,O6,b6⟩;obtain⟨⟨⟨ma,mn,mc,rfl⟩,⟨ia,iN,ic,rfl⟩,⟨ea,en,ec,rfl⟩,⟨ca,cn,cc,rfl⟩⟩,⟨sa,sn,sc,rfl⟩,⟨la,ln,lc,rfl⟩,⟨qa,qn,qc,rfl⟩⟩:=O6.zQ;have co:ED (Us (1+y)):=Wl (by omega) (by omega);clear y0 y1;generalize Us (1+y)=P1 at*;unfold AO;have bB:=AE w6 (.cells #[.slice ma mn mc,.slice ia iN ic,.slice ea en ec,.slice ca cn cc,.slice sa sn sc,.slice la ln lc,.slice qa qn qc,.int .i64 P1.zR,.int .i64 P1.zU] 32);have cC:=b6.trans (bB.mono b6.size);have SK:=S5.below ac cS cC;obtain⟨_,_,_,_,_,h5,g5,B5,_,_,_⟩:=S5;have eI:=AW B5;have St:Kq w0 g (N+3) w (w6.alloc (.cells #[.slice ma mn mc,.slice ia iN ic,.slice ea en ec,.slice ca cn cc,.slice sa sn sc,.slice la ln lc,.slice qa qn qc,.int .i64 P1.zR,.int .i64 P1.zU] 32)) w6.heap.size _ _ _ _ _ _ _ P1 (w6.alloc (.cells #[.slice ma mn mc,.slice ia iN ic,.slice ea en ec,.slice ca cn cc,.slice sa sn sc,.slice la ln lc,.slice qa qn qc,.int .i64 P1.zR,.int .i64 P1.zU] 32)):=
    ⟨(h5.below cC).mono (by omega),AP g5 (AX cC _),yv _ _,O6.map (KE bB (by omega)),co,ac,av,by have:=b6.size;omega,yt _,λ_ _ _ _=>rfl⟩
   have eT:b<w6.heap.size:=by have:=b6.size;omega
   clear O6 b6 bB cC h5 g5 B5 co eI;go_wp2_with fail;generalize w6.alloc _=W1 at*;generalize w6.heap.size=b5 at*;refine(St.pk 4).mono ?_;rintro e w7 ⟨n,rfl,n0,n1,S7⟩;clear St;obtain⟨n,rfl⟩:=xW n0;have eS:n<4:=by omega
   clear n0 n1;go_wp2_with fail;go_loopw [8] (λi wr=>∃j:Nat,j<=n/\i=.int .i64 j/\Pf w0 g (N+4+2*j) w W1 b5 wr) (λi _=>n - (intOf i).toNat)
   case atStart=>exact⟨0,yh _,rfl,_,_,_,_,_,_,_,P1,S7⟩
   case round=>
    clear S7;obtain⟨j,hj,rfl,m1,i1,e1,c1,s1,l1,q1,Q,St⟩:=hrel;have du:=AW St.yK;obtain⟨⟨⟨ma,mn,mc,rfl⟩,⟨ia,iN,ic,rfl⟩,⟨ea,en,ec,rfl⟩,⟨ca,cn,cc,rfl⟩⟩,⟨sa,sn,sc,rfl⟩,⟨la,ln,lc,rfl⟩,⟨qa,qn,qc,rfl⟩⟩:=St.sf.zQ
    by_cases dZ:j<n
    .go_wp2_with fail
     obtain⟨N1,hN1⟩:∃M,M=N+4+2*j:=⟨_,rfl⟩
     rw[<-hN1] at St;obtain⟨c0,c1,c2,c3,c4,c5,c6,c7,c8⟩:=AD St.yK;have ad:=AW St.yK;refine JH (s:=10) (U:=λix vv=>match ix with
      |2=>Pk 64 vv
      |4=>Pk 99 vv
      |5=>∃x:Int,vv=.int .i64 x/\1<=x/\x<=99
      |6|7=>∃v,∃x:Bool,vv=.tuple #[v,.bool x]
      |_=>True) 11 68 1 2 [2,4] [.a #[.slice ma mn mc,.slice ia iN ic,.slice ea en ec,.slice ca cn cc,.slice sa sn sc,.slice la ln lc,.slice qa qn qc,.int .i64 Q.zR,.int .i64 Q.zU],.p g 0,.z,.p g 0,.z,.z,.z,.z,.z,.z,.u] (λix vv ww=>match ix with
      |6|7=>∃v,(∃x:Bool,vv=.tuple #[v,.bool x])/\OD (w.heap.size+1) ww v
      |8=>OD (w.heap.size+1) ww vv
      |9=>True
      |_=>True) (λww=>Pf w0 g (N1+2) w W1 b5 ww) St.dr ?_ ?_ ?_ ?_ ?_ (hst:=?_)
     .intro i hi hS o ho a wx Hb ll Hd HL hr K HK
      match i,hi,hS with
      |0,_,_=>have hW:=hr (by kernel_rfl);have dl:=gc hW ad (by omega) c0;have dk:=gc hW ad (by omega) c1;have dj:=gc hW ad (by omega) c2;have di:=gc hW ad (by omega) c3;have bk:=gc hW ad (by omega) c4;have dO:=gc hW ad (by omega) c5;have dN:=gc hW ad (by omega) c6;have dM:=gc hW ad (by omega) c7;have dJ:=gc hW ad (by omega) c8;exact Nl ho HK Hb Hd HL (hl:=Qz ‹_› ‹_› ‹_› ‹_› ‹_› ‹_› ‹_› ‹_› ‹_›)
      |1,_,_|3,_,_=>exact Wg ho HK Hb Hd HL
      |2,_,hs|4,_,hs|10,_,hs=>cases hs
      |5,_,_=>obtain rfl:=yF ho;have d4:(Pk 99 (a.tmps[44]?.getD undef))/\(ll 10=false->True):=DV Hd HL 4;obtain⟨⟨x4,d4,p2,p3⟩,_⟩:=d4;have cJ:=Ba HL 10;clear Hd Hb;refine yE ?_;go_simp;exact HK.out _ _ ⟨⟨_,by rw[IntWalk.i64_in _ (by omega)],by omega,by omega⟩,λ_=>trivial⟩ (yD _ _)
      |6,_,_=>obtain rfl:=yF ho;have d0:(a.tmps[40]?.getD undef)=.agg #[.slice ma mn mc,.slice ia iN ic,.slice ea en ec,.slice ca cn cc,.slice sa sn sc,.slice la ln lc,.slice qa qn qc,.int .i64 Q.zR,.int .i64 Q.zU]:=DV Hd HL 0;have d2:(Pk 64 (a.tmps[42]?.getD undef))/\(ll 10=false->True):=DV Hd HL 2;obtain⟨⟨x2,d2,p0,p1⟩,_⟩:=d2;have d5:(∃x:Int,(a.tmps[45]?.getD undef)=.int .i64 x/\1<=x/\x<=99)/\(ll 10=false->True):=DV Hd HL 5;obtain⟨⟨x5,d5,r0,r1⟩,_⟩:=d5;have cJ:=Ba HL 10;clear Hd Hb;have hW:=hr (by kernel_rfl);have cP:=St.sf.map (GN hW (by omega) (yt _));have dp:=hW.size;obtain⟨a2,rfl⟩:=xW p0;refine yE ?_;go_simp;refine(Km _ _ _ _ _ _ _ Q wx cP.rd St.good (a:=a2) (by omega) (x:=x5) (Ab.2 (by omega))).mono ?_;rintro e w_ ⟨m9,i9,e9,c9,s9,l9,q9,rfl,hO,cO⟩;exact HK.out _ _ ⟨⟨_,_,rfl⟩,λ_=>⟨_,⟨_,rfl⟩,hO.sf.pgR (Se St.good (by omega) (Ab.2 (by omega))) (by omega)⟩⟩ cO
      |7,_,_=>obtain rfl:=yF ho;have d6:(∃v,∃x:Bool,(a.tmps[46]?.getD undef)=.tuple #[v,.bool x])/\(ll 10=false->∃v,(∃x:Bool,(a.tmps[46]?.getD undef)=.tuple #[v,.bool x])/\OD (w.heap.size+1) wx v):=DV Hd HL 6;have cJ:=Ba HL 10;clear Hd Hb;have q:=d6.2 (Ba HL 10);obtain⟨v9,⟨x9,e9⟩,q⟩:=q;refine yE ?_;go_simp;exact HK.out _ _ ⟨⟨_,_,rfl⟩,λ_=>⟨_,⟨_,rfl⟩,q⟩⟩ (yD _ _)
      |8,_,_=>obtain rfl:=yF ho;have d7:(∃v,∃x:Bool,(a.tmps[39]?.getD undef)=.tuple #[v,.bool x])/\(ll 10=false->∃v,(∃x:Bool,(a.tmps[39]?.getD undef)=.tuple #[v,.bool x])/\OD (w.heap.size+1) wx v):=DV Hd HL 7;have cJ:=Ba HL 10;clear Hd Hb;have q:=d7.2 (Ba HL 10);obtain⟨v9,⟨x9,e9⟩,q⟩:=q;refine yE ?_;go_simp;exact HK.out _ _ ⟨trivial,λ_=>q⟩ (yD _ _)
      |9,_,_=>obtain rfl:=yF ho;have d7:(∃v,∃x:Bool,(a.tmps[39]?.getD undef)=.tuple #[v,.bool x])/\(ll 10=false->∃v,(∃x:Bool,(a.tmps[39]?.getD undef)=.tuple #[v,.bool x])/\OD (w.heap.size+1) wx v):=DV Hd HL 7;clear Hd Hb;obtain⟨v9,x9,e9⟩:=d7.1;refine yE ?_;go_simp;exact HK.out _ _ ⟨trivial,λ_=>trivial⟩ (yD _ _)
     .intro i hi hS o ho a wx Hb ll Hd HL hG K HK
      match i,hi,hS with
      |2,_,_=>exact fK (m:=64) ho HK Hb Hd HL hG (by omega)
      |4,_,_=>exact fK (m:=99) ho HK Hb Hd HL hG (by omega)
      |0,_,hs|1,_,hs|3,_,hs|5,_,hs|6,_,hs|7,_,hs|8,_,hs|9,_,hs|10,_,hs=>cases hs
     .intro o ho a wx Hb ll Hd HL hD hW K HK
      obtain rfl:=yF ho;have e5:a.tmps[5]?.getD undef=.pointer (some ⟨b5,0,none⟩):=eg (Oj Hb 5);have d8:(True)/\(ll 10=false->OD (w.heap.size+1) wx (a.tmps[47]?.getD undef)):=DV Hd HL 8;clear Hd Hb;have q:=d8.2 HL.out.1;obtain⟨m9,i9,e9,c9,s9,l9,q9,P9,e0,cm,cN⟩:=q;unfold AO at e0;obtain⟨⟨⟨va,vn,vc,rfl⟩,⟨wa,wn,wc,rfl⟩,⟨xa,xn,xc,rfl⟩,⟨ya,yn,yc,rfl⟩⟩,⟨ta,tn,tc,rfl⟩,⟨ua,un,uc,rfl⟩,⟨za,zn,zc,rfl⟩⟩:=cm.zQ;have S9:=(St.draw hD hW).put cm cN;have B9:=(St.draw hD hW).yK;obtain⟨c0,c1,c2,c3,c4,c5,c6,c7,c8⟩:=AD B9;have fq:=AK B9;refine yE ?_;go_simp;exact HK.out undef _ ⟨_,_,_,_,_,_,_,P9,S9⟩
     .exact λ_ _ hb h=>h.below hb
     rotate_left
     .intro i hi v ww dh hg hz
      match i,hi with
      |6,_|7,_=>exact(by obtain⟨v9,h1,h2⟩:=hz;exact⟨v9,h1,h2.past (by omega) hg⟩)
      |8,_=>exact(hz.past (by omega) hg)
      |9,_|0,_|1,_|2,_|3,_|4,_|5,_|10,_=>exact hz
     .intro vs wx ll hR hA
      clear hR;simp only[De,Bb,yC,yz,yy,yw];simp
      try generalize vs 0=z0
      try generalize vs 1=z1
      try generalize vs 2=z2
      try generalize vs 3=z3
      try generalize vs 4=z4
      try generalize vs 5=z5
      try generalize vs 6=z6
      try generalize vs 7=z7
      try generalize vs 8=z8
      try generalize vs 9=z9
      try generalize vs 10=z10
      go_wp2_with fail;go_roundw
      case rel=>exact⟨j+1,by omega,by go_num,by rw[show N+4+2*(j+1)=N1+2 from by omega];exact hA⟩
      case measure=>simp[intOf];omega
    .obtain⟨c0,c1,c2,c3,c4,c5,c6,c7,c8⟩:=AD St.yK
     obtain⟨_,_,_,_,_,_,_,B9,_,_,a0,a1,a2,a3,R9⟩:=SK;have eG:b≠g:=by omega
     have dT:=AW R9;have dg:=(St.kp b (AW B9) eG (by omega)).trans B9;have ei:=(St.kp w.heap.size (AW R9) (by omega) (by omega)).trans R9;obtain⟨d0,d1,d2,d3⟩:=AG dg;have fd:=AK dg;have HR:=AA (Iz.put (St.dr.mono (M:=N+20) (by omega)) St.gr dg (St.sf.1.map (λ_ _ _ _ _ _ _ x=>BO x (wv _))) St.good.k ac av cS ei);clear B9 R9 dg ei St;go_wp2_with fail;go_meet;exact HR.out
  .go_wp2_with fail
   go_meet;exact S4.mono (by omega)
 case rest=>
 clear S4 x0 x1;go_wp2_with fail;refine(hcut.pk ac cS 24 (by omega) (by decide) (by decide)).mono ?_;rintro e w5 ⟨n,rfl,n0,n1,S5⟩;clear hcut;obtain⟨n,rfl⟩:=xW n0;have dt:n<24:=by omega
 clear n0 n1;go_wp2_with fail;go_loopw [10] (λi wr=>∃j:Nat,j<=n/\i=.int .i64 j/\Iz DJ w0 g (N+21+20*j) w b wr) (λi _=>n - (intOf i).toNat)
 case atStart=>exact⟨0,yh _,rfl,S5⟩
 case round=>
  clear S5;obtain⟨j,hj,rfl,m1,i1,e1,c1,k,hd,dC,hB,cZ,hk,a0,a1,a2,a3,hR⟩:=hrel;obtain⟨⟨ma,mn,mc,rfl⟩,⟨ia,iN,ic,rfl⟩,⟨ea,en,ec,rfl⟩,⟨ca,cn,cc,rfl⟩⟩:=cZ.zQ;obtain⟨c0,c1,c2,c3⟩:=AG hB;have ad:=AW hB;have dS:=cS
  by_cases dZ:j<n
  .go_wp2_with fail
   obtain⟨N1,hN1⟩:∃M,M=N+21+20*j:=⟨_,rfl⟩
   rw[<-hN1] at hd;refine JH (s:=9) (U:=λix vv=>match ix with
    |3=>∃x:Aa,vv=.agg x.cs/\Kt x
    |4|5=>∃v,∃x y:Int,vv=.tuple #[v,.int .i64 x,.int .i64 y]
    |_=>True) 10 68 20 1 [3] [.a #[.slice ma mn mc,.slice ia iN ic,.slice ea en ec,.slice ca cn cc],.p g 0,.a #[.slice ma mn mc,.slice ia iN ic,.slice ea en ec,.slice ca cn cc],.z,.z,.z,.z,.z,.z,.u] (λix vv ww=>match ix with
    |4|5=>∃v,(∃x y:Int,vv=.tuple #[v,.int .i64 x,.int .i64 y])/\YH w.heap.size ww v
    |6=>YH w.heap.size ww vv
    |7|8=>True
    |_=>True) (λww=>Iz DJ w0 g (N1+20) w b ww) hd ?_ ?_ ?_ ?_ ?_ (hst:=?_)
   .intro i hi hS o ho a wx Hb ll Hd HL hr K HK
    match i,hi,hS with
    |0,_,_|2,_,_=>have hW:=hr (by kernel_rfl);have dl:=gc hW ad (by omega) c0;have dk:=gc hW ad (by omega) c1;have dj:=gc hW ad (by omega) c2;have di:=gc hW ad (by omega) c3;exact Nl ho HK Hb Hd HL (hl:=Np ‹_› ‹_› ‹_› ‹_›)
    |1,_,_=>exact Wg ho HK Hb Hd HL
    |3,_,hs|9,_,hs=>cases hs
    |4,_,_=>obtain rfl:=yF ho;have d0:(a.tmps[59]?.getD undef)=.agg #[.slice ma mn mc,.slice ia iN ic,.slice ea en ec,.slice ca cn cc]:=DV Hd HL 0;have d3:(∃x:Aa,(a.tmps[62]?.getD undef)=.agg x.cs/\Kt x)/\(ll 9=false->True):=DV Hd HL 3;obtain⟨⟨cl,d3,cT⟩,_⟩:=d3;have u9:=Ba HL 9;clear Hd Hb;have hW:=hr (by kernel_rfl);have cP:=cZ.map (GN hW ac (yt _));have dp:=hW.size;refine yE ?_;go_simp;refine(LI cP.rd hk cl ⟨cT.2.1,cT.2.2.1⟩ (by have:=cT.1;unfold maxLen;omega) (by have:=cT.2.2.2;omega)).mono ?_;rintro e w_ ⟨m9,i9,e9,c9,rfl,hO,cO⟩;exact HK.out _ _ ⟨⟨_,_,_,rfl⟩,λ_=>⟨_,⟨_,_,rfl⟩,m9,i9,e9,c9,_,rfl,hO.sf.map (λ_ _ _ _ _ _ _ x=>BO x (by omega)),Mi hk ⟨cT.2.1,by have:=cT.2.2.1;omega⟩⟩⟩ cO
    |5,_,_=>obtain rfl:=yF ho;have d4:(∃v,∃x y:Int,(a.tmps[63]?.getD undef)=.tuple #[v,.int .i64 x,.int .i64 y])/\(ll 9=false->∃v,(∃x y:Int,(a.tmps[63]?.getD undef)=.tuple #[v,.int .i64 x,.int .i64 y])/\YH w.heap.size wx v):=DV Hd HL 4;have u9:=Ba HL 9;clear Hd Hb;have q:=d4.2 (Ba HL 9);obtain⟨v9,⟨x9,y9,e9⟩,q⟩:=q;refine yE ?_;go_simp;exact HK.out _ _ ⟨⟨_,_,_,rfl⟩,λ_=>⟨_,⟨_,_,rfl⟩,q⟩⟩ (yD _ _)
    |6,_,_=>obtain rfl:=yF ho;have d5:(∃v,∃x y:Int,(a.tmps[58]?.getD undef)=.tuple #[v,.int .i64 x,.int .i64 y])/\(ll 9=false->∃v,(∃x y:Int,(a.tmps[58]?.getD undef)=.tuple #[v,.int .i64 x,.int .i64 y])/\YH w.heap.size wx v):=DV Hd HL 5;have u9:=Ba HL 9;clear Hd Hb;have q:=d5.2 (Ba HL 9);obtain⟨v9,⟨x9,y9,e9⟩,q⟩:=q;refine yE ?_;go_simp;exact HK.out _ _ ⟨trivial,λ_=>q⟩ (yD _ _)
    |7,_,_=>obtain rfl:=yF ho;have d5:(∃v,∃x y:Int,(a.tmps[58]?.getD undef)=.tuple #[v,.int .i64 x,.int .i64 y])/\(ll 9=false->∃v,(∃x y:Int,(a.tmps[58]?.getD undef)=.tuple #[v,.int .i64 x,.int .i64 y])/\YH w.heap.size wx v):=DV Hd HL 5;clear Hd Hb;obtain⟨v9,x9,y9,e9⟩:=d5.1;refine yE ?_;go_simp;exact HK.out _ _ ⟨trivial,λ_=>trivial⟩ (yD _ _)
    |8,_,_=>obtain rfl:=yF ho;have d5:(∃v,∃x y:Int,(a.tmps[58]?.getD undef)=.tuple #[v,.int .i64 x,.int .i64 y])/\(ll 9=false->∃v,(∃x y:Int,(a.tmps[58]?.getD undef)=.tuple #[v,.int .i64 x,.int .i64 y])/\YH w.heap.size wx v):=DV Hd HL 5;clear Hd Hb;obtain⟨v9,x9,y9,e9⟩:=d5.1;refine yE ?_;go_simp;exact HK.out _ _ ⟨trivial,λ_=>trivial⟩ (yD _ _)
   .intro i hi hS o ho a wx Hb ll Hd HL hG K HK
    match i,hi,hS with
    |3,_,_=>exact fR (Pv:=λv _=>∃x:Aa,v=.agg x.cs/\Kt x) ho HK Hb Hd HL hG (λM hM hD hW=>OR (.slice ma mn mc) (.slice ia iN ic) (.slice ea en ec) (.slice ca cn cc) k.zZ hD (by omega) (λw' hg=>(cZ.map (GN (AP hW hg) ac (yt _))).rd.2.1) (Nat.le_of_eq hk.len)) (hR:=λ_ _ h=>⟨h,trivial⟩)
    |0,_,hs|1,_,hs|2,_,hs|4,_,hs|5,_,hs|6,_,hs|7,_,hs|8,_,hs|9,_,hs=>cases hs
   .intro o ho a wx Hb ll Hd HL hD hW K HK
    obtain rfl:=yF ho;have e3:a.tmps[3]?.getD undef=.pointer (some ⟨b,0,none⟩):=eg (Oj Hb 3);have d6:(True)/\(ll 9=false->YH w.heap.size wx (a.tmps[64]?.getD undef)):=DV Hd HL 6;clear Hd Hb;have q:=d6.2 HL.out.1;obtain⟨m9,i9,e9,c9,k9,e0,cm,cN⟩:=q;obtain⟨⟨va,vn,vc,rfl⟩,⟨wa,wn,wc,rfl⟩,⟨xa,xn,xc,rfl⟩,⟨ya,yn,yc,rfl⟩⟩:=cm.zQ;have bp:=(hW.block b ad (by simp;omega)).trans hB;have eJ:=(hW.block _ (AW hR) (by simp;omega)).trans hR;obtain⟨c0,c1,c2,c3⟩:=AG bp;have fq:=AK bp;refine yE ?_;go_simp;exact HK.out undef _ (Iz.put hD (AP dC hW) bp cm cN ac av dS eJ)
   .exact λ_ _ hb h=>h.below ac dS hb
   rotate_left
   .intro i hi v ww dh hg hz
    match i,hi with
    |4,_|5,_=>exact(by obtain⟨v9,h1,h2⟩:=hz;exact⟨v9,h1,h2.past ac hg⟩)
    |6,_=>exact(hz.past ac hg)
    |7,_|8,_|0,_|1,_|2,_|3,_|9,_=>exact hz
   .intro vs wx ll hR hA
    clear hR;simp only[De,Bb,yC,yz,yy,yw];simp
    try generalize vs 0=z0
    try generalize vs 1=z1
    try generalize vs 2=z2
    try generalize vs 3=z3
    try generalize vs 4=z4
    try generalize vs 5=z5
    try generalize vs 6=z6
    try generalize vs 7=z7
    try generalize vs 8=z8
    try generalize vs 9=z9
    go_wp2_with fail;go_roundw
    case rel=>exact⟨j+1,by omega,by go_num,by rw[show N+21+20*(j+1)=N1+20 from by omega];exact hA⟩
    case measure=>simp[intOf];omega
  .obtain⟨d0,d1,d2,d3⟩:=AG hR
   have de:=AK hR;obtain⟨BX,FX⟩:=aY (ok:=DJ) (M:=N+3000) hd dC cZ hk ac av hR (by omega);have BH:=AA BX;have FH:=AA FX;clear BX FX hB hd dC cZ hR hk;go_wp2_with fail;exact yk (v:=.agg #[_,_,_,_]) (by simp[results,Tryz.results141,go_sem,AG BH.out]) rfl FH.out
theorem Sc{xs:List AU}{f:Nat}{y:AU}(h:IF xs)(hy:y.g.size<=maxLen):IF (xs.set f y):=by
 intro x hx
 rcases List.mem_or_eq_of_mem_set hx with h1|h1
 .exact h x h1
 .subst h1;exact hy
theorem QQ{es:List EU}{j:Nat}{f:EU->EU}(h:∀i,i<es.length->DQ (AJ es i).zT)(hf:∀e,DQ e.zT->DQ (f e).zT):∀i,i<(As es j f).length->DQ (AJ (As es j f) i).zT:=by
 intro i hi;rw[Cz] at hi;rw[GK]
 split
 .rename_i e
  exact hf _ (h j e.2)
 .exact h i hi
theorem WQ{es:List EU}{n:Nat}(h:∀i,i<es.length->DQ (AJ es i).zT):∀i,i<(es.take n).length->DQ (AJ (es.take n) i).zT:=by
 intro i hi;rw[xT] at hi;have e:AJ (es.take n) i=AJ es i:=by unfold AJ;rw[xR,xR,uD,if_pos (by omega)]
 rw[e];exact h i (by omega)
section
variable {lo g:Nat} {w w':World} {m i e c:Value} {k:AN}
theorem Im.putWord(h:Im lo w g m i e c k)(ay:Bs k.mem=true){f:Nat}(hf:f<12):
 ∃gm capm gw ct,m=.slice (some ⟨gm,0,none⟩) 12 capm/\gm<w.heap.size/\lo<=gm/\w.cell? ⟨gm,f,none⟩=some (.slice (some ⟨gw,0,none⟩) 4 ct)/\lo<=gw/\
  ∀W q,w.grownBy W (some q)->q<lo->Im lo W g m i e c k->(∀j,W.frozen? ⟨gw,j,none⟩=false)/\gw<W.heap.size/\(∀j,j<4->∃u,W.cell? ⟨gw,j,none⟩=some u)/\∀j v,Im lo (W.setCell ⟨gw,j,none⟩ (.int .i64 v)) g m i e c {k with mem:=k.mem.set f ((AH k.mem f).set j v)}/\W.grownBy (W.setCell ⟨gw,j,none⟩ (.int .i64 v)) (some gw):=by
 obtain⟨gm,bq,gw,ct,vs,rfl,eF,_,hc,hl,aq,h1,h2,o,hu,hx⟩:=h.zd ay hf;have h4:=(A3.1 ((Ai.1 ay).2 f hf)).1;refine⟨gm,bq,gw,ct,rfl,eF,(yq o.1 gm rfl).1,hc,aq,λW q hg hq hI=>?_⟩;have hp:∀b',some q=some b'->b'<lo:=λb' e=>by cases e;exact hq
 have er:w.ownsRow lo 3 1 (.slice (some ⟨gw,0,none⟩) 4 ct) 4 ((AH k.mem f).map (Value.int .i64)):=by have:=hx;unfold AF at this;rwa [h4] at this
 have dd:=Bq er hg hp;refine⟨λq=>World.ownsRow.frozenAt dd q,(yq dd gw rfl).2,λj hj=>?_,λj v=>?_⟩
 .rw[World.ownsRow.cellAt dd j hj,List.getElem?_map,yu (by omega)]
  exact⟨_,rfl⟩
 have S:=World.ownsRow.stored dd j (.int .i64 v);have hO:AF lo (W.setCell ⟨gw,j,none⟩ (.int .i64 v)) (.slice (some ⟨gw,0,none⟩) 4 ct) ((AH k.mem f).set j v):=by unfold AF;rw[xS,h4,List.map_set];exact S.1
 exact⟨hI.row ⟨Bq o.1 hg hp,o.2.1.mono λ_ _ x=>Bq x hg hp,o.2.2⟩ (by rw[(Ai.1 ay).1];exact hf) hu hO S.2,S.2⟩
theorem Im.infoPut{gi n:Nat}(h:Im lo w g m (.slice (some ⟨gi,0,none⟩) n bq) e c k)(hn:n=k.zZ.length){f:Nat}(hf:f<k.zZ.length)(y:AU):
 Im lo (((w.setCell ⟨gi,f*3,none⟩ (.int .i64 y.k)).setCell ⟨gi,f*3+1,none⟩ (.string y.g)).setCell ⟨gi,f*3+2,none⟩ (.int .i64 y.r)) g m (.slice (some ⟨gi,0,none⟩) n bq) e c {k with zZ:=k.zZ.set f y}/\w.grownBy (((w.setCell ⟨gi,f*3,none⟩ (.int .i64 y.k)).setCell ⟨gi,f*3+1,none⟩ (.string y.g)).setCell ⟨gi,f*3+2,none⟩ (.int .i64 y.r)) (some gi)/\lo<=gi:=by
 have hx:k.zZ[f]?=some k.zZ[f]:=yu hf;obtain⟨a1,a2,a3⟩:=h.info hn hx (j:=0) (by decide) (y:= {k.zZ[f] with k:=y.k}) (u:=.int .i64 y.k) rfl;have dQ:({k with zZ:=k.zZ.set f {k.zZ[f] with k:=y.k}}:AN).zZ[f]?=some {k.zZ[f] with k:=y.k}:=xI hf;obtain⟨b1,b2,_⟩:=a1.info (by simpa using hn) dQ (j:=1) (by decide) (y:= {k.zZ[f] with k:=y.k,g:=y.g}) (u:=.string y.g) rfl;have eu:({k with zZ:=(k.zZ.set f {k.zZ[f] with k:=y.k}).set f {k.zZ[f] with k:=y.k,g:=y.g}}:AN).zZ[f]?=some {k.zZ[f] with k:=y.k,g:=y.g}:=xI (by simpa using hf);obtain⟨c1,c2,_⟩:=b1.info (by simpa using hn) eu (j:=2) (by decide) (y:=y) (u:=.int .i64 y.r) rfl;refine⟨?_,AP (AP a2 b2) c2,a3⟩;have e:((k.zZ.set f {k.zZ[f] with k:=y.k}).set f {k.zZ[f] with k:=y.k,g:=y.g}).set f y=k.zZ.set f y:=by simp
 rw[<-e];exact c1
theorem Im.rightsSf{ge n:Nat}(h:Im lo w g m i (.slice (some ⟨ge,0,none⟩) n bq) c k)(hn:n=k.zX.length){j:Nat}(hj:j<k.zX.length){u:Value}{ss:List ByteArray}(hu:AQ lo 9 1 BB w u ss):
 (w.setCell ⟨ge,j*2,none⟩ u).heap[g]?=some (.cells #[m,i,.slice (some ⟨ge,0,none⟩) n bq,c] 28 (0,0))/\Og lo (w.setCell ⟨ge,j*2,none⟩ u) m i (.slice (some ⟨ge,0,none⟩) n bq) c {k with zX:=As k.zX j (BU ss)}/\w.grownBy (w.setCell ⟨ge,j*2,none⟩ u) (some ge)/\lo<=ge:=by
 obtain⟨hB,hg,⟨vs,o1⟩,o2,⟨cK,a1,b2,b3⟩,o4⟩:=h;have dX:cK.length=k.zX.length:=b2.1;rw[<-dX] at hn;subst hn;have dz:j<cK.length:=by omega
 have S:=AQ.zx Fc a1 (k:=j) (x:=cK[j]) (yu dz) (j:=0) (by decide) (y:=(u,cK[j].2)) (u:=u) rfl;rw[Nat.add_zero] at S;obtain⟨ee,hc⟩:=A6 a1 ge rfl;have cx:9≠74:=by decide
 have dI:=o1.yL S.2 hc;refine⟨KP hB S.2 hc (by decide),⟨⟨vs,dI.1,dI.2.1⟩,o2.yL S.2 hc,⟨cK.set j (u,cK[j].2),?_,⟨?_,?_⟩⟩,o4.yL S.2 hc⟩,S.2,(yq a1 ge rfl).1⟩
 .have:=S.1
  unfold AQ;rw[xS];have h5:=this;unfold AQ at h5;rw[xS] at h5;exact h5
 .rw[xS,Cz];exact dX
 .intro q p ev hp cy
  rw[JM (d:=⟨[],0⟩)] at cy
  by_cases e:j=q
  .subst e
   rw[xI dz] at hp;rw[xI hj] at cy;cases hp;cases cy;have hx:=b2.2 j cK[j] (k.zX.getD j ⟨[],0⟩) (yu dz) (A1 hj);exact⟨hu.yL S.2 hc cx,hx.2⟩
  .rw[List.getElem?_set_ne e] at hp cy
   have hx:=b2.2 q p ev hp cy;exact⟨hx.1.yL S.2 hc cx,hx.2⟩
theorem Rl{α:Type}{cs:α->List Value}{sz:Nat}(hs:∀x,(cs x).length=sz)(xs:List α)(n:Nat):Ci cs (xs.take n)=(Ci cs xs).take (n*sz):=by
 induction xs generalizing n with
 |nil=>simp[Ci]
 |cons x xs ih=>
  cases n with
  |zero=>simp[Ci]
  |succ n=>rw[List.take_succ_cons,IG,IG,ih,show(n+1)*sz=(cs x).length+n*sz by rw[hs,Nat.succ_mul,Nat.add_comm],List.take_length_add_append]
theorem ZA{α:Type}{cs:α->List Value}{sz e g n x:Nat}{xs:List α}(hs:∀x,(cs x).length=sz)(h:AQ lo e sz cs w (.slice (some ⟨g,0,none⟩) n bq) xs)(hn:n=xs.length)(hx:x<=n):AQ lo e sz cs w (.slice (some ⟨g,0,none⟩) x bq) (xs.take x):=by
 subst hn;have hl:(xs.take x).length=x:=by rw[xT];omega
 obtain⟨h1,h2⟩:=h;unfold AQ;rw[hl]
 rcases h2 with⟨h3,_⟩|⟨g',cap',ee,h3,h4,h5,h6,h7,h8,h9⟩
 .cases h3
 .simp only[Value.slice.injEq,Option.some.injEq,Addr.mk.injEq,true_and,and_true] at h3
  obtain⟨rfl,rfl⟩:=h3;refine⟨?_,.inr ⟨g,bq,ee,rfl,h4,h5,by omega,h7,h8,?_⟩⟩
  .rw[Rl hs,xT,h1]
   exact sH (vE sz hx)
  .rw[Rl hs,<-h9,List.take_take,sH (vE sz hx)]
theorem Og.cutEnvs{ge n x:Nat}(h:Og lo w m i (.slice (some ⟨ge,0,none⟩) n bq) c k)(hn:n=k.zX.length)(hx:x<=n):Og lo w m i (.slice (some ⟨ge,0,none⟩) x bq) c {k with zX:=k.zX.take x}:=by
 obtain⟨h1,h2,⟨ps,h3,h4⟩,h5⟩:=h;refine⟨h1,h2,⟨ps.take x,ZA Fc h3 (hn.trans h4.1.symm) hx,?_,λj p ev hp cy=>?_⟩,h5⟩
 .rw[xT,xT,h4.1]
 .rw[uD] at hp cy
  split at hp
  .rename_i hj
   rw[if_pos hj] at cy;exact h4.2 j p ev hp cy
  .cases hp
end
end Go.Proofs.YtpdjjjdkhedibaaGreatDoor
