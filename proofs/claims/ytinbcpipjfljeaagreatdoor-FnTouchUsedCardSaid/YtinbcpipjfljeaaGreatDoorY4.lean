/-
  Packed:16 texts.
-/
import Derived.Test.YtinbcpipjfljeaaGreatDoorY3
import Derived.Test.YtinbcpipjfljeaaGreatDoorY1
import Derived.Test.YtinbcpipjfljeaaGreatDoorY2
set_option linter.unusedVariables false
set_option linter.unusedSimpArgs false
set_option maxHeartbeats 16000000
set_option maxRecDepth 100000
open Go Go.Proofs.YtinbcpipjfljeaaGreatDoor
open And renaming intro->ye
open Bool renaming and_eq_true->yt,eq_iff_iff->wF,or_eq_true->xv
open Go.Builtin renaming clear_->uC,zeroCells->xN
open Go.RowKit.Below renaming refl->yF
open Go.Value renaming int->yf,oneCell'->xE
open Go.Value.slice renaming injEq->xD
open Go.World renaming block_lt_of_cell?->yC
open Go.World.ownsRow renaming cellAt->xC,frozenAt->xP,lt->yr,stored->wA
open Go renaming cell_of_row->yi,cell_regrown->yb,heap_alloc_new->yw,heap_setCell_same->yu
open List renaming all_eq_false->wk,all_eq_true->yk,append_nil->sZ,contains_iff_mem->uT,drop_eq_getElem_cons->um,drop_eq_nil_of_le->ud,foldl_cons->yA,foldl_nil->yy,getD_eq_getElem?_getD->xU,getElem?_eq_getElem->yx,getElem?_eq_none->tT,getElem?_eq_some_iff->yq,getElem?_map->wQ,getElem?_of_mem->xA,getElem?_set->vm,getElem?_set_ne->wI,getElem?_set_self->xK,getElem_of_mem->wO,length_append->yl,length_cons->vw,length_drop->vZ,length_nil->wP,length_replicate->vU,length_set->xV,length_singleton->xO,map_append->xH,map_set->tZ,mem_flatMap->wS,mem_map->vH,mem_of_getElem?->yg,mem_range->yj,range->yE,replicate->xX,set_eq_of_length_le->ug,takeWhile_cons->tK,take_length->xt,take_of_length_le->wv
open List.range renaming loop->yB
open Nat renaming add_zero->xQ,le_refl->yv,le_trans->yD,lt_of_lt_of_le->xZ,mul_comm->tU,mul_one->vV,zero_add->uU
open Ne renaming symm->wH
open Option renaming map_eq_some_iff->uh
variable {l:List AU} {b f ge gi n:Nat} {s:ByteArray} {ss ts:List ByteArray} {u v:Value} {vs:List Value} {w':World} {r:List Int} {es:List EN}
namespace Go.Proofs.YtinbcpipjfljeaaGreatDoor
open Go.Proofs.Tryz
open Go.RowKit
theorem Wx {α:Type} {cs:α->List Value} {sz:Nat} (hs:∀x,(cs x).length=sz) {xs:List α} {k j:Nat} {x y:α} {u:Value} (hk:xs[k]? =some x) (hj:j<sz) (hy:cs y=(cs x).set j u):
 (Ch cs xs).set (k*sz+j) u=Ch cs (xs.set k y):=by
 have h1:=UB hs (yq.1 hk).1 y;rw[<-h1];refine List.ext_getElem? fun i=>?_
 obtain⟨ay,hx⟩:=yq.1 hk;have hb:k*sz+sz<=xs.length*sz:=by rw[<-Nat.succ_mul];exact Nat.mul_le_mul_right _ ay
 rw[h1,vm,Jv hs]
 by_cases hi:i<xs.length*sz
 .have hz:0<sz:=by omega
  have cV:i/sz<xs.length:=Nat.div_lt_of_lt_mul (by rw[tU];exact hi);have b9:=Nat.mod_lt i hz;have c4:i/sz*sz+i%sz=i:=by rw[tU];exact Nat.div_add_mod i sz
  have ha:(Ch cs xs)[i]? =(cs xs[i/sz])[i%sz]? :=by have:=Oa hs (yx cV) b9;rw[c4] at this;exact this
  have bV:(Ch cs (xs.set k y))[i]? =(cs ((xs.set k y)[i/sz]'(by rw[xV];exact cV)))[i%sz]? :=by have:=Oa hs (yx (l:=xs.set k y) (i:=i/sz) (by rw[xV];exact cV)) b9;rw[c4] at this;exact this
  rw[ha,bV,List.getElem_set]
  by_cases e:k=i/sz
  .subst e
   rw[if_pos rfl,hy,vm,hx,hs]
   by_cases e2:j=i%sz
   .subst e2;rw[if_pos c4,if_pos (by omega),if_pos rfl,if_pos b9]
   .rw[if_neg (by omega),if_neg e2]
  .rw[if_neg e]
   have:¬k*sz+j=i:=by intro h;apply e;rw[<-h,tU,Nat.mul_add_div hz,Nat.div_eq_of_lt hj,xQ]
   rw[if_neg this]
 .rw[tT (by rw[Jv hs];omega),tT (by rw[Jv hs,xV];omega),if_neg (by omega)]
section
variable {α:Type} {lo e sz:Nat} {cs:α->List Value} {w:World} {g ab k j:Nat} {xs:List α}
theorem AP.zz (hs:∀x,(cs x).length=sz) (h:AP lo e sz cs w (.slice (some ⟨g,0,none⟩) xs.length ab) xs) {x y:α} {u:Value} (hk:xs[k]? =some x) (hj:j<sz) (hy:cs y=(cs x).set j u):
 AP lo e sz cs (w.setCell ⟨g,k*sz+j,none⟩ u) (.slice (some ⟨g,0,none⟩) xs.length ab) (xs.set k y)/\w.grownBy (w.setCell ⟨g,k*sz+j,none⟩ u) (some g):=by
 obtain⟨h1,h2⟩:=wA h (k*sz+j) u;rw[Wx hs hk hj hy] at h1;refine⟨?_,h2⟩;unfold AP;rw[xV];exact h1
end
theorem Ci {k:Nat} (h:k<l.length):l[k]? =some (zU l k):=by simp[zU,h]
theorem KM {k:Nat} {f:AU->AU}:Ar l k f=l.set k (f (zU l k)):=JD
theorem Jo (h:BN s=true):s.size<=4:=by unfold BN at h;simp only[yt,decide_eq_true_eq] at h;exact h.2
theorem Gw {x:AU} (h:DH x=true):x.g.size<=maxLen/\0<=x.r/\x.r<=50:=by
 unfold DH at h;simp only[xv,decide_eq_true_eq,yt,Ac] at h
 rcases h with rfl|⟨⟨_,h1⟩,h2⟩
 .exact⟨by simp[AU.zero,ByteArray.size],by simp[AU.zero],by simp[AU.zero]⟩
 .exact⟨yD (Jo h1) (by decide),h2.1,h2.2⟩
theorem Rs (h:∀f,f<l.length->(zU l f).g.size<=maxLen):Hz l:=by intro x hx;obtain⟨i,hi,rfl⟩:=wO hx;have:=h i hi;simpa[zU,hi] using this
theorem Cb (h:BK l=true):Hz l:=Rs fun f hf=>(Gw ((A0.1 h).2 f (by have:=(A0.1 h).1;omega))).1
theorem LG {Os:List AU} (h:BK Os=true) {fs:List Nat} (eA:fs.length<=4) {n:Int} (hn:n=1∨n= -1) {g:Nat} (hg:g<12):
 -4<=(zU (Bg Os fs n) g).r/\(zU (Bg Os fs n) g).r<=54/\(zU (Bg Os fs n) g).g.size<=maxLen:=by
 obtain⟨hl,h2⟩:=A0.1 h;obtain⟨a,b,c⟩:=Gw (h2 g hg);rw[Mm (by omega)];have:=List.count_le_length (a:=g) (l:=fs);refine⟨?_,?_,a⟩
 .show -4<=_+n*_
  rcases hn with rfl|rfl<;>omega
 .show _+n*_<=54
  rcases hn with rfl|rfl<;>omega
theorem aM {m:List (List Int)} {Os:List AU} {kind:Int}:Gz m Os f kind ss=
 if(zU Os f).k≠1∨(zU Os f).r≠0 then(Os,1)
 else if Im m Os f kind ss=false then(Os,2)
 else if BK (Ar (Bg Os (named (AH m f)) 1) f (EJ kind)) then(Ar (Bg Os (named (AH m f)) 1) f (EJ kind),0) else(Os,1):=rfl
theorem ZD {m:List (List Int)} {Os:List AU}:Di m Os f=
 if Bb (zU Os f).k=false∨(zU Os f).r≠0 then(Os,1)
 else if BK (Ar (Bg Os (named (AH m f)) (-1)) f (EJ 1)) then(Ar (Bg Os (named (AH m f)) (-1)) f (EJ 1),0) else(Os,2):=rfl
theorem PY {m:List (List Int)} (h:Bs m=true) {f:Nat} (hf:f<12):(named (AH m f)).length<=4:=by have h1:=FB (r:=AH m f);have h2:=(A5.1 ((Ah.1 h).2 f hf)).1;omega
theorem Rt {m:List (List Int)} {Os:List AU} {kind n:Int} (hm:Bs m=true) (h:BK Os=true) (hf:f<12) (hn:n=1∨n= -1):Hz (Ar (Bg Os (named (AH m f)) n) f (EJ kind)):=by
 refine Rs fun g hg=>?_
 rw[Cy,Nf,(A0.1 h).1] at hg;have h1:=(LG h (PY hm hf) hn hg).2.2;rw[FR]
 split
 .exact(LG h (PY hm hf) hn hf).2.2
 .exact h1
def U8 (r:List AU×Int) (w:World) (e:Ending) (w':World):Prop:=∃v',e= .returned (.tuple #[v', .int .i64 r.2])/\AP w.heap.size 93 3 A2 w' v' r.1/\Below w.heap.size w w'
theorem Tryz.yZ:(prog.info? 29).map (fun i=>(i.zero,i.size,i.bytes))=some (some (.slice none 0 0),1,24):=by kernel_rfl
theorem LP:29≠3:=by decide
theorem J1 {lo e sz B:Nat} {w:World} {xs:List Value} (h:w.ownsRow lo e sz v n xs) (hu:∀k,u.ownBlock=some k->w.heap.size<=k):Fa v u:=by intro k hk dG;have h1:=(h.lt k hk).2;have h2:=hu k dG;omega
theorem At.push {lo:Nat} {w w1 w2:World} {v':Value} {cR:List (List Int)} {x:List Int}
 (h:At lo w v vs cR) (hb:Below w.heap.size w w1) (aq:lo<=w.heap.size) (hu:AG w.heap.size w1 u x)
 (h1:w2.ownsRow lo 29 1 v' (vs.length+1) (Ch F3 vs++[u])) (h2:w1.grownBy w2 v.ownBlock):At lo w2 v' (vs++[u]) (cR++[x]):=by
 obtain⟨a1,a2,a3⟩:=h;have bm:=a1.below hb;refine⟨?_,Fb.snoc (a2.mono fun y ys hy=>?_) ?_,DF.snoc a3 fun y hy=>?_⟩
 .unfold AP
  rw[Bl,El,yl];exact h1
 .have bs:=hy.below hb
  exact Au bs h2 (A7 bs bm (wH LP)).ne
 .exact Au (BR hu aq) h2 (A7 hu bm (wH LP)).ne
 .obtain⟨i,hi⟩:=xA hy
  obtain⟨ys,b5⟩:∃ys,cR[i]? =some ys:=⟨_,yx (by rw[<-a2.1];exact(yq.1 hi).1)⟩
  exact J1 (B:=0) (a2.2 i y ys hi b5) (fun k hk=>(hu.lt k hk).1)
def M6 (n:Nat):List (List Int):=xX n [0,0,0,0]
theorem XL (w:World):
 Calls prog 180 #[] w fun e w'=>∃v vs,e= .returned v/\At w.heap.size w' v vs (M6 12)/\Below w.heap.size w w':=by
 go_in;go_wp2_with fail;go_loopw [1,2] (fun o i wr=>∃k:Nat,∃vs:List Value,k<=12/\vs.length=k/\i= .int .i64 k/\At w.heap.size wr o vs (M6 k)/\Below w.heap.size w wr) (fun _ i _=>12 - (intOf i).toNat)
 case atStart=>exact⟨0,[],by omega,rfl,rfl,⟨Cp _ _ _,Fb.nil,DF.nil⟩,AD _ _⟩
 case round=>
  obtain⟨k,vs,hk,hl,rfl,hO,ad⟩:=hrel;have Hl:=AA hl;clear hl
  by_cases ay:k<12
  .have eq:vs.length<=12:=by rw[Hl.out];omega
   go_wp2_with (first|(at_make;go_must (refine Of (n:=4) rfl rfl 3 (.int .i64 0) 8 underlying29 Tryz.zK rfl rfl (by omega) (by unfold maxLen;omega) ?_;intro w2 cS al bC))|(at_builtin;go_must (refine Be (lo:=w.heap.size) (n:=vs.length) (xs:=Ch F3 vs) (m:=1) (news:=[.slice (some ⟨wr.heap.size,0,none⟩) 4 4]) rfl rfl 29 (.slice none 0 0) 1 24 underlying23 Tryz.yZ rfl (by decide) rfl ((hO.below al).below (AD _ _)).1 rfl (Rd.zE _ #[_] _ 1 1 _ (by simp) rfl (by simp[maxLen])) (by simp[xE]) (by unfold maxLen;omega) (by omega) (by have:=ad.size;simp;omega) ?_;intro o' w3 g1 g2 g3 g4)));go_roundw
   case rel=>have hu:AG wr.heap.size w2 (.slice (some ⟨wr.heap.size,0,none⟩) 4 4) [0,0,0,0]:=cS;have an:=al.trans ((AD w2 (.cells #[.slice (some ⟨wr.heap.size,0,none⟩) 4 4] 29)).mono al.size);have hP:=hO.push an ad.size (hu.below (AD _ _)) g1 g2;refine⟨k+1,vs++[.slice (some ⟨wr.heap.size,0,none⟩) 4 4],by omega,by rw[yl,Hl.out];rfl,by go_num,?_,(ad.trans (an.mono ad.size)).trans g4⟩;rw[show M6 (k+1)=M6 k++[[0,0,0,0]] by simp[M6,List.replicate_succ']];exact hP
   case measure=>simp[intOf];omega
  .obtain rfl:k=12:=by omega
   go_wp2_with fail;go_ret;exact⟨_,vs,rfl,hO,ad⟩
theorem Tryz.yY:(prog.info? 9).map (fun i=>(i.zero,i.size,i.bytes))=some (some (.string ⟨#[]⟩),1,16):=by kernel_rfl
theorem Tryz.yT:(prog.info? 62).map (fun i=>(i.zero,i.size,i.bytes))=some (some (.agg #[.slice none 0 0, .int .i64 0]),2,32):=by kernel_rfl
theorem Yo {ts:List ByteArray}:∀u∈Ch BB ts,u.oneCell'=true:=by intro u hu;obtain⟨s,_,hs⟩:=wS.1 hu;simp[BB] at hs;subst hs;rfl
theorem BJ.keep {α:Type} {sz:Nat} {cs:α->List Value} {w:World} {xs:List α} (h:BJ sz cs w v xs) (hk:∀k,k<w.heap.size->w'.heap[k]? =w.heap[k]?):BJ sz cs w' v xs:=Rd.keep h hk
theorem DA.push {lo lo':Nat} {w w1 w2:World} {v' r:Value} {ps:List (Value×Int)} {n:Int}
 (h:DA lo w v ps es) (hb:Below w.heap.size w w1) (aq:lo<=lo') (cU:w.heap.size<=lo') (hr:AP lo' 9 1 BB w1 r ts)
 (h1:w2.ownsRow lo 62 2 v' (ps.length+1) (Ch EX ps++[r, .int .i64 n])) (h2:w1.grownBy w2 v.ownBlock):DA lo w2 v' (ps++[(r,n)]) (es++[⟨ts,n⟩]):=by
 obtain⟨a1,a2,a3⟩:=h;have bm:=a1.below hb;have a8:9≠62:=by decide
 refine⟨?_,Fb.snoc (a2.mono fun y ys hy=>⟨?_,hy.2⟩) ⟨?_,rfl⟩,?_⟩
 .unfold AP
  rw[Bl,El,yl];exact h1
 .have bs:=hy.1.below hb
  exact Au bs h2 (A7 bs bm a8).ne
 .exact Au (BR hr aq) h2 (A7 hr bm a8).ne
 .rw[xH]
  refine DF.snoc a3 fun y hy=>?_
  obtain⟨p,hp,rfl⟩:=vH.1 hy;obtain⟨i,hi⟩:=xA hp;obtain⟨e,he⟩:∃e,es[i]? =some e:=⟨_,yx (by rw[<-a2.1];exact(yq.1 hi).1)⟩
  exact J1 (B:=0) (a2.2 i p e hi he).1 (fun k hk=>yD cU (hr.lt k hk).1)
def ZY (lo lo' g:Nat) (cQ u ev:Value) (b at_:Nat) (k:Int) (ts:List ByteArray) (ps:List (Value×Int)) (es:List EN) (i:Nat) (v:Value) (w:World):Prop:=match i with
 |0|11=>v= .pointer (some ⟨g,2,none⟩)
 |1=>v=ev
 |2=>∃g2,v= .slice (some ⟨g2,0,none⟩) 0 0/\lo'<=g2/\w.heap[g2]? =some (.cells #[] 9 (0,0))
 |3=>v=cQ
 |4=>v= .int .i64 k
 |5=>v= .pointer (some ⟨b,at_,none⟩)
 |6=>v=u
 |7=>AP lo' 9 1 BB w v ts
 |8=>∃r,v= .agg #[r, .int .i64 (-1)]/\AP lo' 9 1 BB w r ts
 |9=>∃r g9,v= .slice (some ⟨g9,0,none⟩) 1 1/\lo'<=g9/\w.heap[g9]? =some (.cells #[r, .int .i64 (-1)] 62 (0,0))/\AP lo' 9 1 BB w r ts
 |10=>∃r,DA lo w v (ps++[(r,-1)]) (es++[⟨ts,-1⟩])
 |_=>True
theorem Bp {lo e sz:Nat} {w:World} {xs:List Value} {row:Option Nat} (h:w.ownsRow lo e sz v n xs) (hg:w.grownBy w' row) (hr:∀k,row=some k->k<lo):w'.ownsRow lo e sz v n xs:=by
 refine Au h hg ?_;cases hv:v.ownBlock with
 |none=>exact .inl rfl
 |some k=>
  refine .inr fun he=>?_
  have h1:=hr k he.symm;have h2:=(h.lt k hv).1;omega
theorem Fg {w:World} {lo g:Nat} {o:Obj} {row:Option Nat} (h:w.heap[g]? =some o) (hl:lo<=g) (hg:w.grownBy w' row) (hr:∀k,row=some k->k<lo):w'.heap[g]? =some o:=
 (hg.block g (Array.getElem?_eq_some_iff.1 h).1 (fun e=>by have:=hr g e.symm;omega)).trans h
theorem LY {lo lo' g:Nat} {cQ ev:Value} {at_:Nat} {k:Int} {ps:List (Value×Int)} {i:Nat} {w:World} {row:Option Nat}
 (h:ZY lo lo' g cQ u ev b at_ k ts ps es i v w) (hg:w.grownBy w' row) (hr:∀k,row=some k->k<lo') (hi:i≠10∨row=none):ZY lo lo' g cQ u ev b at_ k ts ps es i v w':=by
 match i with
 |0|1|3|4|5|6=>exact h
 |2=>obtain⟨g2,h0,h1,h2⟩:=h;exact⟨g2,h0,h1,Fg h2 h1 hg hr⟩
 |7=>exact Bp h hg hr
 |8=>obtain⟨r,h0,h1⟩:=h;exact⟨r,h0,Bp h1 hg hr⟩
 |9=>obtain⟨r,g9,h0,h1,h2,h3⟩:=h;exact⟨r,g9,h0,h1,Fg h2 h1 hg hr,Bp h3 hg hr⟩
 |10=>
  obtain⟨r,h0⟩:=h
  rcases hi with hi|hi
  .exact absurd rfl hi
  .subst hi;exact⟨r,h0.below ⟨hg.os,hg.tape,hg.output,hg.size,fun k hk=>hg.block k hk (by simp)⟩⟩
 |11=>exact h
 |_+12=>trivial
theorem Wd {α:Type} (us vs:List α) (u0 u:α):(us++u0::vs).set us.length u=(us++[u])++vs:=by simp
def Fc (lo:Nat) (w:World) (v:Value) (us vs:List Value) (m:List (List Int)):Prop:=AP lo 29 1 F3 w v (us++vs)/\Fb (AG lo w) us (m.take us.length)/\DF us
theorem Fc.step {lo g ab:Nat} {w w1:World} {us:List Value} {u0:Value} {m:List (List Int)} (h:Fc lo w (.slice (some ⟨g,0,none⟩) n ab) us (u0::vs) m) (hn:n=(us++u0::vs).length)
 (hb:Below w.heap.size w w1) (aq:lo<=w.heap.size) (hu:AG w.heap.size w1 u r) (hr:m[us.length]? =some r):
 Fc lo (w1.setCell ⟨g,us.length,none⟩ u) (.slice (some ⟨g,0,none⟩) n ab) (us++[u]) vs m/\w1.grownBy (w1.setCell ⟨g,us.length,none⟩ u) (some g):=by
 obtain⟨a1,a2,a3⟩:=h;have bm:=a1.below hb;subst hn;have S:=AP.zz D8 bm (k:=us.length) (x:=u0) (by simp) (j:=0) (by decide) (y:=u) (u:=u) rfl;rw[vV,xQ,Wd] at S;have a8:3≠29:=wH LP;refine⟨⟨?_,?_,DF.snoc a3 fun y hy=>?_⟩,S.2⟩
 .have:=S.1
  rwa [show(us++u0::vs).length=((us++[u])++vs).length by simp] at this ⊢
 .rw[yl,xO,Cw hr]
  refine Fb.snoc (a2.mono fun y ys hy=>?_) ?_
  .have bs:=hy.below hb
   exact Au bs S.2 (A7 bs bm a8).ne
  .exact Au (BR hu aq) S.2 (A7 hu bm a8).ne
 .obtain⟨i,hi⟩:=xA hy
  obtain⟨ys,b5⟩:∃ys,(m.take us.length)[i]? =some ys:=⟨_,yx (by rw[<-a2.1];exact(yq.1 hi).1)⟩
  exact J1 (B:=0) (a2.2 i y ys hi b5) (fun k hk=>(hu.lt k hk).1)
theorem Fc.whole {lo:Nat} {w:World} {us:List Value} {m:List (List Int)} (h:Fc lo w v us [] m) (hl:us.length=m.length):At lo w v us m:=by obtain⟨a1,a2,a3⟩:=h;rw[sZ] at a1;rw[hl,xt] at a2;exact⟨a1,a2,a3⟩
theorem Fc.below {lo:Nat} {w w1:World} {us:List Value} {m:List (List Int)} (h:Fc lo w v us vs m) (hb:Below w.heap.size w w1):Fc lo w1 v us vs m:=⟨h.1.below hb,h.2.1.mono fun _ _ h=>AG.below h hb,h.2.2⟩
def GN (lo:Nat) (w:World) (v:Value) (qs ps:List (Value×Int)) (es:List EN):Prop:=AP lo 62 2 EX w v (qs++ps)/\Fb (fun p e=>AP lo 9 1 BB w p.1 e.zV/\p.2=e.root) qs (es.take qs.length)/\DF (qs.map (·.1))
theorem GN.step {lo g ab:Nat} {w w1:World} {qs ps:List (Value×Int)} {p0:Value×Int} {e:EN} (h:GN lo w (.slice (some ⟨g,0,none⟩) n ab) qs (p0::ps) es) (hn:n=(qs++p0::ps).length)
 (hb:Below w.heap.size w w1) (aq:lo<=w.heap.size) (hu:AP w.heap.size 9 1 BB w1 u e.zV) (he:es[qs.length]? =some e) (hp:p0.2=e.root):
 GN lo (w1.setCell ⟨g,qs.length*2,none⟩ u) (.slice (some ⟨g,0,none⟩) n ab) (qs++[(u,p0.2)]) ps es/\w1.grownBy (w1.setCell ⟨g,qs.length*2,none⟩ u) (some g):=by
 obtain⟨a1,a2,a3⟩:=h;have bm:=a1.below hb;subst hn;have S:=AP.zz FW bm (k:=qs.length) (x:=p0) (by simp) (j:=0) (by decide) (y:=(u,p0.2)) (u:=u) rfl;rw[xQ,Wd] at S;have a8:9≠62:=by decide
 refine⟨⟨?_,?_,?_⟩,S.2⟩
 .have:=S.1
  rwa [show(qs++p0::ps).length=((qs++[(u,p0.2)])++ps).length by simp] at this ⊢
 .rw[yl,xO,Cw he]
  refine Fb.snoc (a2.mono fun y ys hy=>⟨?_,hy.2⟩) ⟨?_,hp⟩
  .have bs:=hy.1.below hb
   exact Au bs S.2 (A7 bs bm a8).ne
  .exact Au (BR hu aq) S.2 (A7 hu bm a8).ne
 .rw[xH]
  refine DF.snoc a3 fun y hy=>?_
  obtain⟨p,hp,rfl⟩:=vH.1 hy;obtain⟨i,hi⟩:=xA hp;obtain⟨e',he'⟩:∃e',(es.take qs.length)[i]? =some e':=⟨_,yx (by rw[<-a2.1];exact(yq.1 hi).1)⟩
  exact J1 (B:=0) (a2.2 i p e' hi he').1 (fun k hk=>(hu.lt k hk).1)
theorem GN.whole {lo:Nat} {w:World} {qs:List (Value×Int)} (h:GN lo w v qs [] es) (hl:qs.length=es.length):DA lo w v qs es:=by obtain⟨a1,a2,a3⟩:=h;rw[sZ] at a1;rw[hl,xt] at a2;exact⟨a1,a2,a3⟩
theorem TC (v:Value) (m:List (List Int)) (w:World) (h:Bc w v m) (av:Bs m=true):
 Calls prog 50 #[v] w fun e w'=>∃v' vs,e= .returned v'/\At w.heap.size w' v' vs m/\Below w.heap.size w w':=by
 obtain⟨vs,h1,h2⟩:=h;have b6:=(Ah.1 av).1;have cz:vs.length=12:=by rw[h2.1,b6]
 have CC:=AA (Ls v vs w h1 (by omega) (Rj h2));have CI:=AA (fun k (hk:k<12) W (hW:Below w.heap.size w W)=>ID (vs.getD k (.bool false)) (AH m k) W (Ax.below (h2.2 k _ _ (A1 (by omega)) (by unfold AH;exact A1 (by omega))) hW) (by have:=(A5.1 ((Ah.1 av).2 k hk)).1;omega));have SH:=AA (fun k (hk:k<12)=>(by obtain⟨a,c,e,_⟩:=(h2.2 k _ _ (A1 (d:=Value.bool false) (by omega)) (A1 (d:=[]) (by omega))).open;exact⟨a,_,c,e⟩:∃a n c,vs.getD k (.bool false)= .slice a n c));have cF:=AA cz;have dx:=AA b6;obtain⟨ai,ci,rfl,_,_⟩:=h1.shape;clear h1 h2 av b6;rw[cz] at CC ⊢;clear cz;go_in;go_wp2_with fail;refine(CC.out).mono ?_;rintro e w1 ⟨v',rfl,hO,cO⟩;obtain⟨g,ab,rfl,c1,c2,q1,q2,bf⟩:=hO.zO (by have:=cF.out;omega);unfold maxLen at c2;rw[cF.out] at hO c1 ⊢;have HO:=AA hO;have HB:=AA cO;clear hO cO bf;go_wp2_with fail;go_loopw [10] (fun i wr=>∃us:List Value,us.length<=12/\i= .int .i64 us.length/\Fc w.heap.size wr (.slice (some ⟨g,0,none⟩) 12 ab) us (vs.drop us.length) m/\Below w.heap.size w wr) (fun i _=>12 - (intOf i).toNat)
 case atStart=>exact⟨[],by simp,rfl,⟨HO.out,Fb.nil,DF.nil⟩,HB.out⟩
 case round=>
  obtain⟨us,hk,rfl,hH,ad⟩:=hrel
  by_cases ay:us.length<12
  .have b7:us.length<vs.length:=by rw[cF.out];exact ay
   have ed:vs.drop us.length=vs.getD us.length (.bool false)::vs.drop (us.length+1):=by
    rw[um b7]
    congr 1
    simp[b7]
   rw[ed] at hH;have bd:(us++vs.getD us.length (.bool false)::vs.drop (us.length+1)).length=12:=by have:=cF.out;simp only[yl,vw,vZ];omega
   have bW:=hH.1;rw[<-bd] at bW;have D:=AP.zB D8 bW (k:=us.length) (x:=vs.getD us.length (.bool false)) (by simp) 0 _ rfl;rw[vV,xQ] at D;have C:=CI.out _ ay wr ad;have hr:m[us.length]? =some (AH m us.length):=by unfold AH;exact A1 (by rw[dx.out];exact ay)
   have HH:=AA hH;have HR:=AA hr;have CH:=AA C;have cl:=AA bd;have bf:=xP bW us.length;have eJ:(12:Int)<=ab:=by omega
   clear hH bW hr C ed bd;generalize hu0:vs.getD us.length (.bool false)=u0 at*;obtain⟨a0,n0,c0,rfl⟩:∃a n c,u0= .slice a n c:=by have:=SH.out _ ay;rwa [hu0] at this
   go_wp2_with fail;refine(CH.out).mono ?_;rintro e w2 ⟨u,rfl,hu,an⟩;have D2:=(an.cell (p:=⟨g,us.length,none⟩) (yC wr _ D)).trans D;have dS:=(an.frozen (p:=⟨g,us.length,none⟩) (yC wr _ D)).trans bf;have ST:=AA (Fc.step HH.out cl.out.symm an ad.size hu HR.out);have em:=AA (AM (ad.trans (an.mono ad.size)) ST.out.2 q1 (yD ad.size an.size));obtain⟨a9,c9,rfl,_⟩:=hu.rd.open;clear D bf hu an ad;go_wp2_with fail;go_roundw
   case rel=>refine⟨us++[.slice a9 (AH m us.length).length c9],by rw[yl,xO];omega,by rw[yl,xO];go_num,?_,em.out⟩;rw[yl,xO];exact ST.out.1
   case measure=>simp[intOf];omega
  .have e12:us.length=12:=by omega
   rw[ud (by rw[e12,cF.out];exact yv _)] at hH;have R:=AA (hH.whole (by rw[e12,dx.out]));clear hH;go_wp2_with fail;go_ret;exact⟨_,us,rfl,R.out,ad⟩
def JH (lo:Nat) (w:World) (v:Value) (k:AN) (ps:List (Value×Int)):Prop:=∃m i e c,v= .agg #[m,i,e,c]/\(∃vs,At lo w m vs k.mem)/\AP lo 93 3 A2 w i k.Os/\AP lo 62 2 EX w e ps/\AP lo 98 4 Ae w c k.zY
theorem JH.below {lo:Nat} {w:World} {k:AN} {ps:List (Value×Int)} (h:JH lo w v k ps) (hb:Below w.heap.size w w'):JH lo w' v k ps:=by obtain⟨m,i,e,c,h0,⟨vs,h1⟩,h2,h3,h4⟩:=h;exact⟨m,i,e,c,h0,⟨vs,h1.below hb⟩,h2.below hb,h3.below hb,h4.below hb⟩
def J8 (lo:Nat) (w:World) (v:Value):Prop:=∃g,v= .pointer (some ⟨g,0,none⟩)/\lo<=g/\w.heap[g]? =some (.cells #[.slice none 0 0, .slice none 0 0, .slice none 0 0, .slice none 0 0] 28 (0,0))
theorem J8.below {lo:Nat} {w:World} (h:J8 lo w v) (hb:Below w.heap.size w w'):J8 lo w' v:=by obtain⟨g,h0,h1,h2⟩:=h;exact⟨g,h0,h1,AC h2 hb⟩
def MP (w0:World) (g:Nat) (m i e c:Value) (k:AN) (qs ps:List (Value×Int)) (wr:World):Prop:=
 wr.heap[g]? =some (.cells #[m,i,e,c] 28 (0,0))/\(∃vs,At w0.heap.size wr m vs k.mem)/\AP w0.heap.size 93 3 A2 wr i k.Os/\GN w0.heap.size wr e qs ps k.zZ/\AP w0.heap.size 98 4 Ae wr c k.zY/\Below w0.heap.size w0 wr
theorem GN.below {lo:Nat} {w w1:World} {qs ps:List (Value×Int)} (h:GN lo w v qs ps es) (hb:Below w.heap.size w w1):GN lo w1 v qs ps es:=⟨h.1.below hb,h.2.1.mono fun _ _ h=>⟨h.1.below hb,h.2⟩,h.2.2⟩
theorem MP.below {w0:World} {g:Nat} {m i e c:Value} {k:AN} {qs ps:List (Value×Int)} {wr:World} (h:MP w0 g m i e c k qs ps wr) (hb:Below wr.heap.size wr w'):MP w0 g m i e c k qs ps w':=by obtain⟨h0,⟨vs,h1⟩,h2,h3,h4,h5⟩:=h;exact⟨AC h0 hb,⟨vs,h1.below hb⟩,h2.below hb,h3.below hb,h4.below hb,h5.trans (hb.mono h5.size)⟩
theorem MP.step {w0:World} {g ab:Nat} {m i c:Value} {k:AN} {qs ps:List (Value×Int)} {p0:Value×Int} {w w1:World} {e:EN} (h:MP w0 g m i (.slice (some ⟨ge,0,none⟩) n ab) c k qs (p0::ps) w) (hn:n=(qs++p0::ps).length)
 (hb:Below w.heap.size w w1) (hu:AP w.heap.size 9 1 BB w1 u e.zV) (he:k.zZ[qs.length]? =some e) (hp:p0.2=e.root):
 MP w0 g m i (.slice (some ⟨ge,0,none⟩) n ab) c k (qs++[(u,p0.2)]) ps (w1.setCell ⟨ge,qs.length*2,none⟩ u):=by
 obtain⟨hB,⟨vs,h1⟩,h2,h3,h4,h5⟩:=h;have S:=GN.step h3 hn hb h5.size hu he hp;have dc:=AC hB hb;have bX:=h3.1.below hb;obtain⟨bl,a5⟩:=A6 bX ge rfl;have aq:=(yr bX ge rfl).1;refine⟨(S.2.block g (AY dc) fun e=>?_).trans dc,⟨vs,(h1.below hb).yN S.2 a5⟩,(h2.below hb).yN S.2 a5,S.1,(h4.below hb).yN S.2 a5,(h5.trans (hb.mono h5.size)).setCell aq _⟩;cases e;rw[dc] at a5;simp at a5
def OW (w:World) (k:AN) (e:Ending) (w':World):Prop:=∃m i ev c,e= .returned (.agg #[m,i,ev,c])/\DO w.heap.size w' m i ev c k/\Below w.heap.size w w'
theorem PP {k:AN} (hk:DI k) {j:Nat} (hj:j<3):(AJ k.zZ j).zV.length<=6:=by have h5:=hk.zV j hj;unfold BO at h5;simp only[yt,decide_eq_true_eq] at h5;exact h5.2
theorem TD (m i e c:Value) (k:AN) (w:World) (h:MM w m i e c k) (hk:DI k):
 Calls prog 49 #[.agg #[m,i,e,c]] w (OW w k):=by
 obtain⟨h1,h2,⟨ps,h3,bX⟩,h4⟩:=h;have be:ps.length=3:=by rw[bX.1,hk.zP]
 have cn:k.zY.length<=4:=by have:=hk.zY;simp only[BQ,yt,decide_eq_true_eq] at this;exact this.2
 have cM:=hk.zP;have N0:=yw w (.cells #[m,i,e,c] 28);have N1:=yw (w.alloc (.cells #[m,i,e,c] 28)) (.cells #[.slice none 0 0, .slice none 0 0, .slice none 0 0, .slice none 0 0] 28);replace N0:=AC N0 (AD _ (.cells #[.slice none 0 0, .slice none 0 0, .slice none 0 0, .slice none 0 0] 28));have ao:=Gu w (.cells #[m,i,e,c] 28) (.cells #[.slice none 0 0, .slice none 0 0, .slice none 0 0, .slice none 0 0] 28);have cI:w.heap.size+2=((w.alloc (.cells #[m,i,e,c] 28)).alloc (.cells #[.slice none 0 0, .slice none 0 0, .slice none 0 0, .slice none 0 0] 28)).heap.size:=by simp
 simp only[World.size_alloc] at N1;obtain⟨am,cm,rfl,_⟩:=h1.open;obtain⟨ai,ci,rfl,_⟩:=h2.shape;obtain⟨ae,ce,rfl,_⟩:=h3.shape;obtain⟨ac,cc,rfl,_⟩:=h4.shape;have co:=AA be;have ej:=AA cn;have dh:=AA cM;clear be cn cM;go_in;go_wp2_with fail;have be:=co.out;have cn:=ej.out;have cM:=dh.out;generalize hW0:(w.alloc _).alloc _=W0 at*;have C1:=AA (fun W (hW:Below W0.heap.size W0 W)=>TC _ k.mem W ((h1.below ao).below hW) hk.mem);have C2:=AA (fun W (hW:Below W0.heap.size W0 W)=>Jk _ k.Os W ((h2.below ao).below hW) (by rw[hk.len];omega));have C3:=AA (fun W (hW:Below W0.heap.size W0 W)=>SL _ ps W ((h3.below ao).below hW) (by omega) (XX bX));have C4:=AA (fun W (hW:Below W0.heap.size W0 W)=>KZ _ k.zY W ((h4.below ao).below hW) (by omega));have C5:=AA (fun j (hj:j<3) W (hW:Below w.heap.size w W)=>OO (ps.getD j (.bool false,0)).1 (AJ k.zZ j).zV W (BJ.below (bX.2 j _ _ (A1 (by omega)) (by unfold AJ;exact A1 (by omega))).1 hW) (by have h6:=PP hk hj;omega));have C6:=AA (fun j (hj:j<3)=>(bX.2 j (ps.getD j (.bool false,0)) (AJ k.zZ j) (A1 (by omega)) (by unfold AJ;exact A1 (by omega))).2);have C7:=AA (fun j (hj:j<3)=>(by obtain⟨a,n,e,_⟩:=(bX.2 j (ps.getD j (.bool false,0)) (AJ k.zZ j) (A1 (by omega)) (by unfold AJ;exact A1 (by omega))).1.shape;exact⟨a,_,n,e⟩:∃a n c,(ps.getD j (.bool false,0)).1= .slice a n c));have Hk:=AA hk;have bD:w.heap.size<W0.heap.size:=by omega
 obtain⟨x0,x1,x2,x3⟩:=AF N0;clear h1 h2 h3 bX h4 hk hW0 be cn cM;refine BS 14 37 [.p w.heap.size 0, .v (.slice am k.mem.length cm), .z, .p w.heap.size 1, .v (.slice ai k.Os.length ci), .z, .p w.heap.size 2, .v (.slice ae ps.length ce), .z, .p w.heap.size 3, .v (.slice ac k.zY.length cc), .z, .z, .z] (fun ix vv ww=>match ix with
  |2=>∃bp,At W0.heap.size ww vv bp k.mem
  |5=>AP W0.heap.size 93 3 A2 ww vv k.Os
  |8=>AP W0.heap.size 62 2 EX ww vv ps
  |11=>AP W0.heap.size 98 4 Ae ww vv k.zY
  |12=>JH W0.heap.size ww vv k ps
  |13=>J8 W0.heap.size ww vv
  |_=>True) ?_ ?_ ?_
 .intro i hi o ho a wx Hb Hd hG K HK
  have bx:=bc hG bD x0;have bw:=bc hG bD x1;have bB:=bc hG bD x2;have di:=bc hG bD x3
  match i,hi with
  |0,_|3,_|6,_|9,_=>exact sP ho HK Hb Hd
  |1,_=>exact sL ho HK Hb Hd (hl:=GM ‹_›)
  |2,_=>exact sC ho HK Hb Hd (C1.out _ hG) (by rintro e w_ ⟨v',bp,rfl,hO,an⟩;exact⟨_,rfl,⟨bp,hO.lower hG.size⟩,an⟩)
  |4,_=>exact sL ho HK Hb Hd (hl:=GF ‹_›)
  |5,_=>exact sC ho HK Hb Hd (C2.out _ hG) (by rintro e w_ ⟨v',rfl,hO,an⟩;exact⟨_,rfl,(hO.lower hG.size),an⟩)
  |7,_=>exact sL ho HK Hb Hd (hl:=NX ‹_›)
  |8,_=>exact sC ho HK Hb Hd (C3.out _ hG) (by rintro e w_ ⟨v',rfl,hO,an⟩;exact⟨_,rfl,(hO.lower hG.size),an⟩)
  |10,_=>exact sL ho HK Hb Hd (hl:=Zc ‹_›)
  |11,_=>exact sC ho HK Hb Hd (C4.out _ hG) (by rintro e w_ ⟨v',rfl,hO,an⟩;exact⟨_,rfl,(hO.lower hG.size),an⟩)
  |12,_=>
   clear bx bw bB di;obtain rfl:=yH ho;have d2:∃bp,At W0.heap.size wx (a.tmps[8]?.getD undef) bp k.mem:=BT Hd 2
   have d5:AP W0.heap.size 93 3 A2 wx (a.tmps[11]?.getD undef) k.Os:=BT Hd 5;have d8:AP W0.heap.size 62 2 EX wx (a.tmps[14]?.getD undef) ps:=BT Hd 8;have cP:AP W0.heap.size 98 4 Ae wx (a.tmps[17]?.getD undef) k.zY:=BT Hd 11;clear Hd Hb;generalize e8:a.tmps[8]?.getD undef=m' at d2;generalize e11:a.tmps[11]?.getD undef=i' at d5;generalize e14:a.tmps[14]?.getD undef=e' at d8;generalize e17:a.tmps[17]?.getD undef=c' at cP;have W:Hid (JH W0.heap.size wx (.agg #[m',i',e',c']) k ps):=AA ⟨m',i',e',c',rfl,d2,d5,d8,cP⟩;obtain⟨_,d2⟩:=d2;obtain⟨_,_,rfl,_,_⟩:=d2.1.rd.shape;obtain⟨_,_,rfl,_,_⟩:=d5.rd.shape;obtain⟨_,_,rfl,_,_⟩:=d8.rd.shape;obtain⟨_,_,rfl,_,_⟩:=cP.rd.shape;clear d2 d5 d8 cP;refine yG ?_;go_simp;exact HK.out _ _ W.out (yF _ _)
  |13,_=>clear bx bw bB di;obtain rfl:=yH ho;clear Hd Hb;refine yG ?_;go_simp;exact HK.out _ _ ⟨_,rfl,hG.size,yw _ _⟩ (AD _ _)
 .intro i hi vv wz cq bK hz
  match i,hi with
  |2,_=>exact(by obtain⟨bp,h'⟩:=hz;exact⟨bp,h'.below bK⟩)
  |5,_|8,_|11,_=>exact(AP.below hz bK)
  |12,_=>exact(JH.below hz bK)
  |13,_=>exact(J8.below hz bK)
  |0,_|1,_|3,_|4,_|6,_|7,_|9,_|10,_=>exact hz
 .intro vs wx hR hG
  have bZ:JH W0.heap.size wx (vs 12) k ps:=BZ hR 12;have bn:J8 W0.heap.size wx (vs 13):=BZ hR 13;obtain⟨g,bn,hg,hB⟩:=bn;clear hR;simp only[Al,AV,yE,yB,yA,yy,bn];simp;generalize vs 12=z12 at bZ ⊢;clear bn;obtain⟨m',i',e0,c',rfl,⟨bp,o1⟩,o2,o3,o4⟩:=bZ;obtain⟨ge,a7,rfl,d1,d2,eG,eF,cZ⟩:=o3.zO (by rw[co.out];omega);rw[co.out] at o3 d1 ⊢;unfold maxLen at d2;have a8:g≠w.heap.size+1:=by omega
  have au:=An (An (An (Aq wx g 0 m') 1 i') 2 (.slice (some ⟨ge,0,none⟩) 3 a7)) 3 c';have St:MP W0 g m' i' (.slice (some ⟨ge,0,none⟩) 3 a7) c' k [] ps ((((wx.setCell ⟨g,0,none⟩ m').setCell ⟨g,1,none⟩ i').setCell ⟨g,2,none⟩ (.slice (some ⟨ge,0,none⟩) 3 a7)).setCell ⟨g,3,none⟩ c'):=
   ⟨Cs hB,⟨bp,o1.yN au hB⟩,o2.yN au hB,⟨o3.yN au hB,Fb.nil,DF.nil⟩,o4.yN au hB,(((hG.setCell hg _).setCell hg _).setCell hg _).setCell hg _⟩
  obtain⟨pa,pc,rfl,_,_⟩:=o1.1.rd.shape;obtain⟨qa,qc,rfl,_,_⟩:=o2.rd.shape;obtain⟨ra,rc,rfl,_,_⟩:=o4.rd.shape;obtain⟨b0,b1,b2,b3⟩:=AF hB;have bf:=AK hB;have eK:=AA N0;have el:=AA N1;clear o1 o2 o3 o4 hG hB au x0 x1 x2 x3 cZ N0 N1;go_wp2_with fail;clear b0 b1 b2 b3 bf;go_loopw [22] (fun i wr=>∃qs:List (Value×Int),qs.length<=3/\i= .int .i64 qs.length/\MP W0 g _ _ (.slice (some ⟨ge,0,none⟩) 3 a7) _ k qs (ps.drop qs.length) wr) (fun i _=>3 - (intOf i).toNat)
  case atStart=>exact⟨[],by simp,rfl,St⟩
  case round=>
   clear St;obtain⟨qs,hq,rfl,St⟩:=hrel
   by_cases ay:qs.length<3
   .have b7:qs.length<ps.length:=by rw[co.out];exact ay
    have ed:ps.drop qs.length=ps.getD qs.length (.bool false,0)::ps.drop (qs.length+1):=by
     rw[um b7]
     congr 1
     simp[b7]
    rw[ed] at St;have bd:(qs++ps.getD qs.length (.bool false,0)::ps.drop (qs.length+1)).length=3:=by have:=co.out;simp only[yl,vw,vZ];omega
    have bW:=St.2.2.2.1.1;rw[<-bd] at bW;have D:=AP.zB FW bW (k:=qs.length) (x:=ps.getD qs.length (.bool false,0)) (by simp);have D0:=D 0 _ rfl;have D1:=D 1 _ rfl;rw[xQ] at D0;have fz:=xP bW;have ar:=ao.trans (St.2.2.2.2.2.mono ao.size);have C:=C5.out _ ay;have hp:=C6.out _ ay;obtain⟨a0,n0,c0,cI⟩:=C7.out _ ay;have he:k.zZ[qs.length]? =some (AJ k.zZ qs.length):=by unfold AJ;exact A1 (by rw[dh.out];exact ay)
    have y2:=(AF St.1).2.2.1;have cL:=AY St.1;have bj:=yC wr _ D0;have ek:=AA St;have cl:=AA bd;have He:=AA he;have Hp:=AA hp;clear St bd he hp bW D ed;generalize ps.getD qs.length (.bool false,0)=p0 at*;obtain⟨u0,r0⟩:=p0;cases cI
    change wr.cell? _=some (Value.slice a0 n0 c0) at D0
    change wr.cell? _=some (yf .i64 r0) at D1
    have N:=yw wr (.cells #[.slice a0 n0 c0, .int .i64 r0] 62);have bA:=AD wr (.cells #[.slice a0 n0 c0, .int .i64 r0] 62);have c3:(3:Int)<=a7:=by omega
    go_wp2_with fail;generalize wr.alloc _=wa at*;have y5:=yi _ _ 0 _ _ _ N;have dI:=AY N;have HC:=AA (fun W (hW:Below wa.heap.size wa W)=>C W ((ar.trans (bA.mono ar.size)).trans (hW.mono (ar.trans (bA.mono ar.size)).size)));replace y2:=(bA.cell (p:=⟨g,2,none⟩) cL).trans y2;replace D0:=(bA.cell (p:=⟨ge,qs.length*2,none⟩) bj).trans D0;have ds:=(bA.frozen (p:=⟨ge,qs.length*2,none⟩) bj).trans (fz _);replace cL:=xZ cL bA.size;replace bj:=xZ bj bA.size;clear C N D1 fz;refine BS 8 37 [.p g 2, .v (.slice (some ⟨ge,0,none⟩) 3 a7), .i ((qs.length:Int)), .p wr.heap.size 0, .v (.slice a0 n0 c0), .z, .p ge (qs.length*2), .p ge (qs.length*2)] (fun ix vv ww=>match ix with
     |5=>AP wa.heap.size 9 1 BB ww vv (AJ k.zZ qs.length).zV
     |_=>True) ?_ ?_ ?_
    .intro i hi o ho a wx Hb Hd hG K HK
     have bx:=bc hG cL y2;have bw:=bc hG dI y5
     match i,hi with
     |0,_|2,_|3,_|7,_=>exact sP ho HK Hb Hd
     |1,_=>exact sL ho HK Hb Hd (hl:=NX ‹_›)
     |4,_=>exact sL ho HK Hb Hd (hl:=K9 ‹_›)
     |5,_=>exact sC ho HK Hb Hd (HC.out _ hG) (by rintro e w_ ⟨v',rfl,hO,an⟩;exact⟨_,rfl,(hO.lower hG.size),an⟩)
     |6,_=>exact sI ho HK Hb Hd (hr:=by clear Hd Hb HK;go_simp)
    .intro i hi vv wz cq bK hz
     match i,hi with
     |5,_=>exact(AP.below hz bK)
     |0,_|1,_|2,_|3,_|4,_|6,_|7,_=>exact hz
    .intro vs wx hR hG
     have q5:AP wa.heap.size 9 1 BB wx (vs 5) (AJ k.zZ qs.length).zV:=BZ hR 5;have q7:(vs 7)= .pointer (some ⟨ge,qs.length*2,none⟩):=BZ hR 7;clear hR;simp only[Al,AV,yE,yB,yA,yy,q7];simp;generalize vs 5=z5 at q5 ⊢;clear q7;have ST:=AA (MP.step (p0:=(_,r0)) ek.out cl.out.symm (bA.trans (hG.mono bA.size)) (q5.lower bA.size) He.out Hp.out);replace D0:=(hG.cell (p:=⟨ge,qs.length*2,none⟩) bj).trans D0;replace ds:=(hG.frozen (p:=⟨ge,qs.length*2,none⟩) bj).trans ds;obtain⟨_,_,rfl,_,_⟩:=q5.rd.shape;clear q5 hG y2 y5;go_wp2_with fail;go_roundw
     case rel=>exact⟨qs++[(_,r0)],by rw[yl,xO];omega,by rw[yl,xO];go_num,by rw[yl,xO];exact ST.out⟩
     case measure=>simp[intOf];omega
   .have e3:qs.length=3:=by omega
    rw[ud (by rw[e3,co.out];exact yv _)] at St;obtain⟨hB,⟨dA,o1⟩,o2,o3,o4,ad⟩:=St;have o5:=o3.whole (by rw[e3,dh.out]);have bb:=(ad.block _ (by omega)).trans el.out;have S:=AA (show ∀w',wr.grownBy w' (some (w.heap.size+1))->OW w k (.returned (.agg #[_,_,(.slice (some ⟨ge,0,none⟩) 3 a7),_])) w' from fun w' bt=>⟨_,_,_,_,rfl,⟨⟨dA,(o1.yN bt bb).lower ao.size⟩,(o2.yN bt bb).lower ao.size,⟨qs,(o5.yN bt bb).lower ao.size⟩,(o4.yN bt bb).lower ao.size⟩,(ao.trans (ad.mono ao.size)).grown bt (ao.trans (ad.mono ao.size)).size (fun k hk=>by cases hk;omega)⟩)
    obtain⟨E0,E1,E2,E3⟩:=AF (Cs (m':= .slice pa bp.length pc) (i':= .slice qa k.Os.length qc) (e':= .slice (some ⟨ge,0,none⟩) 3 a7) (c':= .slice ra k.zY.length rc) bb);have HE:=AA (ye E0 (ye E1 (ye E2 E3)));have au:wr.grownBy ((((wr.setCell ⟨w.heap.size+1,0,none⟩ (.slice pa bp.length pc)).setCell ⟨w.heap.size+1,1,none⟩ (.slice qa k.Os.length qc)).setCell ⟨w.heap.size+1,2,none⟩ (.slice (some ⟨ge,0,none⟩) 3 a7)).setCell ⟨w.heap.size+1,3,none⟩ (.slice ra k.zY.length rc)) (some (w.heap.size+1)):=An (An (An (Aq wr (w.heap.size+1) 0 _) 1 _) 2 _) 3 _;obtain⟨b0,b1,b2,b3⟩:=AF hB;obtain⟨c0,c1,c2,c3⟩:=AF bb;have bf:=AK bb;have dH:¬(qs.length:Int)<3:=by omega
    clear hB bb o1 o2 o3 o4 o5 E0 E1 E2 E3 e3;go_wp2_with fail;exact bodyPost_ret (v:= .agg #[_,_,_,_]) (by simp[results,Tryz.results49,go_sem,HE.out]) rfl (S.out _ au)
theorem Tryz.infoInfo:(prog.info? 93).map (fun i=>(i.zero,i.size,i.bytes))=some (some (.agg #[.int .i64 0, .string ⟨#[]⟩, .int .i64 0]),3,32):=by kernel_rfl
theorem XO:(madeCells (Value.agg #[.int .i64 0, .string ⟨#[]⟩, .int .i64 0]).cells (12*3)).toList=Ch A2 (xX 12 AU.zero):=by kernel_rfl
def Zf (lo:Nat) (i:Nat) (v:Value) (w:World):Prop:=match i with
 |0=>∃vs,At lo w v vs (M6 12)
 |1=>AP lo 93 3 A2 w v (xX 12 AU.zero)
 |2=>AP lo 62 2 EX w v []
 |3=>AP lo 98 4 Ae w v []
 |4=>∃m i e c,v= .agg #[m,i,e,c]/\(∃vs,At lo w m vs (M6 12))/\AP lo 93 3 A2 w i (xX 12 AU.zero)/\AP lo 62 2 EX w e []/\AP lo 98 4 Ae w c []
 |5=>∃g,v= .pointer (some ⟨g,0,none⟩)/\lo<=g/\w.heap[g]? =some (.cells #[.slice none 0 0, .slice none 0 0, .slice none 0 0, .slice none 0 0] 28 (0,0))
 |_=>True
theorem JR {lo i:Nat} {w:World} (h:Zf lo i v w) (hb:Below w.heap.size w w'):Zf lo i v w':=by
 match i with
 |0=>obtain⟨vs,h⟩:=h;exact⟨vs,h.below hb⟩
 |1|2|3=>exact AP.below h hb
 |4=>obtain⟨m,i,e,c,h0,⟨vs,h1⟩,h2,h3,h4⟩:=h;exact⟨m,i,e,c,h0,⟨vs,h1.below hb⟩,h2.below hb,h3.below hb,h4.below hb⟩
 |5=>
  obtain⟨g,h0,h1,h2⟩:=h;have:g<w.heap.size:=by
   rcases Nat.lt_or_ge g w.heap.size with h|h
   .exact h
   .rw[Array.getElem?_eq_none h] at h2;cases h2
  exact⟨g,h0,h1,(hb.block g this).trans h2⟩
 |_+6=>trivial
def IG (a6:List (List ByteArray)):List EN:=a6.map fun ts=>⟨ts,-1⟩
def Mg (a6:List (List ByteArray)):AN:=⟨M6 12,xX 12 AU.zero,IG a6,[]⟩
def ag (w:World) (b:Bool) (k:AN) (e:Ending) (w':World):Prop:=∃m i ev c,e= .returned (.tuple #[.agg #[m,i,ev,c], .bool b])/\DO w.heap.size w' m i ev c k/\Below w.heap.size w w'
def X3 (w0:World) (lo g:Nat) (es:List EN) (wr:World):Prop:=
 ∃m i ev c vs ps,wr.heap[g]? =some (.cells #[m,i,ev,c] 28 (0,0))/\lo<=g/\At lo wr m vs (M6 12)/\AP lo 93 3 A2 wr i (xX 12 AU.zero)/\DA lo wr ev ps es/\AP lo 98 4 Ae wr c []/\Below lo w0 wr
theorem Kl (v:Value) (a6:List (List ByteArray)) (w:World) (h:LV w v a6) (h3:a6.length=3) (av:∀ts∈a6,BO ts=true) (cH:∀ts∈a6,DP ts):
 Calls prog 152 #[v] w (ag w true (Mg a6)):=by
 obtain⟨vs,h1,h2⟩:=h;obtain⟨a,cv,rfl,hc,c5,H0⟩:=BJ.open D8 (by decide) h1;unfold maxLen at c5;have ep:vs.length<=3:=by rw[h2.1,h3];omega
 have dE:3<=vs.length:=by rw[h2.1,h3];omega
 have HB:=AA h2;have H3:=AA h3;have dw:=AA av;have ei:=AA cH;clear h2 h3 av cH;go_in;go_wp2_with fail;have ao:=AD w (.cells #[.slice none 0 0, .slice none 0 0, .slice none 0 0, .slice none 0 0] 28);have dd:(w.alloc (.cells #[.slice none 0 0, .slice none 0 0, .slice none 0 0, .slice none 0 0] 28)).heap[w.heap.size]? =some (.cells #[.slice none 0 0, .slice none 0 0, .slice none 0 0, .slice none 0 0] 28 (0,0)):=yw w _;have cI:w.heap.size+1=(w.alloc (.cells #[.slice none 0 0, .slice none 0 0, .slice none 0 0, .slice none 0 0] 28)).heap.size:=by simp
 generalize w.alloc (.cells #[.slice none 0 0, .slice none 0 0, .slice none 0 0, .slice none 0 0] 28)=W0 at ao dd cI;refine Fj 6 mixed (by kernel_rfl) 41 rfl (by kernel_rfl) (Zf W0.heap.size) (fun _ w'=>Below W0.heap.size W0 w') ?_ ?_ ?_
 .exact A9 (yF _ _) 1
 .intro i hi o ho a w1 Hb Hd L HL hG K HK
  have bC:=hG.size;clear Hb HL
  match i,hi with
  |0,_=>obtain rfl:=yH ho;clear Hd;refine yG ?_;go_simp;refine(XL _).mono ?_;rintro e w2 ⟨v,vs,rfl,h3,h4⟩;exact HK.out _ _ ⟨vs,h3.lower bC⟩ (hG.trans (h4.mono bC)) (fun j u _ _ _ h=>JR h h4)
  |1,_=>obtain rfl:=yH ho;clear Hd;refine yG ?_;obtain⟨i0,cB,cx,cw,ct⟩:=info_parts Tryz.infoInfo;obtain⟨w2,bh,h3,h4⟩:=run_make_full (P:=prog) w1 w1.heap.size 24 93 i0 _ 3 underlying24 cB cx cw .i64 .i64 12 (by rw[ct];decide) (by decide) (yv _);have h5:=Below.zw h4;rw[XO] at h3;have dl:(Instr.makeSlice 24 (.int .i64 12) (.int .i64 12)).run prog w1= .ok (.slice (some ⟨w1.heap.size,0,none⟩) 12 12) w2:=bh;clear cB cx cw ct bh;go_simp;exact HK.out _ _ (BR h3 bC) (hG.trans (h5.mono bC)) (fun j u _ _ _ h=>JR h h5)
  |2,_|3,_=>obtain rfl:=yH ho;clear Hd;refine yG ?_;go_simp;exact HK.out _ _ ((By _ _ _ _).lower bC) (hG.alloc bC _) (fun j u _ _ _ h=>JR h (AD _ _))
  |4,_=>
   obtain rfl:=yH ho;have d0:=BT Hd 0;have d1:=BT Hd 1;have d2:=BT Hd 2;have d3:=BT Hd 3;clear Hd
   change ∃vs,At _ _ (a.tmps[6]?.getD undef) _ _ at d0
   change AP _ _ _ _ _ (a.tmps[7]?.getD undef) _ at d1
   change AP _ _ _ _ _ (a.tmps[8]?.getD undef) _ at d2
   change AP _ _ _ _ _ (a.tmps[9]?.getD undef) _ at d3
   refine yG ?_;generalize e6:a.tmps[6]?.getD undef=m at d0;generalize e7:a.tmps[7]?.getD undef=i at d1;generalize e8:a.tmps[8]?.getD undef=e at d2;generalize e9:a.tmps[9]?.getD undef=c at d3;obtain⟨dB,d0⟩:=d0;have W:=AA (show Zf W0.heap.size 4 (.agg #[m,i,e,c]) w1 from⟨m,i,e,c,rfl,⟨dB,d0⟩,d1,d2,d3⟩);obtain⟨_,_,rfl,_,_⟩:=d0.1.rd.shape;obtain⟨_,_,rfl,_,_⟩:=d1.rd.shape;obtain⟨_,_,rfl,_,_⟩:=d2.rd.shape;obtain⟨_,_,rfl,_,_⟩:=d3.rd.shape;clear d0 d1 d2 d3;go_simp;exact HK.out _ _ W.out hG (fun j u _ _ _ h=>h)
  |5,_=>obtain rfl:=yH ho;clear Hd;refine yG ?_;go_simp;exact HK.out _ _ ⟨_,rfl,bC,yw _ _⟩ (hG.alloc bC _) (fun j u _ _ _ h=>JR h (AD _ _))
 .intro xs w1 hR L hL hG
  obtain⟨m,i,e,c,h0,⟨rs,h1⟩,h2,h3,h4⟩:=BZ hR 4;obtain⟨g,h5,h6,h7⟩:=BZ hR 5;clear hR hL;simp only[Al,AV,yE,yB,yA,yy,h0,h5];simp;generalize xs 0=y0;generalize xs 1=y1;generalize xs 2=y2;generalize xs 3=y3;have St:X3 W0 W0.heap.size g (IG (a6.take 0)) ((((w1.setCell ⟨g,0,none⟩ m).setCell ⟨g,1,none⟩ i).setCell ⟨g,2,none⟩ e).setCell ⟨g,3,none⟩ c):=by have au:=An (An (An (Aq w1 g 0 m) 1 i) 2 e) 3 c;exact⟨m,i,e,c,rs,[],Cs h7,h6,h1.yN au h7,h2.yN au h7,⟨h3.yN au h7,Fb.nil,DF.nil⟩,h4.yN au h7,(((hG.setCell h6 _).setCell h6 _).setCell h6 _).setCell h6 _⟩
  obtain⟨_,_,rfl,_,_⟩:=h1.1.rd.shape;obtain⟨_,_,rfl,_,_⟩:=h2.rd.shape;obtain⟨_,_,rfl,_,_⟩:=h3.rd.shape;obtain⟨_,_,rfl,_,_⟩:=h4.rd.shape;obtain⟨c0,c1,c2,c3⟩:=AF h7;have bf:=AK h7;clear h0 h1 h2 h3 h4 h5 hG h6 h7;go_wp2_with fail;clear c0 c1 c2 c3 bf;simp only[vU,wP];go_loopw [5] (fun i wr=>∃k:Nat,k<=3/\i= .int .i64 k/\X3 W0 W0.heap.size g (IG (a6.take k)) wr) (fun i _=>3 - (intOf i).toNat)
  case atStart=>exact⟨0,by omega,rfl,St⟩
  case round=>
   clear St;obtain⟨k,hk,rfl,m,iv,ev,c,rs,ps,hB,hg,o1,o2,o3,o4,ad⟩:=hrel
   by_cases ay:k<3
   .have b7:k<vs.length:=by omega
    obtain⟨u,hu⟩:∃u,vs[k]? =some u:=⟨_,yx b7⟩
    obtain⟨ts,hts⟩:∃ts,a6[k]? =some ts:=⟨_,yx (by rw[H3.out];exact ay)⟩
    have Ru:=HB.out.2 k u ts hu hts;have av:=dw.out ts (yg hts);have cH:=ei.out ts (yg hts);obtain⟨b,az,rfl,c7,ba⟩:=H0 k u hu;have Dw:w.cell? ⟨b,az+k,none⟩=some u:=by simpa using ba 0 u rfl
    have ar:=ao.trans (ad.mono ao.size);have D:wr.cell? ⟨b,az+k,none⟩=some u:=(ar.cell (yC w _ Dw)).trans Dw;have dv:=AA hts;have Hu:=AA hu;clear hu hts Dw ba;go_wp2_with fail;refine(GC u ts _ (BJ.below Ru ar) cH).mono ?_;rintro e w2 ⟨rfl,dk⟩;rw[av];have al:Below wr.heap.size wr w2:=by obtain⟨n,rfl⟩:=dk;exact A9 (yF _ _) n
    clear dk av;have ar:=ar.trans (al.mono ar.size);have D:w2.cell? ⟨b,az+k,none⟩=some u:=(al.cell (yC wr _ D)).trans D;have eC:=yC w2 _ D;have db:=AC hB al;have bg:=o3.below al;have o1:=o1.below al;have o2:=o2.below al;have o4:=o4.below al;have ad:=ad.trans (al.mono ad.size);clear al o3 hB;have er:ts.length<=6:=by have:=dw.out ts (yg dv.out);simp only[BO,yt,decide_eq_true_eq] at this;exact this.2
    have ex:(k:Int)<vs.length:=by omega
    go_wp2_with fail;have cC:ev.ownBlock≠some g:=fun he=>by obtain⟨bl,hc⟩:=A6 bg.1 g he;rw[db] at hc;simp at hc
    have b8:=fun k hk=>(bg.1.lt k hk).2
    have bu:=fun k hk=>(bg.1.lt k hk).1
    have cj:∀w3,w2.grownBy w3 ev.ownBlock->w3.heap[g]? =some (.cells #[m,iv,ev,c] 28 (0,0)):=fun w3 h=>(h.block g (AY db) (fun e=>cC e.symm)).trans db
    have ch:∀w3,w2.grownBy w3 ev.ownBlock->∀k,k<w.heap.size->w3.heap[k]? =w2.heap[k]? :=fun w3 h k hk=>h.block k (xZ hk ar.size) (fun e=>by have:=bu k e.symm;omega)
    have GS:=AA (fun(L:Nat->Bool) (w3:World) (i:Nat) (h:w2.grownBy w3 ev.ownBlock/\(L 10=false->Below w2.heap.size w2 w3))=>(⟨h.1,fun df=>h.2 (DQ df)⟩:w2.grownBy w3 ev.ownBlock/\(F8 L i 10=false->Below w2.heap.size w2 w3)));have GB:=AA (fun(L:Nat->Bool) (w3 w4:World) (i:Nat) (h:w2.grownBy w3 ev.ownBlock/\(L 10=false->Below w2.heap.size w2 w3)) (hb:Below w3.heap.size w3 w4)=>(⟨AO h.1 (AW hb _),fun df=>(h.2 (DQ df)).trans (hb.mono h.1.size)⟩:w2.grownBy w4 ev.ownBlock/\(F8 L i 10=false->Below w2.heap.size w2 w4)));refine Fj 12 mixed (by kernel_rfl) 41 rfl (by kernel_rfl) (ZY W0.heap.size w2.heap.size g (.slice (some ⟨b,az,none⟩) vs.length cv) u ev b (az+k) k ts ps (IG (a6.take k))) (fun L w3=>w2.grownBy w3 ev.ownBlock/\(L 10=false->Below w2.heap.size w2 w3)) ?_ ?_ ?_
    .exact⟨AW (A9 (yF _ _) 1) _,fun _=>A9 (yF _ _) 1⟩
    .intro i hi o ho a w3 Hb Hd L HL hG K HK
     match i,hi with
     |0,_=>
      obtain rfl:=yH ho;have e4:a.tmps[4]?.getD undef= .pointer (some ⟨g,0,none⟩):=by rw[OV Hb 4];rfl
      clear Hd Hb;refine yG ?_;go_simp;exact HK.out _ _ rfl (GS.out _ _ _ hG) (fun j u _ _ _ h=>h)
     |1,_=>
      obtain rfl:=yH ho;have d0:=BT Hd 0
      change a.tmps[24]?.getD undef= .pointer (some ⟨g,2,none⟩) at d0
      clear Hd Hb;refine yG ?_;have cg:w3.cell? ⟨g,2,none⟩=some ev:=yi w3 g 2 _ _ _ (cj w3 hG.1);go_simp;exact HK.out _ _ rfl (GS.out _ _ _ hG) (fun j u _ _ _ h=>h)
     |2,_=>obtain rfl:=yH ho;clear Hd Hb;refine yG ?_;go_simp;exact HK.out _ _ ⟨_,rfl,hG.1.size,yw _ _⟩ (GB.out _ _ _ _ hG (AD _ _)) (fun j u _ _ _ h=>LY h (AW (AD _ _) none) (fun k hk=>by cases hk) (.inr rfl))
     |3,_=>
      obtain rfl:=yH ho;have e0:a.tmps[0]?.getD undef= .slice (some ⟨b,az,none⟩) vs.length cv:=by rw[OV Hb 0];rfl
      clear Hd Hb;refine yG ?_;go_simp;exact HK.out _ _ rfl (GS.out _ _ _ hG) (fun j u _ _ _ h=>h)
     |4,_=>
      obtain rfl:=yH ho;have e5:a.tmps[5]?.getD undef= .int .i64 k:=by rw[OV Hb 5];rfl
      clear Hd Hb;refine yG ?_;go_simp;exact HK.out _ _ rfl (GS.out _ _ _ hG) (fun j u _ _ _ h=>h)
     |5,_=>
      obtain rfl:=yH ho;have d3:=BT Hd 3
      change a.tmps[27]?.getD undef= .slice (some ⟨b,az,none⟩) vs.length cv at d3
      have d4:=BT Hd 4
      change a.tmps[28]?.getD undef= .int .i64 k at d4
      clear Hd Hb;refine yG ?_;go_simp;exact HK.out _ _ rfl (GS.out _ _ _ hG) (fun j u _ _ _ h=>h)
     |6,_=>
      obtain rfl:=yH ho;have d5:=BT Hd 5
      change a.tmps[29]?.getD undef= .pointer (some ⟨b,az+k,none⟩) at d5
      clear Hd Hb;refine yG ?_;have cu:w3.cell? ⟨b,az+k,none⟩=some u:=(World.cell?_of_block (ch w3 hG.1 b c7)).trans D;go_simp;exact HK.out _ _ rfl (GS.out _ _ _ hG) (fun j u _ _ _ h=>h)
     |7,_=>
      obtain rfl:=yH ho;have d2:=BT Hd 2
      change ∃g2,a.tmps[26]?.getD undef= .slice (some ⟨g2,0,none⟩) 0 0/\_<=g2/\_ at d2
      have d6:=BT Hd 6
      change a.tmps[30]?.getD undef=u at d6
      clear Hd Hb;refine yG ?_;obtain⟨g2,d2,ef,ee⟩:=d2;obtain⟨v7,w4,bh,r1,r2,r3⟩:=DV (lo:=w2.heap.size) (w:=w3) (t:=60) (ty:=60) 9 _ 1 16 underlying60 Tryz.yY rfl (by decide) ee ef (BJ.keep Ru (fun k hk=>(ch w3 hG.1 k hk).trans (ar.block k hk))) Yo (by omega);refine Cr rfl (Bk d2) (Bk d6) bh ?_;exact HK.out _ _ r1 (GB.out _ _ _ _ hG r2) (fun j u _ _ _ h=>LY h (AW r2 none) (fun k hk=>by cases hk) (.inr rfl))
     |8,_=>
      obtain rfl:=yH ho;have d7:=BT Hd 7
      change AP _ _ _ _ _ (a.tmps[31]?.getD undef) _ at d7
      clear Hd Hb;refine yG ?_;generalize e31:a.tmps[31]?.getD undef=r at d7;have W:=AA (show ZY W0.heap.size w2.heap.size g (.slice (some ⟨b,az,none⟩) vs.length cv) u ev b (az+k) k ts ps (IG (List.take k a6)) 8 (.agg #[r, .int .i64 (-1)]) w3 from⟨r,rfl,d7⟩);obtain⟨_,_,rfl,_,_⟩:=d7.rd.shape;clear d7;go_simp;exact HK.out _ _ W.out (GS.out _ _ _ hG) (fun j u _ _ _ h=>h)
     |9,_=>
      obtain rfl:=yH ho;have d8:=BT Hd 8
      change ∃r,a.tmps[32]?.getD undef= .agg #[r, .int .i64 (-1)]/\_ at d8
      clear Hd Hb;refine yG ?_;obtain⟨r,d8,ec⟩:=d8;go_simp;exact HK.out _ _ ⟨r,_,rfl,hG.1.size,yw _ _,AP.below ec (AD _ _)⟩ (GB.out _ _ _ _ hG (AD _ _)) (fun j u _ _ _ h=>LY h (AW (AD _ _) none) (fun k hk=>by cases hk) (.inr rfl))
     |10,_=>
      obtain rfl:=yH ho;have d1:=BT Hd 1
      change a.tmps[25]?.getD undef=ev at d1
      have d9:=BT Hd 9
      change ∃r g9,a.tmps[33]?.getD undef= .slice (some ⟨g9,0,none⟩) 1 1/\_<=g9/\_/\_ at d9
      clear Hd Hb;refine yG ?_;obtain⟨r,g9,d9,eI,du,dt⟩:=d9;have bo:=hG.2 HL.out.1;have dC:=bg;have bg:=bg.below bo;obtain⟨i0,cB,cx,cw,ct⟩:=info_parts Tryz.yT;have be:ps.length<=3:=by rw[bg.2.1.1];simp[IG];omega
      obtain⟨eo,w4,bh,r1,r2,_,r4⟩:=run_append_own_at (P:=prog) w3 W0.heap.size 25 25 62 i0 _ 2 32 underlying25 cB cx cw ct rfl (by decide) ev ps.length (Ch EX ps) bg.1 ⟨g9,0,none⟩ 1 1 [r, .int .i64 (-1)] rfl (by
       intro j x hx
       match j,hx with
       |0,hx=>simp at hx;subst hx;exact yi w3 g9 0 _ _ _ du
       |1,hx=>simp at hx;subst hx;exact yi w3 g9 1 _ _ _ du) (by
       obtain⟨_,_,rfl,_,_⟩:=dt.rd.shape;simp[xE]) (by simp only[maxLen];omega) (by omega) (yD ad.size bo.size)
      clear cB cx cw ct;refine Cr rfl (Bk d1) (Bk d9) bh ?_;exact HK.out _ _ ⟨r,dC.push bo ad.size (yv _) dt r1 r2⟩ ⟨AO hG.1 r2,fun h=>by simp[F8] at h⟩ (fun j x hj _ _ h=>LY h r2 b8 (.inl hj))
     |11,_=>
      obtain rfl:=yH ho;have e4:a.tmps[4]?.getD undef= .pointer (some ⟨g,0,none⟩):=by rw[OV Hb 4];rfl
      clear Hd Hb;refine yG ?_;go_simp;exact HK.out _ _ rfl (GS.out _ _ _ hG) (fun j u _ _ _ h=>h)
    .intro xs w3 hR L hL hG
     obtain⟨r,o5⟩:=BZ hR 10;have dr:xs 11= .pointer (some ⟨g,2,none⟩):=BZ hR 11;have hG:=hG.1;clear hR hL;simp only[Al,AV,yE,yB,yA,yy,dr];simp;generalize xs 0=z0;generalize xs 1=z1;generalize xs 2=z2;generalize xs 3=z3;generalize xs 4=z4;generalize xs 5=z5;generalize xs 6=z6;generalize xs 7=z7;generalize xs 8=z8;generalize xs 9=z9;generalize xs 10=ev' at o5;clear dr;have bo:=cj w3 hG;have au:=Aq w3 g 2 ev';have St:X3 W0 W0.heap.size g (IG (a6.take (k+1))) (w3.setCell ⟨g,2,none⟩ ev'):=by
      have e1:IG (a6.take (k+1))=IG (a6.take k)++[⟨ts,-1⟩]:=by rw[Cw dv.out];simp[IG]
      rw[e1];refine⟨m,iv,ev',c,rs,_,?_,hg,?_,?_,o5.yN au bo,?_,?_⟩
      .have:=yu w3 g 2 _ 28 ev' bo
       simpa using this
      .exact At.yN (o1.kept hG bg.1 (by decide) (by decide)) au bo
      .exact AP.yN (Au o2 hG (A7 o2 bg.1 (by decide)).ne) au bo
      .exact AP.yN (Au o4 hG (A7 o4 bg.1 (by decide)).ne) au bo
      .exact(ad.grown hG ad.size (fun k hk=>bu k hk)).setCell hg _
     obtain⟨_,_,rfl,_,_⟩:=o5.1.rd.shape;obtain⟨_,_,rfl,_,_⟩:=bg.1.rd.shape;obtain⟨c0,c1,c2,c3⟩:=AF bo;have bf:=AK bo;simp only[yl,vw,wP,uU] at St;clear bo au o5 o1 o2 bg o4 cj ch GS GB cC b8 bu;go_wp2_with fail;go_roundw
     case rel=>exact⟨k+1,by omega,by go_num,St⟩
     case measure=>simp[intOf];omega
   .obtain rfl:k=3:=by omega
    have e3:a6.take 3=a6:=wv (by rw[H3.out];omega);rw[e3] at o3;have b7:¬(3:Int)<vs.length:=by omega
    have ew:((vs.length:Int) !=3)=false:=by simp;omega
    have a8:g≠w.heap.size:=by omega
    have bb:wr.heap[w.heap.size]? =some (.cells #[.slice none 0 0, .slice none 0 0, .slice none 0 0, .slice none 0 0] 28 (0,0)):=(ad.block _ (by omega)).trans dd;have S:=AA (show ∀w',wr.grownBy w' (some w.heap.size)->ag w true (Mg a6) (.returned (.tuple #[.agg #[m,iv,ev,c], .bool true])) w' from fun w' bt=>⟨m,iv,ev,c,rfl,⟨⟨rs,(o1.yN bt bb).lower ao.size⟩,(o2.yN bt bb).lower ao.size,⟨ps,(o3.yN bt bb).lower ao.size⟩,(o4.yN bt bb).lower ao.size⟩,(ao.trans (ad.mono ao.size)).grown bt (ao.trans (ad.mono ao.size)).size (fun k hk=>by cases hk;exact yv _)⟩)
    have au:wr.grownBy ((((wr.setCell ⟨w.heap.size,0,none⟩ m).setCell ⟨w.heap.size,1,none⟩ iv).setCell ⟨w.heap.size,2,none⟩ ev).setCell ⟨w.heap.size,3,none⟩ c) (some w.heap.size):=An (An (An (Aq wr w.heap.size 0 m) 1 iv) 2 ev) 3 c;obtain⟨E0,E1,E2,E3⟩:=AF (Cs (m':=m) (i':=iv) (e':=ev) (c':=c) bb);have HE:=AA (ye E0 (ye E1 (ye E2 E3)));clear E0 E1 E2 E3;obtain⟨_,_,rfl,_,_⟩:=o1.1.rd.shape;obtain⟨_,_,rfl,_,_⟩:=o2.rd.shape;obtain⟨_,_,rfl,_,_⟩:=o3.1.rd.shape;obtain⟨_,_,rfl,_,_⟩:=o4.rd.shape;obtain⟨c0,c1,c2,c3⟩:=AF hB;obtain⟨d0,d1,d2,d3⟩:=AF bb;have bf:=AK bb;clear hB bb o1 o2 o3 o4;simp only[vU,wP] at HE S au ⊢;go_wp2_with fail;exact bodyPost_ret (v:= .tuple #[.agg #[_,_,_,_], .bool true]) (by simp[results,Tryz.results152,go_sem,HE.out]) rfl (S.out _ au)
def U5 (lo:Nat) (w:World) (v:Value) (r:List Int):Prop:=∃u g,v= .slice (some ⟨g,0,none⟩) 1 1/\lo<=g/\w.heap[g]? =some (.cells #[u] 29 (0,0))/\AG lo w u r
def U4 (lo:Nat) (w:World) (v:Value) (ts:List ByteArray):Prop:=∃u g,v= .slice (some ⟨g,0,none⟩) 1 1/\lo<=g/\w.heap[g]? =some (.cells #[u, .int .i64 (-1)] 62 (0,0))/\AP lo 9 1 BB w u ts
theorem U5.past {lo:Nat} {w:World} {row:Option Nat} (h:U5 lo w v r) (hg:w.grownBy w' row) (hr:∀k,row=some k->k<lo):U5 lo w' v r:=by obtain⟨u,g,h0,h1,h2,h3⟩:=h;exact⟨u,g,h0,h1,Fg h2 h1 hg hr,Bp h3 hg hr⟩
theorem U4.past {lo:Nat} {w:World} {row:Option Nat} (h:U4 lo w v ts) (hg:w.grownBy w' row) (hr:∀k,row=some k->k<lo):U4 lo w' v ts:=by obtain⟨u,g,h0,h1,h2,h3⟩:=h;exact⟨u,g,h0,h1,Fg h2 h1 hg hr,Bp h3 hg hr⟩
theorem Lf {α:Type} (cs:α->List Value) (lo e sz:Nat) (w:World):AP lo e sz cs w (.slice none 0 0) []:=World.ownsRow_nil _ _ _ _
theorem Dd {lo e sz g T:Nat} {w:World} {xs:List Value} {bl:Array Value} (h:w.ownsRow lo e sz v n xs) (hB:w.heap[g]? =some (.cells bl T (0,0))) (a8:e≠T):v.ownBlock≠some g:=fun he=>by obtain⟨c,hc⟩:=A6 h g he;rw[hB] at hc;simp at hc;exact a8 hc.2.symm
def Ic (lo:Nat) (w:World) (g:Nat) (m i e c:Value) (k:AN):Prop:=w.heap[g]? =some (.cells #[m,i,e,c] 28 (0,0))/\lo<=g/\DO lo w m i e c k
theorem Ic.below {lo g:Nat} {w:World} {m i e c:Value} {k:AN} (h:Ic lo w g m i e c k) (hb:Below w.heap.size w w'):Ic lo w' g m i e c k:=⟨AC h.1 hb,h.2.1,h.2.2.below hb⟩
theorem Ic.cells {lo g:Nat} {w:World} {m i e c:Value} {k:AN} (h:Ic lo w g m i e c k):w.cell? ⟨g,0,none⟩=some m/\w.cell? ⟨g,1,none⟩=some i/\w.cell? ⟨g,2,none⟩=some e/\w.cell? ⟨g,3,none⟩=some c:=AF h.1
section
variable {lo g:Nat} {w w1:World} {m i e c:Value} {k:AN}
theorem KE {T:Nat} {bl:Array Value} (hB:w.heap[g]? =some (.cells #[m,i,e,c] 28 (0,0))) (hg:w.grownBy w1 (some b)) (hb:w.heap[b]? =some (.cells bl T (0,0))) (hT:28≠T):w1.heap[g]? =some (.cells #[m,i,e,c] 28 (0,0)):=by
 refine(hg.block g (AY hB) fun he=>?_).trans hB;cases he;rw[hB] at hb;simp at hb;exact hT hb.2
theorem Ic.Os (h:Ic lo w g m i e c k) (aq:lo<=w.heap.size) (hb:Below w.heap.size w w1) {i':Value} {xs:List AU} (h2:AP w.heap.size 93 3 A2 w1 i' xs):Ic lo (w1.setCell ⟨g,1,none⟩ i') g m i' e c {k with Os:=xs}:=by obtain⟨hB,hg,⟨vs,o1⟩,o2,⟨ps,o3⟩,o4⟩:=h.below hb;have au:=Aq w1 g 1 i';refine⟨?_,hg,⟨vs,o1.yN au hB⟩,(h2.lower aq).yN au hB,⟨ps,o3.yN au hB⟩,o4.yN au hB⟩;have:=yu w1 g 1 _ 28 i' hB;simpa using this
theorem Ic.zY (h:Ic lo w g m i e c k) (aq:lo<=w.heap.size) (hb:Below w.heap.size w w1) {c':Value} {xs:List Ak} (h2:AP w.heap.size 98 4 Ae w1 c' xs):Ic lo (w1.setCell ⟨g,3,none⟩ c') g m i e c' {k with zY:=xs}:=by obtain⟨hB,hg,⟨vs,o1⟩,o2,⟨ps,o3⟩,o4⟩:=h.below hb;have au:=Aq w1 g 3 c';refine⟨?_,hg,⟨vs,o1.yN au hB⟩,o2.yN au hB,⟨ps,o3.yN au hB⟩,(h2.lower aq).yN au hB⟩;have:=yu w1 g 3 _ 28 c' hB;simpa using this
theorem Ic.info {ab:Nat} (h:Ic lo w g m (.slice (some ⟨gi,0,none⟩) n ab) e c k) (hn:n=k.Os.length) {f j:Nat} {x y:AU} {u:Value} (hk:k.Os[f]? =some x) (hj:j<3) (hy:A2 y=(A2 x).set j u):
 Ic lo (w.setCell ⟨gi,f*3+j,none⟩ u) g m (.slice (some ⟨gi,0,none⟩) n ab) e c {k with Os:=k.Os.set f y}/\w.grownBy (w.setCell ⟨gi,f*3+j,none⟩ u) (some gi)/\lo<=gi:=by
 obtain⟨hB,hg,⟨vs,o1⟩,o2,⟨ps,o3⟩,o4⟩:=h;subst hn;have S:=AP.zz Az o2 hk hj hy;obtain⟨bl,hc⟩:=A6 o2 gi rfl;exact⟨⟨KE hB S.2 hc (by decide),hg,⟨vs,o1.yN S.2 hc⟩,S.1,⟨ps,o3.yN S.2 hc⟩,o4.yN S.2 hc⟩,S.2,(yr o2 gi rfl).1⟩
end
theorem At.turn {lo:Nat} {w:World} {m:List (List Int)} (h:At lo w v vs m) (hf:f<m.length) (hu:vs[f]? =some u) (hr:AG lo w' u r) (hg:w.grownBy w' u.ownBlock):At lo w' v vs (m.set f r):=by
 obtain⟨a1,a2,a3⟩:=h;have hx:=a2.2 f u _ hu (yx hf);refine⟨Au a1 hg (A7 a1 hx LP).ne,⟨by rw[xV];exact a2.1,fun j y ys hy b5=>?_⟩,a3⟩
 by_cases e:f=j
 .subst e
  rw[hu] at hy;cases hy;rw[xK hf] at b5;cases b5;exact hr
 .rw[wI e] at b5
  exact Au (a2.2 j y ys hy b5) hg (a3 j f y u (fun h=>e h.symm) hy hu).ne
theorem At.row {lo:Nat} {w:World} {m:List (List Int)} (h:At lo w v vs m) {f:Nat} (hf:f<m.length) (h0:0<(AH m f).length):
 ∃gw ab,vs[f]? =some (.slice (some ⟨gw,0,none⟩) (AH m f).length ab)/\AG lo w (.slice (some ⟨gw,0,none⟩) (AH m f).length ab) (AH m f)/\lo<=gw/\gw<w.heap.size:=by
 obtain⟨a1,a2,a3⟩:=h;obtain⟨u,hu⟩:∃u,vs[f]? =some u:=⟨_,yx (by rw[a2.1];exact hf)⟩
 have hx:=a2.2 f u (AH m f) hu (by unfold AH;exact A1 hf);obtain⟨gw,ab,rfl,h1,h2⟩:=JE hx h0;exact⟨gw,ab,hu,hx,h1,h2⟩
section
variable {lo g:Nat} {w w1:World} {m i e c:Value} {k:AN}
theorem Ic.row (h:Ic lo w g m i e c k) {vs:List Value} (hv:At lo w m vs k.mem) {f gw n ab:Nat} {r:List Int} (hf:f<k.mem.length) (hu:vs[f]? =some (.slice (some ⟨gw,0,none⟩) n ab)) (hr:AG lo w1 (.slice (some ⟨gw,0,none⟩) n ab) r) (hg:w.grownBy w1 (some gw)):
 Ic lo w1 g m i e c {k with mem:=k.mem.set f r}:=by
 obtain⟨hB,dn,_,o2,⟨ps,o3⟩,o4⟩:=h;have hx:=hv.2.1.2 f _ _ hu (yx hf);obtain⟨bl,hc⟩:=A6 hx gw rfl;exact⟨KE hB hg hc (by decide),dn,⟨vs,hv.turn hf hu hr hg⟩,o2.yN hg hc,⟨ps,o3.yN hg hc⟩,o4.yN hg hc⟩
theorem Ic.root {ab:Nat} (h:Ic lo w g m i (.slice (some ⟨ge,0,none⟩) n ab) c k) (hn:n=k.zZ.length) {j:Nat} (hj:j<k.zZ.length) (r:Int):
 Ic lo (w.setCell ⟨ge,j*2+1,none⟩ (.int .i64 r)) g m i (.slice (some ⟨ge,0,none⟩) n ab) c {k with zZ:=Ar k.zZ j (Dk r)}/\w.grownBy (w.setCell ⟨ge,j*2+1,none⟩ (.int .i64 r)) (some ge)/\lo<=ge:=by
 obtain⟨hB,hg,⟨vs,o1⟩,o2,⟨ps,a1,a2,a3⟩,o4⟩:=h;have be:ps.length=k.zZ.length:=a2.1;rw[<-be] at hn;subst hn;have bz:j<ps.length:=by omega
 have S:=AP.zz FW a1 (k:=j) (x:=ps[j]) (yx bz) (j:=1) (by decide) (y:=(ps[j].1,r)) (u:= .int .i64 r) rfl;obtain⟨bl,hc⟩:=A6 a1 ge rfl;refine⟨⟨KE hB S.2 hc (by decide),hg,⟨vs,o1.yN S.2 hc⟩,o2.yN S.2 hc,⟨ps.set j (ps[j].1,r),?_,⟨?_,?_⟩,?_⟩,o4.yN S.2 hc⟩,S.2,(yr a1 ge rfl).1⟩
 .exact S.1
 .rw[xV,Cy];exact be
 .intro q p ev hp bk
  rw[JD (d:=⟨[],0⟩)] at bk
  by_cases e:j=q
  .subst e
   rw[xK bz] at hp;rw[xK hj] at bk;cases hp;cases bk;have hx:=a2.2 j ps[j] (k.zZ.getD j ⟨[],0⟩) (yx bz) (A1 hj);exact⟨hx.1.yN S.2 hc,rfl⟩
  .rw[wI e] at hp bk
   have hx:=a2.2 q p ev hp bk;exact⟨hx.1.yN S.2 hc,hx.2⟩
 .rw[tZ,show ps[j].1=(ps.map (·.1))[j]'(by simpa using bz) by simp,List.set_getElem_self]
  exact a3
theorem Ic.zV {ab:Nat} (h:Ic lo w g m i (.slice (some ⟨ge,0,none⟩) n ab) c k) (hn:n=k.zZ.length) (aq:lo<=w.heap.size) (hb:Below w.heap.size w w1) {j:Nat} (hj:j<k.zZ.length) {u:Value} {ss:List ByteArray} (hu:AP w.heap.size 9 1 BB w1 u ss):
 Ic lo (w1.setCell ⟨ge,j*2,none⟩ u) g m i (.slice (some ⟨ge,0,none⟩) n ab) c {k with zZ:=Ar k.zZ j (BV ss)}/\w1.grownBy (w1.setCell ⟨ge,j*2,none⟩ u) (some ge)/\lo<=ge:=by
 have h':=h.below hb;obtain⟨dd,dn,_,_,⟨b4,b1,b2,b3⟩,_⟩:=h;obtain⟨hB,hg,⟨vs,o1⟩,o2,_,o4⟩:=h';have a1:=AP.below b1 hb;have be:b4.length=k.zZ.length:=b2.1;rw[<-be] at hn;subst hn;have bz:j<b4.length:=by omega
 have S:=AP.zz FW a1 (k:=j) (x:=b4[j]) (yx bz) (j:=0) (by decide) (y:=(u,b4[j].2)) (u:=u) rfl;rw[xQ] at S;obtain⟨bl,hc⟩:=A6 a1 ge rfl;have a8:9≠62:=by decide
 refine⟨⟨KE hB S.2 hc (by decide),hg,⟨vs,o1.yN S.2 hc⟩,o2.yN S.2 hc,⟨b4.set j (u,b4[j].2),?_,⟨?_,?_⟩,?_⟩,o4.yN S.2 hc⟩,S.2,(yr a1 ge rfl).1⟩
 .exact S.1
 .rw[xV,Cy];exact be
 .intro q p ev hp bk
  rw[JD (d:=⟨[],0⟩)] at bk
  by_cases e:j=q
  .subst e
   rw[xK bz] at hp;rw[xK hj] at bk;cases hp;cases bk;have hx:=b2.2 j b4[j] (k.zZ.getD j ⟨[],0⟩) (yx bz) (A1 hj);exact⟨(hu.lower aq).yN S.2 hc a8,hx.2⟩
  .rw[wI e] at hp bk
   have hx:=b2.2 q p ev hp bk;exact⟨(hx.1.below hb).yN S.2 hc a8,hx.2⟩
 .rw[tZ]
  intro x y a b dj ha bV;have yN:∀(q:Nat) (p:Value×Int),b4[q]? =some p->Fa p.1 u:=fun q p hq=>by
   obtain⟨ev,bk⟩:∃ev,k.zZ[q]? =some ev:=⟨_,yx (by rw[<-be];exact(yq.1 hq).1)⟩
   exact J1 (B:=0) (b2.2 q p ev hq bk).1 (fun k hk=>(hu.lt k hk).1)
  by_cases e1:j=x
  .subst e1
   rw[xK (by simpa using bz)] at ha;cases ha;rw[wI dj] at bV;rw[wQ] at bV;obtain⟨p,hp,rfl⟩:=uh.1 bV;exact(yN y p hp).symm
  .rw[wI e1] at ha
   by_cases e2:j=y
   .subst e2
    rw[xK (by simpa using bz)] at bV;cases bV;rw[wQ] at ha;obtain⟨p,hp,rfl⟩:=uh.1 ha;exact yN x p hp
   .rw[wI e2] at bV
    exact b3 x y a b dj ha bV
end
def SI (w:World) (a:Option Addr) (es:List EN):Prop:=∀j,j<es.length->∃b az ua uc,a=some ⟨b,az,none⟩/\b<w.heap.size/\w.cell? ⟨b,az+j*2,none⟩=some (.slice ua (AJ es j).zV.length uc)/\w.cell? ⟨b,az+j*2+1,none⟩=some (.int .i64 (AJ es j).root)/\BP w (.slice ua (AJ es j).zV.length uc) (AJ es j).zV
theorem Fk.open {w:World} (h:Fk w v es):∃a ab,v= .slice a es.length ab/\es.length<=ab/\ab<=maxLen/\SI w a es:=by
 obtain⟨ps,h1,h2⟩:=h;obtain⟨a,ab,rfl,hc,c5,H⟩:=BJ.open FW (by decide) h1;refine⟨a,ab,by rw[h2.1],by rw[<-h2.1];exact hc,c5,fun j hj=>?_⟩;have hp:j<ps.length:=by rw[h2.1];exact hj
 obtain⟨b,az,rfl,ay,ba⟩:=H j _ (yx hp);have hr:=h2.2 j _ (AJ es j) (yx hp) (by unfold AJ;exact A1 hj);obtain⟨ua,uc,e,_,_⟩:=hr.1.shape;refine⟨b,az,ua,uc,rfl,ay,?_,?_,?_⟩
 .have:=ba 0 _ rfl
  rw[e] at this;exact this
 .have:=ba 1 _ rfl
  rw[hr.2] at this;exact this
 .rw[<-e];exact hr.1
theorem SI.below {w:World} {a:Option Addr} (h:SI w a es) (hb:Below w.heap.size w w'):SI w' a es:=by intro j hj;obtain⟨b,az,ua,uc,rfl,ay,h0,h1,h2⟩:=h j hj;exact⟨b,az,ua,uc,rfl,xZ ay hb.size,(hb.cell (p:=⟨b,az+j*2,none⟩) ay).trans h0,(hb.cell (p:=⟨b,az+j*2+1,none⟩) ay).trans h1,BJ.below h2 hb⟩
theorem Fq {Os:List AU} {a b:List Nat} (h:∀g,g∈a↔g∈b):BC Os a ss=BC Os b ss:=by
 unfold BC;rw[wF];simp only[yk];exact⟨fun H g hg=>H g ((h g).2 hg),fun H g hg=>H g ((h g).1 hg)⟩
section
variable {k:AN}
theorem Yb (h:Bs k.mem=false):Cj k=false:=by simp[Cj,h]
theorem Vc (h:BK k.Os=false):Cj k=false:=by simp[Cj,h]
theorem Vb (h:BQ k.zY=false):Cj k=false:=by simp[Cj,h]
theorem XI (h:k.zZ.length≠3):Cj k=false:=by simp[Cj,Ig,h]
theorem Ma {j:Nat} (hj:j<k.zZ.length) (h:Dp k (AJ k.zZ j)=false):Cj k=false:=by have:k.zZ.all (Dp k)=false:=wk.2 ⟨AJ k.zZ j,by unfold AJ;exact yg (A1 hj),by simp[h]⟩;simp[Cj,Ig,this]
theorem Yc (hf:f<12) (h:DY k f=false):Cj k=false:=by have:(yE 12).all (DY k)=false:=wk.2 ⟨f,yj.2 hf,by simp[h]⟩;simp[Cj,this]
theorem UL (hf:f<12) (h:Gl k f=false):Cj k=false:=by have:(yE 12).all (Gl k)=false:=wk.2 ⟨f,yj.2 hf,by simp[h]⟩;simp[Cj,this]
theorem Vd {j:Nat} (hj:j<k.zY.length) (h:Cm k (AT k.zY j)=false):Cj k=false:=by have:k.zY.all (Cm k)=false:=wk.2 ⟨AT k.zY j,by unfold AT;exact yg (A1 hj),by simp[h]⟩;simp[Cj,this]
theorem Yd (h1:Bs k.mem=true) (h2:BK k.Os=true) (h3:BQ k.zY=true) (h4:k.zZ.length=3) (h5:∀j,j<3->Dp k (AJ k.zZ j)=true)
 (h6:∀f,f<12->DY k f=true/\Gl k f=true) (h7:∀j,j<k.zY.length->Cm k (AT k.zY j)=true):Cj k=true:=by
 have a1:k.zZ.all (Dp k)=true:=yk.2 fun x hx=>by
  obtain⟨j,hj,rfl⟩:=wO hx;have:=h5 j (by omega);unfold AJ at this
  rwa [xU,yx hj] at this
 have a2:(yE 12).all (DY k)=true:=yk.2 fun f hf=>(h6 f (yj.1 hf)).1
 have a3:(yE 12).all (Gl k)=true:=yk.2 fun f hf=>(h6 f (yj.1 hf)).2
 have a4:k.zY.all (Cm k)=true:=yk.2 fun x hx=>by
  obtain⟨j,hj,rfl⟩:=wO hx;have:=h7 j hj;unfold AT at this
  rwa [xU,yx hj] at this
 simp[Cj,Ig,h1,h2,h3,h4,a1,a2,a3,a4]
def EZ (k:AN) (j:Nat):List Int:=(yE 12).map fun g=>(countP k.mem k.Os g:Int)+(EI (k.zZ.take j) g:Int)
theorem Dm {j:Nat}:(EZ k j).length=12:=by simp[EZ]
theorem LF {j g:Nat} (h:g<12):nth (EZ k j) g=(countP k.mem k.Os g:Int)+(EI (k.zZ.take j) g:Int):=by unfold EZ nth;rw[xU,wQ,List.getElem?_range h];rfl
theorem Rn:EZ k 0=(yE 12).map fun g=>(countP k.mem k.Os g:Int):=by unfold EZ;rw[List.take_zero];simp[EI]
theorem Pw {j g:Nat} (hj:j<k.zZ.length):EI (k.zZ.take (j+1)) g=EI (k.zZ.take j) g+(if(AJ k.zZ j).root=(g:Int) then 1 else 0):=by
 have h:k.zZ[j]? =some (AJ k.zZ j):=by unfold AJ;exact A1 hj
 rw[Cw h];unfold EI;rw[List.countP_append,List.countP_singleton];simp
theorem Wc {j:Nat} (hj:j<k.zZ.length) (h:(AJ k.zZ j).root<0):EZ k (j+1)=EZ k j:=by
 unfold EZ;refine List.map_congr_left fun g _=>?_
 rw[Pw hj,if_neg (by omega),xQ]
theorem Uj {j r:Nat} (hj:j<k.zZ.length) (h:(AJ k.zZ j).root=(r:Int)) (hr:r<12):EZ k (j+1)=(EZ k j).set r (nth (EZ k j) r+1):=by
 refine LZ (by simp[EZ]) fun g hg=>?_
 rw[Dm] at hg;rw[Sz (by rw[Dm];exact hr),LF hg,LF hr,Pw hj,h]
 by_cases e:g=r
 .subst e;simp;omega
 .rw[if_neg e,LF hg,if_neg (by intro h;apply e;omega)];simp
theorem Pq (hm:Bs k.mem=true) {j g:Nat} (he:k.zZ.length=3) (hg:g<12):0<=nth (EZ k j) g/\nth (EZ k j) g<=103:=by
 rw[LF hg];have h1:countP k.mem k.Os g<=100:=by have:=PC (Os:=k.Os) (g:=g) hm (yv 12) (Nat.zero_le 4);unfold IP at this;unfold countP;omega
 have h2:EI (k.zZ.take j) g<=3:=by
  have:=List.countP_le_length (p:=fun e:EN=>decide (e.root=(g:Int))) (l:=k.zZ.take j);rw[List.length_take] at this;unfold EI;omega
 omega
theorem Pp (he:k.zZ.length=3) {f:Nat} (hf:f<12):Gl k f=decide ((zU k.Os f).r=nth (EZ k 3) f):=by rw[LF hf,wv (by omega)];rfl
end
def GQ (lo:Nat) (m:List (List Int)) (root:Int) (w:World) (v:Value):Prop:=∃ts,AG lo w v (Ay ts)/\∀g,g∈ts↔g∈BY m root
theorem GQ.below {lo:Nat} {m:List (List Int)} {root:Int} {w:World} (h:GQ lo m root w v) (hb:Below w.heap.size w w'):GQ lo m root w' v:=by obtain⟨ts,h1,h2⟩:=h;exact⟨ts,AG.below h1 hb,h2⟩
theorem zy {m:List (List Int)} {root:Int} (hr:root<12):∀g∈BY m root,g<12:=by
 intro g hg;obtain⟨h0,h⟩:=DU.1 hg;have hn:∀t:Nat,∀x∈named (AH m t),x<12:=fun t x hx=>by unfold named at hx;obtain⟨y,hy,rfl⟩:=vH.1 hx;exact EH (List.mem_filter.1 hy).2
 rcases h with rfl|h|⟨t,_,h⟩
 .omega
 .exact hn _ _ h
 .exact hn _ _ h
def Ab.onCells (g:Nat) (c:Ab):Array Value:= #[.pointer (some ⟨g,0,none⟩), .int .i64 c.k, .int .i64 c.e, .int .i64 c.a, .int .i64 c.b, .int .i64 c.c, .string c.nm]
def Ab.on (g:Nat) (c:Ab):Value:= .agg (c.onCells g)
theorem J0 {w:World} {g:Nat} {c:Ab} {T:Nat} (h:w.heap[b]? =some (.cells (c.onCells g) T (0,0))):w.cell? ⟨b,0,none⟩=some (.pointer (some ⟨g,0,none⟩))/\w.cell? ⟨b,1,none⟩=some (.int .i64 c.k)/\w.cell? ⟨b,2,none⟩=some (.int .i64 c.e)/\w.cell? ⟨b,3,none⟩=some (.int .i64 c.a)/\w.cell? ⟨b,4,none⟩=some (.int .i64 c.b)/\w.cell? ⟨b,5,none⟩=some (.int .i64 c.c)/\w.cell? ⟨b,6,none⟩=some (.string c.nm):=
 ⟨yi _ _ 0 _ _ _ h,yi _ _ 1 _ _ _ h,yi _ _ 2 _ _ _ h,yi _ _ 3 _ _ _ h,yi _ _ 4 _ _ _ h,yi _ _ 5 _ _ _ h,yi _ _ 6 _ _ _ h⟩
theorem Ic.env {lo g:Nat} {w:World} {m i e c:Value} {k:AN} (h:Ic lo w g m i e c k) {j:Nat} (hj:j<k.zZ.length):
 ∃ge ab ua uc,e= .slice (some ⟨ge,0,none⟩) k.zZ.length ab/\ge<w.heap.size/\w.cell? ⟨ge,j*2,none⟩=some (.slice ua (AJ k.zZ j).zV.length uc)/\w.cell? ⟨ge,j*2+1,none⟩=some (.int .i64 (AJ k.zZ j).root)/\BP w (.slice ua (AJ k.zZ j).zV.length uc) (AJ k.zZ j).zV/\∀q,w.frozen? ⟨ge,q,none⟩=false:=by
 have hr:=h.2.2.rd.2.2.1;obtain⟨ps,o⟩:=h.2.2.2.2.1;have be:ps.length=k.zZ.length:=o.2.1.1;obtain⟨ge,ab,rfl,_,ay⟩:=JE o.1 (by omega);obtain⟨a,cp,hv,_,_,H⟩:=Fk.open hr;simp only[xD] at hv;obtain⟨rfl,_,rfl⟩:=hv;obtain⟨b,az,ua,uc,ea,_,h0,h1,h2⟩:=H j hj;cases ea;rw[uU] at h0 h1;exact⟨ge,ab,ua,uc,by rw[be],ay,h0,h1,h2,fun q=>xP o.1 q⟩
theorem ZZ (g ge n ab en:Nat) (c:Ab) (w:World) (h2:w.cell? ⟨g,2,none⟩=some (.slice (some ⟨ge,0,none⟩) n ab)) (he:c.e=(en:Int)) (hn:en<n):
 Calls prog 221 #[c.on g] w fun e w'=>e= .returned (.pointer (some ⟨ge,en*2,none⟩))/\Below w.heap.size w w':=by
 obtain⟨k,e,a,b,cc,nm⟩:=c;simp only at he;subst he;simp only[Ab.on,Ab.onCells];have N:=yw w (.cells #[.pointer (some ⟨g,0,none⟩), .int .i64 k, .int .i64 en, .int .i64 a, .int .i64 b, .int .i64 cc, .string nm] 162);have hb:=AD w (.cells #[.pointer (some ⟨g,0,none⟩), .int .i64 k, .int .i64 en, .int .i64 a, .int .i64 b, .int .i64 cc, .string nm] 162);have x2:=(hb.cell (p:=⟨g,2,none⟩) (yC w _ h2)).trans h2;have eu:(en:Int)<n:=by omega
 go_in;go_wp2_with fail;generalize w.alloc _=W0 at*;have y0:=yb (yi _ _ 0 _ _ _ N);have y2:=yb (yi _ _ 2 _ _ _ N);have k2:=yb x2;clear N x2 h2;refine Bn ?_
 repeat(go_big_quiet_step (fail))
 refine Bm fun wq bq=>?_
 go_wp2_with fail;go_ret;exact⟨rfl,hb.trans (bq.mono hb.size)⟩
theorem Yn {lo g:Nat} {w:World} {m i e c:Value} {k:AN} (h:Ic lo w g m i e c k) (call:Ab) (nm:ByteArray) (he:0<=call.e) (hn:call.e<k.zZ.length):
 Calls prog 186 #[call.on g, .string nm] w fun r w'=>r= .returned (.bool (FV k call.e nm))/\Below w.heap.size w w':=by
 obtain⟨en,hen⟩:∃n:Nat,call.e=(n:Int):=⟨call.e.toNat,by omega⟩
 obtain⟨ge,ab,ua,uc,rfl,dN,D0,_,R,_⟩:=h.env (j:=en) (by omega);have N:=yw w (.cells (call.onCells g) 162);have hb:=AD w (.cells (call.onCells g) 162);have CE:=AA (fun W (hW:Below w.heap.size w W)=>ZZ g ge k.zZ.length ab en call W ((hW.cell (p:=⟨g,2,none⟩) (AY h.1)).trans h.cells.2.2.1) hen (by omega));have CM:=AA (fun W (hW:Below w.heap.size w W)=>Oc _ (AJ k.zZ en).zV nm W (BJ.below R hW));have S:=AA (show Bv (AJ k.zZ en).zV nm=FV k call.e nm by unfold FV;rw[hen];rfl);have HD:=AA D0;clear h R D0 hen he hn;obtain⟨k1,e1,a1,b1,c1,dD⟩:=call;simp only[Ab.on,Ab.onCells] at N hb CE ⊢;obtain⟨y0,y1,y2,y3,y4,y5,y6⟩:=J0 (c:=⟨k1,e1,a1,b1,c1,dD⟩) N;go_in;go_wp2_with fail;refine(CE.out _ hb).mono ?_;rintro e w2 ⟨rfl,an⟩;replace an:=hb.trans (an.mono hb.size);have D:=(an.cell (p:=⟨ge,en*2,none⟩) dN).trans HD.out;clear y0 y1 y2 y3 y4 y5 y6 N hb;go_wp2_with fail;refine(CM.out _ an).mono ?_;rintro e w3 ⟨rfl,dZ⟩;go_wp2_with fail;go_ret;exact⟨AI S.out,an.trans (dZ.mono an.size)⟩
def JI (xs:List AU) (b:Int):Prop:=∀f,f<xs.length-> -b<=(zU xs f).r/\(zU xs f).r<=b
theorem Ic.zU' {lo g:Nat} {w:World} {m i e c:Value} {k:AN} (h:Ic lo w g m i e c k) {f:Nat} (hf:f<k.Os.length):
 ∃gi ab,i= .slice (some ⟨gi,0,none⟩) k.Os.length ab/\gi<w.heap.size/\lo<=gi/\w.cell? ⟨gi,f*3,none⟩=some (.int .i64 (zU k.Os f).k)/\w.cell? ⟨gi,f*3+1,none⟩=some (.string (zU k.Os f).g)/\w.cell? ⟨gi,f*3+2,none⟩=some (.int .i64 (zU k.Os f).r)/\∀q,w.frozen? ⟨gi,q,none⟩=false:=by
 have o:=h.2.2.2.1;obtain⟨gi,ab,rfl,_,_,aq,ay,bf⟩:=o.zO (by omega);obtain⟨d0,d1,d2⟩:=AP.zR o hf;exact⟨gi,ab,rfl,ay,aq,d0,d1,d2,bf⟩
theorem QT (v:Value) (xs:List AU) (f:Nat) (w:World) (h:BU w v xs) (av:BK xs=true) (hf:f<12) (hk:(zU xs f).k=1) (hr:(zU xs f).r=0):
 Calls prog 222 #[v, .int .i64 f] w fun e w'=>∃v',e= .returned (.tuple #[v', .bool true])/\AP w.heap.size 93 3 A2 w' v' (xs.set f AU.zero)/\Below w.heap.size w w':=by
 have hl:=(A0.1 av).1;have C1:=AA (fun W (hW:Below w.heap.size w W)=>by have:=Fd v xs W (BJ.below h hW) (Cb av);rw[av] at this;exact this);have C2:=AA (fun W (_:Below w.heap.size w W)=>BM (by have:=Em (f:Int) W;rw[show Bd (f:Int) 0 11=true from Ac.2 (by omega)] at this;exact this));have C3:=AA (fun W (hW:Below w.heap.size w W)=>Jk v xs W (BJ.below h hW) (by omega));obtain⟨ai,ci,rfl,dW,c6,H2⟩:=BJ.open Az (by decide) h;obtain⟨bi,br,rfl,cD,D0,_,D2⟩:=H2.zR (show f<xs.length by omega);have dT:(f:Int)<xs.length:=by omega
 have t1:((zU xs f).k !=1)=false:=by simp[hk]
 have t2:((zU xs f).r !=0)=false:=by simp[hr]
 have Hl:=AA hl;have hb:=yF w.heap.size w;clear h av hk hr H2 hl;go_in;go_wp2_with fail;refine(C1.out _ hb).mono ?_;rintro e w_ ⟨rfl,bv⟩;replace hb:=hb.trans (bv.mono hb.size);clear bv;go_wp2_with fail;refine(C2.out _ hb).mono ?_;rintro e w_ ⟨rfl,bv⟩;replace hb:=hb.trans (bv.mono hb.size);clear bv;replace D0:=(hb.cell (p:=⟨bi,br+f*3,none⟩) cD).trans D0;replace D2:=(hb.cell (p:=⟨bi,br+f*3+2,none⟩) cD).trans D2;go_wp2_with fail;clear D0 D2;refine(C3.out _ hb).mono ?_;rintro e w4 ⟨v',rfl,hO,c8⟩;obtain⟨q,ab,rfl,c1,c2,q1,q2,bf⟩:=hO.zO (by have:=Hl.out;omega);unfold maxLen at c2;have hS:=AA (AP.stored Az hO (show f<xs.length by have:=Hl.out;omega) AU.zero);obtain⟨d0,d1,d2⟩:=AP.zR hO (show f<xs.length by have:=Hl.out;omega);have hB:=AA (AM (hb.trans (c8.mono hb.size)) hS.out.2 (yD hb.size q1) (hb.trans (c8.mono hb.size)).size);have aq:=hb.size;clear hO c8 hb t1 t2;go_wp2_with fail;go_ret2;exact⟨_,rfl,hS.out.1.lower aq,hB.out⟩
theorem SN (v:Value) (xs:List AU) (f:Nat) (w:World) (h:BU w v xs) (av:BK xs=true) (hf:f<12) (hk:(zU xs f).k=1) (hr:(zU xs f).r≠0):
 Calls prog 222 #[v, .int .i64 f] w fun e w'=>e= .returned (.tuple #[.slice none 0 0, .bool false])/\Below w.heap.size w w':=by
 have hl:=(A0.1 av).1;have C1:=AA (fun W (hW:Below w.heap.size w W)=>by have:=Fd v xs W (BJ.below h hW) (Cb av);rw[av] at this;exact this);have C2:=AA (fun W (_:Below w.heap.size w W)=>BM (by have:=Em (f:Int) W;rw[show Bd (f:Int) 0 11=true from Ac.2 (by omega)] at this;exact this));obtain⟨ai,ci,rfl,dW,c6,H2⟩:=BJ.open Az (by decide) h;obtain⟨bi,br,rfl,cD,D0,_,D2⟩:=H2.zR (show f<xs.length by omega);have dT:(f:Int)<xs.length:=by omega
 have t1:((zU xs f).k !=1)=false:=by simp[hk]
 have t2:((zU xs f).r !=0)=true:=by simp[hr]
 have hb:=yF w.heap.size w;clear h av hk hr H2 hl;go_in;go_wp2_with fail;refine(C1.out _ hb).mono ?_;rintro e w_ ⟨rfl,bv⟩;replace hb:=hb.trans (bv.mono hb.size);clear bv;go_wp2_with fail;refine(C2.out _ hb).mono ?_;rintro e w_ ⟨rfl,bv⟩;replace hb:=hb.trans (bv.mono hb.size);clear bv;replace D0:=(hb.cell (p:=⟨bi,br+f*3,none⟩) cD).trans D0;replace D2:=(hb.cell (p:=⟨bi,br+f*3+2,none⟩) cD).trans D2;go_wp2_with fail;go_ret2;exact⟨rfl,hb⟩
def JF (lo g:Nat) (w:World) (res:L8) (r:Ending) (w':World):Prop:=r= .returned (.tuple #[.int .i64 res.2.1, .int .i64 res.2.2])/\(res.2.2=0->∃m i e c,Ic lo w' g m i e c res.1)/\Below lo w w'
def Gf (lo g:Nat) (w:World) (res:L8) (r:Ending) (w':World):Prop:=r= .returned (.int .i64 res.2.2)/\(res.2.2=0->∃m i e c,Ic lo w' g m i e c res.1)/\Below lo w w'
theorem JF.bad {lo g:Nat} {w:World} {k:AN} {n:Int} {res:L8} (h:res=(k,0,n)) (hn:n≠0) (hb:Below lo w w'):JF lo g w res (.returned (.tuple #[.int .i64 0, .int .i64 n])) w':=by subst h;exact⟨rfl,fun h=>absurd h hn,hb⟩
theorem Gf.bad {lo g:Nat} {w:World} {k:AN} {n:Int} {res:L8} (h:res=(k,0,n)) (hn:n≠0) (hb:Below lo w w'):Gf lo g w res (.returned (.int .i64 n)) w':=by subst h;exact⟨rfl,fun h=>absurd h hn,hb⟩
theorem Aw {k:AN} (h:DI k):Bs k.mem=true/\BK k.Os=true/\BQ k.zY=true:=by have:=EU.2 h;unfold Cj at this;simp only[yt] at this;exact⟨this.1.1.1.1.1.1,this.1.1.1.1.1.2,this.1.1.1.1.2⟩
theorem V7 {lo g ab:Nat} {w:World} (h:AG lo w (.slice (some ⟨g,0,none⟩) 4 ab) r) (hl:r.length=4):
 ∃w',(∀ty,(uC #[29] ty #[.slice (some ⟨g,0,none⟩) 4 ab]).run prog w= .ok (.tuple #[]) w')/\AG lo w' (.slice (some ⟨g,0,none⟩) 4 ab) [0,0,0,0]/\w.grownBy w' (some g):=by
 have h4:w.ownsRow lo 3 1 (.slice (some ⟨g,0,none⟩) 4 ab) 4 (r.map (yf .i64)):=by have:=h;unfold AG at this;rwa [hl] at this
 have ez:(xN (yf .i64 0).cells 4).toList=[.int .i64 0, .int .i64 0, .int .i64 0, .int .i64 0]:=by kernel_rfl
 have hst:=run_storeCells_cells (P:=prog) g 0 (xN (yf .i64 0).cells 4).toList 0 w (by
  intro j hj;have ey:j<4:=by rw[ez] at hj;exact hj
  have:=xC h4 j (by omega);simp only[uU] at this ⊢;rw[this];simp;omega) (by intro j _;exact xP h4 _) (by
  intro u hu;rw[ez] at hu;have:u= .int .i64 0:=by simpa using hu
  subst this;rfl)
 simp only[xQ] at hst;have e0:=Jr g 0 (xN (yf .i64 0).cells 4).toList 0 w;rw[xQ] at e0;refine⟨w.setCells g 0 (xN (yf .i64 0).cells 4).toList,fun ty=>?_,?_,?_⟩
 .simp[uC,run_underlying underlying29,hst]
 .rw[e0]
  obtain⟨a1,_⟩:=IX h4 0 0 (xN (yf .i64 0).cells 4).toList;have e:Iw (r.map (yf .i64)) 0 0 (xN (yf .i64 0).cells 4).toList=[0,0,0,0].map (yf .i64):=by
   rw[ez]
   match r,hl with
   | [a,b,c,d],_=>rfl
  rw[e] at a1;exact a1
 .rw[e0]
  exact(IX h4 0 0 (xN (yf .i64 0).cells 4).toList).2
theorem Ic.zf {lo g:Nat} {w:World} {m i e c:Value} {k:AN} (h:Ic lo w g m i e c k) (av:Bs k.mem=true) {f:Nat} (hf:f<12):
 ∃gm bY gw ax vs,m= .slice (some ⟨gm,0,none⟩) 12 bY/\gm<w.heap.size/\gm≠g/\w.cell? ⟨gm,f,none⟩=some (.slice (some ⟨gw,0,none⟩) 4 ax)/\gw<w.heap.size/\lo<=gw/\gw≠g/\gw≠gm/\At lo w m vs k.mem/\vs[f]? =some (.slice (some ⟨gw,0,none⟩) 4 ax)/\AG lo w (.slice (some ⟨gw,0,none⟩) 4 ax) (AH k.mem f):=by
 obtain⟨vs,o⟩:=h.2.2.1;obtain⟨b6,hr⟩:=Ah.1 av;have h4:=(A5.1 (hr f hf)).1;have cz:vs.length=12:=by rw[o.2.1.1,b6]
 obtain⟨gm,bY,rfl,_,_,_,cK,_⟩:=o.1.zO (by omega);obtain⟨gw,ax,hu,hx,aq,ay⟩:=o.row (f:=f) (by omega) (by omega);rw[h4] at hu hx;have D:=AP.zB D8 o.1 hu 0 _ rfl;rw[vV,xQ] at D;have n1:gm≠g:=fun e=>Dd o.1 h.1 (by decide) (by rw[e];rfl)
 have n2:gw≠g:=fun e=>Dd hx h.1 (by decide) (by rw[e];rfl)
 have n3:gw≠gm:=fun e=>by have:=A7 hx o.1 (wH LP) gw rfl;apply this;rw[e];rfl
 rw[cz] at*;exact⟨gm,bY,gw,ax,vs,rfl,cK,n1,D,ay,aq,n2,n3,o,hu,hx⟩
theorem Xp {lo g:Nat} {w:World} {m i e c:Value} {k:AN} (h:Ic lo w g m i e c k) (aq:lo<=w.heap.size) (hK:DI k) (call:Ab) (he:0<=call.e) (hn:call.e<3) (cJ:call.nm.size<=maxLen):
 Calls prog 185 #[call.on g] w (JF lo g w (Io k call)):=by
 have N:=yw w (.cells (call.onCells g) 162);have ao:=AD w (.cells (call.onCells g) 162);obtain⟨hm,hi,hc⟩:=Aw hK;have C1:=AA (fun W (_:Below w.heap.size w W)=>Ff call.nm W cJ);have C2:=AA (fun W (hW:Below w.heap.size w W)=>Yn (h.below hW) call call.nm he (by rw[hK.zP];exact hn));have P:Io k call=if BN call.nm=false then(k,0,3) else if FV k call.e call.nm=false then(k,0,1) else if Am k.Os<0 then(k,0,4) else({k with Os:=k.Os.set (Am k.Os).toNat ⟨1,call.nm,0⟩,mem:=k.mem.set (Am k.Os).toNat [0,0,0,0]},Am k.Os,0):=rfl
 obtain⟨k1,e1,a1,b1,c1,nm⟩:=call;simp only[Ab.on,Ab.onCells] at N ao C1 C2 P cJ ⊢;obtain⟨y0,y1,y2,y3,y4,y5,y6⟩:=J0 (c:=⟨k1,e1,a1,b1,c1,nm⟩) N;have hl:=AY N;have HN:=AA N;have HP:=AA P;have Hm:=AA hm;have Hi:=AA hi;have HK:=AA hK;have HI:=AA h;clear P hm hi hc hK h N y0 y1 y2 y3 y4 y5;go_in;go_wp2_with fail;generalize hW0:w.alloc _=W0 at*;clear hW0;cases e5:BN nm
 .have T:=AA e5
  have E:=AA (show Io k ⟨k1,e1,a1,b1,c1,nm⟩=(k,0,3) by rw[HP.out,e5];rfl);clear e5 y6;refine(C1.out _ ao).mono ?_;rintro r w1 ⟨rfl,cO⟩;rw[T.out];have ar:=ao.trans (cO.mono ao.size);go_wp2_with fail;go_ret2;exact JF.bad E.out (by decide) (ar.mono aq)
 .have T:=AA e5
  have dz:=AA (show Io k ⟨k1,e1,a1,b1,c1,nm⟩=_ by rw[HP.out,e5,if_neg (by decide)]);clear e5 y6;refine(C1.out _ ao).mono ?_;rintro r w1 ⟨rfl,cf⟩;rw[T.out];have ar:=ao.trans (cf.mono ao.size);obtain⟨y0,y1,y2,y3,y4,y5,y6⟩:=J0 (c:=⟨k1,e1,a1,b1,c1,nm⟩) (AC HN.out cf);go_wp2_with fail;clear y0 y1 y2 y3 y4 y5 y6;cases e6:FV k e1 nm
  .have T6:=AA e6
   have E:=AA (show Io k ⟨k1,e1,a1,b1,c1,nm⟩=(k,0,1) by rw[dz.out,e6];rfl);clear e6;refine(C2.out _ ar).mono ?_;rintro r w2 ⟨rfl,an⟩;rw[T6.out];replace ar:=ar.trans (an.mono ar.size);go_wp2_with fail;go_ret2;exact JF.bad E.out (by decide) (ar.mono aq)
  .have T6:=AA e6
   have dy:=AA (show Io k ⟨k1,e1,a1,b1,c1,nm⟩=_ by rw[dz.out,e6,if_neg (by decide)]);clear e6;refine(C2.out _ ar).mono ?_;rintro r W2 ⟨rfl,an⟩;rw[T6.out];replace cf:=cf.trans (an.mono cf.size);replace ar:=ar.trans (an.mono ar.size);have h2:=HI.out.below ar;have da:=AA h2;have cT:=yD aq ar.size;obtain⟨y0,y1,y2,y3,y4,y5,y6⟩:=J0 (c:=⟨k1,e1,a1,b1,c1,nm⟩) (AC HN.out cf);have cA:=xZ hl cf.size;have ca:=AY h2.1;have dP:g≠w.heap.size:=Nat.ne_of_lt (AY HI.out.1);obtain⟨gi,ck,rfl,_,_,_,_,_,cY⟩:=h2.zU' (f:=0) (by have:=(A0.1 Hi.out).1;omega);have x1:=h2.cells.2.1;have RI:BU W2 (.slice (some ⟨gi,0,none⟩) k.Os.length ck) k.Os:=h2.2.2.2.1.rd;clear h2 an y1 y2 y3 y4 y5 cY;go_wp2_with fail
   by_cases e7:Am k.Os<0
   .have E:=AA (show Io k ⟨k1,e1,a1,b1,c1,nm⟩=(k,0,4) by rw[dy.out,if_pos e7])
    have C3:=AA (fun W (hW:Below W2.heap.size W2 W)=>Ol _ k.Os nm W (BJ.below RI hW) (Cb Hi.out) cJ Hi.out T.out e7);clear e7 RI;refine Aa 15 49 [.p w.heap.size 0, .p g 0, .p g 0, .p g 1, .s gi k.Os.length ck, .p w.heap.size 1, .p w.heap.size 6, .t nm, .v (.tuple #[.slice none 0 0, .int .i64 0, .bool false]), .v (.tuple #[.slice none 0 0, .int .i64 0, .bool false]), .v (.slice none 0 0), .i 0, .b false, .v (.slice none 0 0), .i 0] (fun _ _ _=>True) ?_ ?_
    .intro i hi o ho a wx Hb Hd hG K HK
     have bx:=bc hG cA y0;have bw:=bc hG ca x1;have bB:=bc hG cA y6
     match i,hi with
     |0,_|2,_|3,_|5,_|6,_|9,_|10,_|11,_|12,_|13,_|14,_=>exact sP ho HK Hb Hd
     |1,_=>exact sL ho HK Hb Hd (hl:=UW ‹_›)
     |4,_=>exact sL ho HK Hb Hd (hl:=GF ‹_›)
     |7,_=>exact sL ho HK Hb Hd (hl:=Yf ‹_›)
     |8,_=>exact sD ho HK Hb Hd (C3.out _ hG)
     |_+15,hq=>omega
    .intro vs wx hR hG
     have bZ:(vs 12)= .bool false:=BZ hR 12;have bn:(vs 13)= .slice none 0 0:=BZ hR 13;have cr:(vs 14)= .int .i64 0:=BZ hR 14;clear hR;simp only[Al,AV,yE,yB,yA,yy,bZ,bn,cr];simp;clear bZ bn cr;replace ar:=ar.trans (hG.mono ar.size);clear hG y0 y6 x1;go_wp2_with fail;go_ret2;exact JF.bad E.out (by decide) (ar.mono aq)
   .obtain⟨f1,f2,f3⟩:=FO e7
    obtain⟨f,hf⟩:∃f:Nat,Am k.Os=(f:Int):=⟨(Am k.Os).toNat,by omega⟩
    have E:=AA (show Io k ⟨k1,e1,a1,b1,c1,nm⟩=({k with Os:=k.Os.set f ⟨1,nm,0⟩,mem:=k.mem.set f [0,0,0,0]},(f:Int),0) by rw[dy.out,if_neg e7,hf];rfl);have cG:=fun W (hW:Below W2.heap.size W2 W)=>Om _ k.Os nm W (BJ.below RI hW) (Cb Hi.out) cJ Hi.out T.out f3
    unfold QD at cG;rw[hf] at cG f1;simp only[Int.toNat_natCast] at cG f1;have C3:=AA cG;have cb:f<12:=by have:=(A0.1 Hi.out).1;omega
    clear e7 RI cG f2 f3 hf f1;refine BS 15 49 [.p w.heap.size 0, .p g 0, .p g 0, .p g 1, .s gi k.Os.length ck, .p w.heap.size 1, .p w.heap.size 6, .t nm, .z, .z, .z, .i ((f:Int)), .b true, .z, .i ((f:Int))] (fun ix vv ww=>match ix with
     |8|9=>∃v',vv= .tuple #[v', .int .i64 f, .bool true]/\AP W2.heap.size 93 3 A2 ww v' (k.Os.set f ⟨1,nm,0⟩)
     |10|13=>AP W2.heap.size 93 3 A2 ww vv (k.Os.set f ⟨1,nm,0⟩)
     |_=>True) ?_ ?_ ?_
    .intro i hi o ho a wx Hb Hd hG K HK
     have bx:=bc hG cA y0;have bw:=bc hG ca x1;have bB:=bc hG cA y6
     match i,hi with
     |0,_|2,_|3,_|5,_|6,_|14,_=>exact sP ho HK Hb Hd
     |1,_=>exact sL ho HK Hb Hd (hl:=UW ‹_›)
     |4,_=>exact sL ho HK Hb Hd (hl:=GF ‹_›)
     |7,_=>exact sL ho HK Hb Hd (hl:=Yf ‹_›)
     |8,_=>exact sC ho HK Hb Hd (C3.out _ hG) (by rintro e w_ ⟨v',rfl,hO,an⟩;exact⟨_,rfl,⟨_,rfl,hO.lower hG.size⟩,an⟩)
     |9,_=>
      clear bx bw bB;obtain rfl:=yH ho;have d8:∃v',(a.tmps[29]?.getD undef)= .tuple #[v', .int .i64 f, .bool true]/\AP W2.heap.size 93 3 A2 wx v' (k.Os.set f ⟨1,nm,0⟩):=BT Hd 8
      clear Hd Hb;obtain⟨v',d8,hO⟩:=d8;refine yG ?_;go_simp;exact HK.out _ _ ⟨_,rfl,hO⟩ (yF _ _)
     |10,_=>
      clear bx bw bB;obtain rfl:=yH ho;have d9:∃v',(a.tmps[20]?.getD undef)= .tuple #[v', .int .i64 f, .bool true]/\AP W2.heap.size 93 3 A2 wx v' (k.Os.set f ⟨1,nm,0⟩):=BT Hd 9
      clear Hd Hb;obtain⟨v',d9,hO⟩:=d9;refine yG ?_;go_simp;exact HK.out _ _ hO (yF _ _)
     |11,_=>
      clear bx bw bB;obtain rfl:=yH ho;have d9:∃v',(a.tmps[20]?.getD undef)= .tuple #[v', .int .i64 f, .bool true]/\AP W2.heap.size 93 3 A2 wx v' (k.Os.set f ⟨1,nm,0⟩):=BT Hd 9
      clear Hd Hb;obtain⟨v',d9,hO⟩:=d9;refine yG ?_;go_simp;exact HK.out _ _ rfl (yF _ _)
     |12,_=>
      clear bx bw bB;obtain rfl:=yH ho;have d9:∃v',(a.tmps[20]?.getD undef)= .tuple #[v', .int .i64 f, .bool true]/\AP W2.heap.size 93 3 A2 wx v' (k.Os.set f ⟨1,nm,0⟩):=BT Hd 9
      clear Hd Hb;obtain⟨v',d9,hO⟩:=d9;refine yG ?_;go_simp;exact HK.out _ _ rfl (yF _ _)
     |13,_=>clear bx bw bB;obtain rfl:=yH ho;have eh:AP W2.heap.size 93 3 A2 wx (a.tmps[30]?.getD undef) (k.Os.set f ⟨1,nm,0⟩):=BT Hd 10;clear Hd Hb;refine yG ?_;go_simp;exact HK.out _ _ eh (yF _ _)
     |_+15,hq=>omega
    .intro i hi vv wz cq bK hz
     match i,hi with
     |8,_|9,_=>exact(by obtain⟨v',h0,h1⟩:=hz;exact⟨v',h0,AP.below h1 bK⟩)
     |10,_|13,_=>exact(AP.below hz bK)
     |0,_|1,_|2,_|3,_|4,_|5,_|6,_|7,_|11,_|12,_|14,_=>exact hz
     |_+15,hq=>omega
    .intro vs wx hR hG
     have bZ:(vs 12)= .bool true:=BZ hR 12;have bn:AP W2.heap.size 93 3 A2 wx (vs 13) (k.Os.set f ⟨1,nm,0⟩):=BZ hR 13;have cr:(vs 14)= .int .i64 f:=BZ hR 14;clear hR;simp only[Al,AV,yE,yB,yA,yy,bZ,cr];simp;generalize vs 13=z13 at bn ⊢;clear bZ cr;have h5:=da.out.Os cT hG bn;have cd:=((ar.trans (hG.mono ar.size)).mono aq).setCell (p:=⟨g,1,none⟩) da.out.2.1 z13;replace y0:=(hG.cell (p:=⟨w.heap.size,0,none⟩) cA).trans y0;replace x1:=(hG.cell (p:=⟨g,1,none⟩) ca).trans x1;have de:=da.out.below hG;have x0:=de.cells.1;have dQ:=AK de.1;obtain⟨gm,bY,gw,ax,vs,rfl,cK,n1,D,dM,dm,n2,n3,o1,hu,hx⟩:=h5.zf (f:=f) Hm.out cb;have b6:=(Ah.1 Hm.out).1;have h4:=(A5.1 ((Ah.1 Hm.out).2 f cb)).1;have D2:=(Fx (o:=f) (Aq wx g 1 z13) (by simpa using cK) (fun e=>n1 (yH e).symm)).symm.trans D;obtain⟨w6,cn,dq,cX⟩:=V7 hx h4;have h6:=AA (h5.row o1 (by rw[b6];exact cb) hu dq cX);have dY:=AA (AM cd cX dm (yD aq cd.size));have dp:(f:Int)<12:=by omega
     obtain⟨q1,q2,rfl,_,_⟩:=bn.rd.shape;simp only[xV] at cn;have dO:w.heap.size≠g:=fun e=>dP e.symm
     clear h5 cd de D hx o1 hu dq cX h4 b6 cK dM dm n2 n3 bn hG;go_wp2_with fail;go_ret2;exact⟨by rw[E.out];rfl,fun _=>⟨_,_,_,_,by rw[E.out];exact h6.out⟩,dY.out⟩
theorem GJ (h:BO ss=true):DP ss:=by
 intro s hs;obtain⟨j,hj,rfl⟩:=wO hs;unfold BO at h;simp only[yt,yk] at h;have h1:=h.1 j (yj.2 hj);unfold Cq at h1;simp only[yt] at h1;have h2:=Jo h1.1;have e:DZ ss j=ss[j]:=by simp[DZ,hj]
 rw[e] at h2;exact yD h2 (by decide)
theorem TI (v:Value) (m:List (List Int)) (r:Int) (w:World) (h:Bc w v m) (av:Bs m=true) (hr:r<12):Calls prog 73 #[v, .int .i64 r] w (L7 m r w):=by
 by_cases h0:r<0
 .exact OI v m r w h h0
 .obtain⟨n,rfl⟩:∃n:Nat,r=(n:Int):=⟨r.toNat,by omega⟩
  exact OH v m n w h av (by omega)
theorem zC {k:AN} (h:DI k) {j:Nat} (hj:j<3):(AJ k.zZ j).root<12:=by have:=h.roots j hj;unfold AZ at this;omega
theorem Ap {w w1:World} {g:Nat} {o:Obj} (h:w.heap[b]? =some o) (hg:w.grownBy w1 (some g)) (a8:g≠b):w1.heap[b]? =some o:=
 (hg.block b (AY h) (fun e=>a8 (yH e).symm)).trans h
theorem Bo {w:World} {g T T':Nat} {c c':Array Value} (h:w.heap[b]? =some (.cells c T (0,0))) (h':w.heap[g]? =some (.cells c' T' (0,0))) (hT:T≠T':=by decide):b≠g:=fun e=>by subst e;rw[h] at h';simp at h';exact hT h'.2
def Xy (g:Nat) (w W:World):Prop:=∀b cu,b≠g->w.heap[b]? =some (.cells cu 28 (0,0))->W.heap[b]? =w.heap[b]?
theorem Xy.below {g:Nat} {w W W':World} (h:Xy g w W) (hb:Below W.heap.size W W'):Xy g w W':=fun b cu hg hB=>(hb.block b (AY ((h b cu hg hB).trans hB))).trans (h b cu hg hB)
theorem Xy.row {g q T:Nat} {w W W':World} {cu:Array Value} (h:Xy g w W) (hg:W.grownBy W' (some q)) (hq:W.heap[q]? =some (.cells cu T (0,0))) (hT:T≠28):Xy g w W':=fun b dg cN hB=>
 have e:=(h b dg cN hB).trans hB
 (Ap e hg (Bo hq e hT)).trans hB.symm
theorem Xy.own {g:Nat} {w W W':World} (h:Xy g w W) (hg:W.grownBy W' (some g)):Xy g w W':=fun b dg cN hB=>
 have e:=(h b dg cN hB).trans hB
 (Ap e hg (fun h=>cN h.symm)).trans hB.symm
structure EL (T:Nat) (cs:Array Value) (R:List Nat) (lo g b0:Nat) (w W:World) (m i e c:Value) (k:AN):Prop where
 yK:Ic lo W g m i e c k
 yM:W.heap[b0]? =some (.cells cs T (0,0))
 bel:Below lo w W
 lo:lo<=W.heap.size
 ty:28≠T/\93≠T/\62≠T/\3≠T/\29≠T
 kf:Xy g w W
 rs:∀b∈R,g≠b/\W.heap[b]? =some (.cells #[.slice none 0 0, .slice none 0 0, .slice none 0 0, .slice none 0 0] 28 (0,0))
abbrev CS (lo g b0:Nat) (call:Ab) (w W:World) (m i e c:Value) (k:AN):Prop:=EL 162 (call.onCells g) [] lo g b0 w W m i e c k
theorem EL.start {lo g:Nat} {w:World} {m i e c:Value} {k:AN} (h:Ic lo w g m i e c k) (aq:lo<=w.heap.size) (call:Ab):CS lo g w.heap.size call w (w.alloc (.cells (call.onCells g) 162)) m i e c k:=
 ⟨h.below (AD _ _),yw _ _,(AD _ _).mono aq,yD aq (AD _ _).size,by decide,Xy.below (fun _ _ _ _=>rfl) (AD _ _),nofun⟩
theorem EL.ys {lo g b0:Nat} {call:Ab} {w W:World} {m i e c:Value} {k:AN} (h:CS lo g b0 call w W m i e c k):W.cell? ⟨b0,0,none⟩=some (.pointer (some ⟨g,0,none⟩))/\W.cell? ⟨b0,1,none⟩=some (.int .i64 call.k)/\W.cell? ⟨b0,2,none⟩=some (.int .i64 call.e)/\W.cell? ⟨b0,3,none⟩=some (.int .i64 call.a)/\W.cell? ⟨b0,4,none⟩=some (.int .i64 call.b)/\W.cell? ⟨b0,5,none⟩=some (.int .i64 call.c)/\W.cell? ⟨b0,6,none⟩=some (.string call.nm):=J0 h.yM
section
variable {T:Nat} {cs:Array Value} {R:List Nat} {lo g b0:Nat} {w W W':World} {m i e c:Value} {k:AN}
theorem EL.below (h:EL T cs R lo g b0 w W m i e c k) (hb:Below W.heap.size W W'):EL T cs R lo g b0 w W' m i e c k:=
 ⟨h.yK.below hb,AC h.yM hb,h.bel.trans (hb.mono h.lo),yD h.lo hb.size,h.ty,h.kf.below hb,fun b hr=>⟨(h.rs b hr).1,AC (h.rs b hr).2 hb⟩⟩
theorem EL.xs (h:EL T cs R lo g b0 w W m i e c k):W.cell? ⟨g,0,none⟩=some m/\W.cell? ⟨g,1,none⟩=some i/\W.cell? ⟨g,2,none⟩=some e/\W.cell? ⟨g,3,none⟩=some c:=h.yK.cells
theorem EL.lts (h:EL T cs R lo g b0 w W m i e c k):b0<W.heap.size/\g<W.heap.size/\g≠b0/\b0≠g:=⟨AY h.yM,AY h.yK.1,Bo h.yK.1 h.yM h.ty.1,(Bo h.yK.1 h.yM h.ty.1).symm⟩
theorem EL.zg (h:EL T cs R lo g b0 w W m i e c k) {lo' T' sz n:Nat} {v:Value} {xs:List Value} (o:W.ownsRow lo' T' sz v n xs) {b:Nat} (hb:v.ownBlock=some b) (h1:T'≠28) (h2:T'≠T):(b≠g/\g≠b)/\b≠b0/\b0≠b:=by obtain⟨bl,hc⟩:=A6 o b hb;have a1:=Bo hc h.yK.1 h1;have a2:=Bo hc h.yM h2;exact⟨⟨a1,a1.symm⟩,a2,a2.symm⟩
theorem EL.Os (h:EL T cs R lo g b0 w W m i e c k) (hl:0<k.Os.length):∃gi ab,i= .slice (some ⟨gi,0,none⟩) k.Os.length ab/\gi<W.heap.size/\lo<=gi/\((gi≠g/\g≠gi)/\gi≠b0/\b0≠gi)/\∀q,W.frozen? ⟨gi,q,none⟩=false:=by obtain⟨gi,ab,e1,h1,h2,_,_,_,hz⟩:=h.yK.zU' hl;refine⟨gi,ab,e1,h1,h2,h.zg h.yK.2.2.2.1 (by rw[e1];rfl) (by decide) h.ty.2.1,hz⟩
theorem EL.zZ (h:EL T cs R lo g b0 w W m i e c k) (hl:0<k.zZ.length):∃ge ab,e= .slice (some ⟨ge,0,none⟩) k.zZ.length ab/\ge<W.heap.size/\((ge≠g/\g≠ge)/\ge≠b0/\b0≠ge)/\∀q,W.frozen? ⟨ge,q,none⟩=false:=by obtain⟨ge,ab,_,_,e1,h1,_,_,_,hz⟩:=h.yK.env hl;obtain⟨ps,o⟩:=h.yK.2.2.2.2.1;exact⟨ge,ab,e1,h1,h.zg o.1 (by rw[e1];rfl) (by decide) h.ty.2.2.1,hz⟩
theorem EL.info {ab:Nat} (h:EL T cs R lo g b0 w W m (.slice (some ⟨gi,0,none⟩) n ab) e c k) (hn:n=k.Os.length) {f:Nat} (hf:f<k.Os.length) (r:Int):
 EL T cs R lo g b0 w (W.setCell ⟨gi,f*3+2,none⟩ (.int .i64 ((zU k.Os f).r+r))) m (.slice (some ⟨gi,0,none⟩) n ab) e c {k with Os:=Ar k.Os f (JJ r)}:=by
 have T:=h.yK.info hn (Ci hf) (j:=2) (by decide) (y:=JJ r (zU k.Os f)) (u:= .int .i64 ((zU k.Os f).r+r)) rfl;rw[<-KM] at T;obtain⟨c2,h2⟩:=A6 h.yK.2.2.2.1 gi rfl;exact⟨T.1,Ap h.yM T.2.1 (Bo h2 h.yM h.ty.2.1),AM h.bel T.2.1 T.2.2 h.lo,yD h.lo T.2.1.size,h.ty,h.kf.row T.2.1 h2 (by decide),fun b hr=>⟨(h.rs b hr).1,Ap (h.rs b hr).2 T.2.1 (Bo h2 (h.rs b hr).2 (by decide))⟩⟩
theorem EL.root {ab:Nat} (h:EL T cs R lo g b0 w W m i (.slice (some ⟨ge,0,none⟩) n ab) c k) (hn:n=k.zZ.length) {j:Nat} (hj:j<k.zZ.length) (r:Int):
 EL T cs R lo g b0 w (W.setCell ⟨ge,j*2+1,none⟩ (.int .i64 r)) m i (.slice (some ⟨ge,0,none⟩) n ab) c {k with zZ:=Ar k.zZ j (Dk r)}:=by
 have T:=h.yK.root hn hj r;obtain⟨ps,o⟩:=h.yK.2.2.2.2.1;obtain⟨c2,h2⟩:=A6 o.1 ge rfl;exact⟨T.1,Ap h.yM T.2.1 (Bo h2 h.yM h.ty.2.2.1),AM h.bel T.2.1 T.2.2 h.lo,yD h.lo T.2.1.size,h.ty,h.kf.row T.2.1 h2 (by decide),fun b hr=>⟨(h.rs b hr).1,Ap (h.rs b hr).2 T.2.1 (Bo h2 (h.rs b hr).2 (by decide))⟩⟩
theorem EL.zY (h:EL T cs R lo g b0 w W m i e c k) (hb:Below W.heap.size W W') {c':Value} {xs:List Ak} (h2:AP W.heap.size 98 4 Ae W' c' xs):EL T cs R lo g b0 w (W'.setCell ⟨g,3,none⟩ c') m i e c' {k with zY:=xs}:=by
 have h':=h.below hb;exact⟨h.yK.zY h.lo hb h2,Ap h'.yM (Aq W' g 3 c') h.lts.2.2.1,h'.bel.setCell h.yK.2.1 _,by simpa using h'.lo,h.ty,h'.kf.own (Aq W' g 3 c'),fun b hr=>⟨(h.rs b hr).1,Ap (h'.rs b hr).2 (Aq W' g 3 _) (h.rs b hr).1⟩⟩
theorem EL.zp (h:EL T cs R lo g b0 w W m i e c k) (hb:Below W.heap.size W W') {i':Value} {xs:List AU} (h2:AP W.heap.size 93 3 A2 W' i' xs):EL T cs R lo g b0 w (W'.setCell ⟨g,1,none⟩ i') m i' e c {k with Os:=xs}:=by
 have h':=h.below hb;exact⟨h.yK.Os h.lo hb h2,Ap h'.yM (Aq W' g 1 i') h.lts.2.2.1,h'.bel.setCell h.yK.2.1 _,by simpa using h'.lo,h.ty,h'.kf.own (Aq W' g 1 i'),fun b hr=>⟨(h.rs b hr).1,Ap (h'.rs b hr).2 (Aq W' g 1 _) (h.rs b hr).1⟩⟩
theorem EL.fzi {ab:Nat} (h:EL T cs R lo g b0 w W m (.slice (some ⟨gi,0,none⟩) n ab) e c k) (q:Nat):W.frozen? ⟨gi,q,none⟩=false:=by obtain⟨bl,hc⟩:=A6 h.yK.2.2.2.1 gi rfl;exact AK hc q
theorem EL.fze {ab:Nat} (h:EL T cs R lo g b0 w W m i (.slice (some ⟨ge,0,none⟩) n ab) c k) (q:Nat):W.frozen? ⟨ge,q,none⟩=false:=by obtain⟨ps,o⟩:=h.yK.2.2.2.2.1;obtain⟨bl,hc⟩:=A6 o.1 ge rfl;exact AK hc q
theorem EL.yW {ab:Nat} (h:EL T cs R lo g b0 w W m i (.slice (some ⟨ge,0,none⟩) n ab) c k):ge<W.heap.size:=by obtain⟨ps,o⟩:=h.yK.2.2.2.2.1;exact(yr o.1 ge rfl).2
theorem EL.zo {ab:Nat} (h:EL T cs R lo g b0 w W m (.slice (some ⟨gi,0,none⟩) n ab) e c k):gi<W.heap.size:=(yr h.yK.2.2.2.1 gi rfl).2
theorem EL.env {ab:Nat} (h:EL T cs R lo g b0 w W m i (.slice (some ⟨ge,0,none⟩) n ab) c k) {j:Nat} (hj:j<k.zZ.length):
 ∃ua uc,W.cell? ⟨ge,j*2,none⟩=some (.slice ua (AJ k.zZ j).zV.length uc)/\W.cell? ⟨ge,j*2+1,none⟩=some (.int .i64 (AJ k.zZ j).root)/\BP W (.slice ua (AJ k.zZ j).zV.length uc) (AJ k.zZ j).zV:=by
 obtain⟨eH,cE,ua,uc,e1,_,d0,d1,R,_⟩:=h.yK.env hj;cases e1;exact⟨ua,uc,d0,d1,R⟩
theorem EL.zU {ab:Nat} (h:EL T cs R lo g b0 w W m (.slice (some ⟨gi,0,none⟩) n ab) e c k) {f:Nat} (hf:f<k.Os.length):
 W.cell? ⟨gi,f*3,none⟩=some (.int .i64 (zU k.Os f).k)/\W.cell? ⟨gi,f*3+1,none⟩=some (.string (zU k.Os f).g)/\W.cell? ⟨gi,f*3+2,none⟩=some (.int .i64 (zU k.Os f).r):=by
 obtain⟨eE,cE,e1,_,_,d0,d1,d2,_⟩:=h.yK.zU' hf;cases e1;exact⟨d0,d1,d2⟩
theorem EL.mems (h:EL T cs R lo g b0 w W m i e c k) (av:Bs k.mem=true):∃gm ab,m= .slice (some ⟨gm,0,none⟩) 12 ab/\gm<W.heap.size/\(gm≠g/\g≠gm)/\gm≠b0/\b0≠gm:=by obtain⟨gm,ab,_,_,_,e1,h1,h2,_⟩:=h.yK.zf av (f:=0) (by omega);obtain⟨vs,o⟩:=h.yK.2.2.1;exact⟨gm,ab,e1,h1,h.zg o.1 (by rw[e1];rfl) (by decide) h.ty.2.2.2.2⟩
theorem EL.mrow {gm ab:Nat} (h:EL T cs R lo g b0 w W (.slice (some ⟨gm,0,none⟩) n ab) i e c k) (av:Bs k.mem=true) {f:Nat} (hf:f<12):
 ∃gw ax,W.cell? ⟨gm,f,none⟩=some (.slice (some ⟨gw,0,none⟩) 4 ax)/\gw<W.heap.size/\4<=ax/\(∀j,j<4->W.cell? ⟨gw,j,none⟩=some (.int .i64 (As k.mem f j)))/\(∀q,W.frozen? ⟨gw,q,none⟩=false)/\((gw≠g/\g≠gw)/\gw≠b0/\b0≠gw)/\(gw≠gm/\gm≠gw)/\(∀b cu T,W.heap[b]? =some (.cells cu T (0,0))->T≠3->gw≠b)/\
  ∀j v,j<4->EL T cs R lo g b0 w (W.setCell ⟨gw,j,none⟩ (.int .i64 v)) (.slice (some ⟨gm,0,none⟩) n ab) i e c {k with mem:=CZ k.mem f j v}:=by
 obtain⟨eD,cE,gw,ax,vs,e1,_,_,hc,hl,aq,h1,h2,o,hu,hx⟩:=h.yK.zf av hf;cases e1;have h4:=(A5.1 ((Ah.1 av).2 f hf)).1;have cy:W.ownsRow lo 3 1 (.slice (some ⟨gw,0,none⟩) 4 ax) 4 ((AH k.mem f).map (yf .i64)):=by have:=hx;unfold AG at this;rwa [h4] at this
 have dX:4<=ax:=by obtain⟨_,_,hv,eB,_⟩:=Ax.open (AG.rd hx);simp only[xD] at hv;obtain⟨_,_,rfl⟩:=hv;omega
 obtain⟨bl,a5⟩:=A6 cy gw rfl;refine⟨gw,ax,hc,hl,dX,fun j hj=>?_,fun q=>xP cy q,h.zg cy rfl (by decide) h.ty.2.2.2.1,⟨h2,h2.symm⟩,fun b cu T hb hT=>Bo a5 hb (wH hT),fun j v hj=>?_⟩
 .have:=xC cy j hj
  rw[this,wQ];unfold As;rw[A1 (d:=0) (by omega)];rfl
 .have S:=wA cy j (.int .i64 v)
  have hO:AG lo (W.setCell ⟨gw,j,none⟩ (.int .i64 v)) (.slice (some ⟨gw,0,none⟩) 4 ax) ((AH k.mem f).set j v):=by unfold AG;rw[xV,h4,tZ];exact S.1
  have T:=h.yK.row o (by rw[(Ah.1 av).1];exact hf) hu hO S.2;rw[<-Mq] at T;exact⟨T,Ap h.yM S.2 (Bo a5 h.yM h.ty.2.2.2.1),AM h.bel S.2 aq h.lo,yD h.lo S.2.size,h.ty,h.kf.row S.2 a5 (by decide),fun b hr=>⟨(h.rs b hr).1,Ap (h.rs b hr).2 S.2 (Bo a5 (h.rs b hr).2 (by decide))⟩⟩
end
def Z8 (W:World) (lo g b0:Nat) (call:Ab) (w:World) (m i e:Value) (k:AN) (b:Bool) (ww:World):Prop:=match b with
 |false=>Below W.heap.size W ww
 |true=>∃c',CS lo g b0 call w ww m i e c' k
theorem Z8.grow {W:World} {lo g b0:Nat} {call:Ab} {w:World} {m i e:Value} {k:AN} {b:Bool} {ww cq:World} (h:Z8 W lo g b0 call w m i e k b ww) (hb:Below ww.heap.size ww cq):Z8 W lo g b0 call w m i e k b cq:=by
 cases b
 .exact Below.trans h (hb.mono h.size)
 .obtain⟨c',h⟩:=h
  exact⟨c',h.below hb⟩
theorem F9 {L:Nat->Bool} {i j:Nat} (h:i≠j):F8 L i j=L j:=if_neg (fun e=>h e.symm)
theorem Ge {L:Nat->Bool} {i:Nat}:F8 L i i=true:=if_pos rfl
def IJ (fs:List Nat):List Nat:=(yE 12).filter fun f=>fs.contains f
theorem LM {fs:List Nat}:f∈IJ fs↔f<12/\f∈fs:=by simp[IJ]
theorem LL {fs:List Nat}:(IJ fs).length<=12:=by
 have:=List.length_filter_le (fun f=>fs.contains f) (yE 12);simpa[IJ] using this
def Ec (m:List (List Int)) (root:Nat):List Nat:=IJ (named (AH m root))
def Ir (m:List (List Int)) (root:Nat):List Nat:=IJ ((Ec m root).flatMap fun t=>named (AH m t))
def EY (m:List (List Int)) (root:Int):List Nat:=if root<0 then[] else IJ (root.toNat::Ec m root.toNat++Ir m root.toNat)
theorem IY {m:List (List Int)} {root:Nat}:f∈Ec m root↔f∈named (AH m root):=by
 unfold Ec;rw[LM];exact⟨fun h=>h.2,fun h=>⟨FD h,h⟩⟩
theorem UC {m:List (List Int)} {root:Nat}:f∈Ir m root↔∃t,t∈named (AH m root)/\f∈named (AH m t):=by
 unfold Ir;rw[LM,wS];constructor
 .rintro⟨_,t,ht,hf⟩
  exact⟨t,IY.1 ht,hf⟩
 .rintro⟨t,ht,hf⟩
  exact⟨FD hf,t,IY.2 ht,hf⟩
theorem F5 {m:List (List Int)} {root:Int} (h:root<12) (f:Nat):f∈EY m root↔f∈BY m root:=by
 rw[DU];unfold EY
 by_cases h0:root<0
 .rw[if_pos h0]
  simp;omega
 .rw[if_neg h0,LM,List.cons_append,List.mem_cons,List.mem_append,IY,UC]
  constructor
  .rintro⟨_,h⟩
   exact⟨by omega,h⟩
  .rintro⟨_,h⟩
   refine⟨?_,h⟩
   rcases h with rfl|h|⟨t,_,h⟩
   .omega
   .exact FD h
   .exact FD h
def QJ (k:AN) (a e:Nat):Bool:=decide (AZ k e=(a:Int))||(decide (0<=AZ k e)&&(Ec k.mem (AZ k e).toNat).contains a)
def Td (k:AN) (a:Nat):List Nat:=(yE 3).filter (QJ k a)
theorem Xt {k:AN} (h:DI k) {a:Nat} (ha:Bb (Av k a)=true):Td k a=FY k a:=by
 unfold Td FY;refine List.filter_congr fun e he=>?_
 have dU:=yj.1 he;rw[wF,uT]
 show _↔a∈BY k.mem (AZ k e)
 rw[DU];unfold QJ;simp only[xv,yt,decide_eq_true_eq,uT,IY];constructor
 .rintro(h1|⟨h0,h1⟩)
  .exact⟨by omega, .inl (by omega)⟩
  .exact⟨h0, .inr (.inl h1)⟩
 .rintro⟨h0,h1|h1|⟨t,ht,h1⟩⟩
  .exact .inl (by omega)
  .exact .inr ⟨h0,h1⟩
  .have:=(h.zk dU h0 ht h1).2
   rw[this] at ha;cases ha
def KD (k:AN) (w:Int):List Nat:=if Bf w then A8 w::(if(zU k.Os (A8 w)).k=2 then named (AH k.mem (A8 w)) else[]) else[]
theorem VB {k:AN} {w:Int} (h:Bf w=true->(zU k.Os (A8 w)).k≠3):KD k w=DJ k w:=by
 unfold KD DJ;cases hg:Bf w
 .rfl
 .have:=h hg
  simp only[if_true]
  congr 1
  by_cases h2:(zU k.Os (A8 w)).k=2
  .rw[if_pos h2,if_pos (by simp[Bb,h2])]
  .rw[if_neg h2,if_neg (by simp[Bb,h2,this])]
theorem OD {Os:List AU} {fs:List Nat} {n kind:Int}:Ar (Bg Os fs n) f (EJ kind)=Bg (Ar Os f (EJ kind)) fs n:=by
 induction fs generalizing Os with
 |nil=>rfl
 |cons g fs ih=>
  show Ar (Bg (Ar Os g (JJ n)) fs n) f (EJ kind)=Bg (Ar (Ar Os f (EJ kind)) g (JJ n)) fs n
  rw[ih]
  congr 1
  simp only[JD (d:=AU.zero),JO]
  by_cases e:f=g
  .subst e
   rw[List.set_set,List.set_set]
   by_cases hl:f<Os.length
   .rw[if_pos ⟨rfl,hl⟩,if_pos ⟨rfl,hl⟩]
    rfl
   .rw[ug (by omega),ug (by omega)]
  .rw[if_neg (fun h=>e h.1),if_neg (fun h=>e h.1.symm),List.set_comm _ _ (fun h=>e h.symm)]
def NR (ss:List ByteArray) (s:ByteArray):Nat:=(ss.takeWhile fun x=>!Th x s).length
theorem L2 {α:Type} (p:α->Bool) (l:List α):l.take (l.takeWhile p).length=l.takeWhile p/\l.drop (l.takeWhile p).length=l.dropWhile p:=by
 induction l with
 |nil=>simp
 |cons x l ih=>
  by_cases h:p x=true
  .simp[h,ih.1,ih.2]
  .simp[h]
theorem X9:SV ss s=ss.take (NR ss s)++s::ss.drop (NR ss s):=by unfold SV NR;rw[(L2 _ _).1,(L2 _ _).2]
theorem Se {k:Nat} (hk:k<=ss.length) (h1:∀j,j<k->Qh (DZ ss j) s=true) (h2:k<ss.length->Qh (DZ ss k) s=false):NR ss s=k:=by
 unfold NR
 induction ss generalizing k with
 |nil=>simp at hk;subst hk;rfl
 |cons x ss ih=>
  cases k with
  |zero=>have:=h2 (by simp);have e:Qh x s=false:=this;rw[tK,if_neg (by simp[PJ,e])];rfl
  |succ k=>
   have e:Qh x s=true:=h1 0 (by omega);rw[tK,if_pos (by simp[PJ,e]),vw]
   congr 1
   refine ih (by simpa using hk) (fun j hj=>?_) (fun dJ=>?_)
   .exact h1 (j+1) (by omega)
   .exact h2 (by simpa using dJ)
theorem Yj {a:ByteArray}:Qh a a=false:=by
 cases h:Qh a a
 .rfl
 .exact absurd (Ld.1 h) (List.lt_irrefl _)
theorem ZS (h:BO ss=true):ss.any (fun x=>decide (x=s))=(decide (NR ss s<ss.length)&&decide (DZ ss (NR ss s)=s)):=by
 obtain⟨_,hp,_⟩:=GH.1 h;have hd:=List.takeWhile_append_dropWhile (p:=fun x=>!Th x s) (l:=ss);rw[wF];simp only[yt,decide_eq_true_eq,List.any_eq_true];constructor
 .rintro⟨x,hx,rfl⟩
  obtain⟨j,hj,cW⟩:=wO hx;have hc:NR ss x=j:=by
   refine Se (Nat.le_of_lt hj) (fun i hi=>?_) (fun _=>?_)
   .have:=List.pairwise_iff_getElem.1 hp i j (by omega) hj hi
    unfold DZ;rw[xU,yx (by omega)];simpa[cW] using this
   .unfold DZ
    rw[xU,yx hj];simpa[cW] using Yj
  rw[hc];refine⟨hj,?_⟩;unfold DZ;rw[xU,yx hj];simpa using cW
 .rintro⟨hl,hx⟩
  exact⟨_,yg (IH hl),hx⟩
end Go.Proofs.YtinbcpipjfljeaaGreatDoor
