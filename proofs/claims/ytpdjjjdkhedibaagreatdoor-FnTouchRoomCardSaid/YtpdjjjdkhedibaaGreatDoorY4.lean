/-
  Packed:13 texts.
-/
import Derived.Test.YtpdjjjdkhedibaaGreatDoorY1
import Derived.Test.YtpdjjjdkhedibaaGreatDoorY3
import Derived.Test.YtpdjjjdkhedibaaGreatDoorY2
set_option linter.unusedVariables false
set_option linter.unusedSimpArgs false
set_option maxHeartbeats 16000000
set_option maxRecDepth 100000
open Go Go.Proofs.YtpdjjjdkhedibaaGreatDoor
open And renaming intro->xZ
open Bool renaming and_eq_true->yp,eq_iff_iff->wA
open Go.Builtin renaming clear_->uB,zeroCells->xK
open Go.RowKit.Below renaming refl->yD
open Go.Value renaming int->yf
open Go.World renaming block_lt_of_cell?->yA
open Go.World.ownsRow renaming cellAt->xB,frozenAt->xN,lt->yq
open Go renaming cell_of_row->yi,cell_regrown->xY,heap_alloc_new->yv,heap_setCell_same->ym
open List renaming all_eq_false->wg,all_eq_true->yd,append_nil->sU,contains_iff_mem->uS,drop_eq_getElem_cons->uh,drop_eq_nil_of_le->tU,foldl_cons->yy,foldl_nil->yw,getD_eq_getElem?_getD->xR,getElem?_eq_getElem->yu,getElem?_eq_some_iff->yr,getElem?_map->wK,getElem?_of_mem->xj,getElem?_set_ne->wM,getElem?_set_self->xI,getElem_of_mem->wP,length_append->yj,length_cons->vW,length_drop->wH,length_nil->wW,length_replicate->vY,length_set->xS,length_singleton->xM,map_set->tT,mem_of_getElem?->ye,mem_range->xU,range->yC,replicate->xV,set_eq_of_length_le->ud,set_set->uH,takeWhile_cons->tE,take_length->xt,take_of_length_le->wD
open List.range renaming loop->yz
open Nat renaming add_zero->xL,le_refl->yt,le_trans->yB,lt_of_lt_of_le->xX,mul_one->wl,zero_add->uT
variable {b ab f ge gi j n:Nat} {vs:List Value} {u v:Value} {r:List Int} {es:List EU} {w':World} {ss:List ByteArray} {p:AR}
namespace Go.Proofs.YtpdjjjdkhedibaaGreatDoor
open Go.Proofs.Tryz
open Go.RowKit
theorem Ws{α:Type}(us vs:List α)(u0 u:α):(us++u0::vs).set us.length u=(us++[u])++vs:=by simp
def Fi(lo:Nat)(w:World)(v:Value)(us vs:List Value)(m:List (List Int)):Prop:=AQ lo 29 1 GC w v (us++vs)/\Fh (AF lo w) us (m.take us.length)/\DG us
theorem Fi.step{lo g:Nat}{w w1:World}{us:List Value}{u0:Value}{m:List (List Int)}(h:Fi lo w (.slice (some ⟨g,0,none⟩) n ab) us (u0::vs) m)(hn:n=(us++u0::vs).length)
 (hb:Below w.heap.size w w1)(ax:lo<=w.heap.size)(hu:AF w.heap.size w1 u r)(hr:m[us.length]?=some r):
 Fi lo (w1.setCell ⟨g,us.length,none⟩ u) (.slice (some ⟨g,0,none⟩) n ab) (us++[u]) vs m/\w1.grownBy (w1.setCell ⟨g,us.length,none⟩ u) (some g):=by
 obtain⟨a1,a2,a3⟩:=h;have cL:=a1.below hb;subst hn;have S:=AQ.zx EG cL (k:=us.length) (x:=u0) (by simp) (j:=0) (by decide) (y:=u) (u:=u) rfl;rw[wl,xL,Ws] at S;have a8:3≠29:=Ne.symm La;refine⟨⟨?_,?_,DG.snoc a3 λy hy=>?_⟩,S.2⟩
 .have:=S.1
  rwa [show(us++u0::vs).length=((us++[u])++vs).length by simp] at this ⊢
 .rw[yj,xM,Cx hr]
  refine Fh.snoc (a2.mono λy ys hy=>?_) ?_
  .have cV:=hy.below hb
   exact Av cV S.2 (A7 cV cL a8).ne
  .exact Av (BO hu ax) S.2 (A7 hu cL a8).ne
 .obtain⟨i,hi⟩:=xj hy
  obtain⟨ys,cN⟩:∃ys,(m.take us.length)[i]?=some ys:=⟨_,yu (by rw[<-a2.1];exact(yr.1 hi).1)⟩
  exact J9 (B:=0) (a2.2 i y ys hi cN) (λk hk=>(hu.lt k hk).1)
theorem Fi.whole{lo:Nat}{w:World}{us:List Value}{m:List (List Int)}(h:Fi lo w v us [] m)(hl:us.length=m.length):Au lo w v us m:=by obtain⟨a1,a2,a3⟩:=h;rw[sU] at a1;rw[hl,xt] at a2;exact⟨a1,a2,a3⟩
theorem Fi.below{lo:Nat}{w w1:World}{us:List Value}{m:List (List Int)}(h:Fi lo w v us vs m)(hb:Below w.heap.size w w1):Fi lo w1 v us vs m:=⟨h.1.below hb,h.2.1.mono λ_ _ h=>AF.below h hb,h.2.2⟩
def GU(lo:Nat)(w:World)(v:Value)(qs ps:List (Value×Int))(es:List EU):Prop:=AQ lo 74 2 Ec w v (qs++ps)/\Fh (λp e=>AQ lo 9 1 BB w p.1 e.zT/\p.2=e.root) qs (es.take qs.length)/\DG (qs.map (·.1))
theorem GU.step{lo g:Nat}{w w1:World}{qs ps:List (Value×Int)}{p0:Value×Int}{e:EU}(h:GU lo w (.slice (some ⟨g,0,none⟩) n ab) qs (p0::ps) es)(hn:n=(qs++p0::ps).length)
 (hb:Below w.heap.size w w1)(ax:lo<=w.heap.size)(hu:AQ w.heap.size 9 1 BB w1 u e.zT)(he:es[qs.length]?=some e)(hp:p0.2=e.root):
 GU lo (w1.setCell ⟨g,qs.length*2,none⟩ u) (.slice (some ⟨g,0,none⟩) n ab) (qs++[(u,p0.2)]) ps es/\w1.grownBy (w1.setCell ⟨g,qs.length*2,none⟩ u) (some g):=by
 obtain⟨a1,a2,a3⟩:=h;have cL:=a1.below hb;subst hn;have S:=AQ.zx Fc cL (k:=qs.length) (x:=p0) (by simp) (j:=0) (by decide) (y:=(u,p0.2)) (u:=u) rfl;rw[xL,Ws] at S;have a8:9≠74:=by decide
 refine⟨⟨?_,?_,?_⟩,S.2⟩
 .have:=S.1
  rwa [show(qs++p0::ps).length=((qs++[(u,p0.2)])++ps).length by simp] at this ⊢
 .rw[yj,xM,Cx he]
  refine Fh.snoc (a2.mono λy ys hy=>⟨?_,hy.2⟩) ⟨?_,hp⟩
  .have cV:=hy.1.below hb
   exact Av cV S.2 (A7 cV cL a8).ne
  .exact Av (BO hu ax) S.2 (A7 hu cL a8).ne
 .rw[List.map_append]
  refine DG.snoc a3 λy hy=>?_
  obtain⟨p,hp,rfl⟩:=List.mem_map.1 hy;obtain⟨i,hi⟩:=xj hp;obtain⟨e',he'⟩:∃e',(es.take qs.length)[i]?=some e':=⟨_,yu (by rw[<-a2.1];exact(yr.1 hi).1)⟩
  exact J9 (B:=0) (a2.2 i p e' hi he').1 (λk hk=>(hu.lt k hk).1)
theorem GU.whole{lo:Nat}{w:World}{qs:List (Value×Int)}(h:GU lo w v qs [] es)(hl:qs.length=es.length):DA lo w v qs es:=by obtain⟨a1,a2,a3⟩:=h;rw[sU] at a1;rw[hl,xt] at a2;exact⟨a1,a2,a3⟩
theorem TZ(v:Value)(m:List (List Int))(w:World)(h:Bf w v m)(av:Bs m=true):
 Calls prog 64 #[v] w λe w'=>∃v' vs,e=.returned v'/\Au w.heap.size w' v' vs m/\Below w.heap.size w w':=by
 obtain⟨vs,h1,h2⟩:=h;have bB:=(Ai.1 av).1;have cX:vs.length=12:=by rw[h2.1,bB]
 have CC:=AA (L6 v vs w h1 (by omega) (SL h2));have CI:=AA (λk (hk:k<12) W (hW:Below w.heap.size w W)=>IM (vs.getD k (.bool false)) (AH m k) W (Aw.below (h2.2 k _ _ (A1 (by omega)) (by unfold AH;exact A1 (by omega))) hW) (by have:=(A3.1 ((Ai.1 av).2 k hk)).1;omega));have SH:=AA (λk (hk:k<12)=>(by obtain⟨a,c,e,_⟩:=(h2.2 k _ _ (A1 (d:=Value.bool false) (by omega)) (A1 (d:=[]) (by omega))).open;exact⟨a,_,c,e⟩:∃a n c,vs.getD k (.bool false)=.slice a n c));have dd:=AA cX;have el:=AA bB;obtain⟨ai,ci,rfl,_,_⟩:=h1.shape;clear h1 h2 av bB;rw[cX] at CC ⊢;clear cX;go_in;go_wp2_with fail;refine(CC.out).mono ?_;rintro e w1 ⟨v',rfl,hO,dn⟩;obtain⟨g,ab,rfl,c1,c2,q1,q2,bs⟩:=hO.zM (by have:=dd.out;omega);unfold maxLen at c2;rw[dd.out] at hO c1 ⊢;have HO:=AA hO;have HB:=AA dn;clear hO dn bs;go_wp2_with fail;go_loopw [10] (λi wr=>∃us:List Value,us.length<=12/\i=.int .i64 us.length/\Fi w.heap.size wr (.slice (some ⟨g,0,none⟩) 12 ab) us (vs.drop us.length) m/\Below w.heap.size w wr) (λi _=>12 - (intOf i).toNat)
 case atStart=>exact⟨[],by simp,rfl,⟨HO.out,Fh.nil,DG.nil⟩,HB.out⟩
 case round=>
  obtain⟨us,hk,rfl,hH,ad⟩:=hrel
  by_cases a5:us.length<12
  .have cw:us.length<vs.length:=by rw[dd.out];exact a5
   have ed:vs.drop us.length=vs.getD us.length (.bool false)::vs.drop (us.length+1):=by
    rw[uh cw]
    congr 1
    simp[cw]
   rw[ed] at hH;have al:(us++vs.getD us.length (.bool false)::vs.drop (us.length+1)).length=12:=by have:=dd.out;simp only[yj,vW,wH];omega
   have cj:=hH.1;rw[<-al] at cj;have D:=AQ.zz EG cj (k:=us.length) (x:=vs.getD us.length (.bool false)) (by simp) 0 _ rfl;rw[wl,xL] at D;have C:=CI.out _ a5 wr ad;have hr:m[us.length]?=some (AH m us.length):=by unfold AH;exact A1 (by rw[el.out];exact a5)
   have HH:=AA hH;have HR:=AA hr;have CH:=AA C;have cM:=AA al;have bs:=xN cj us.length;have fv:(12:Int)<=ab:=by omega
   clear hH cj hr C ed al;generalize hu0:vs.getD us.length (.bool false)=u0 at*;obtain⟨a0,n0,c0,rfl⟩:∃a n c,u0=.slice a n c:=by have:=SH.out _ a5;rwa [hu0] at this
   go_wp2_with fail;refine(CH.out).mono ?_;rintro e w2 ⟨u,rfl,hu,au⟩;have D2:=(au.cell (p:=⟨g,us.length,none⟩) (yA wr _ D)).trans D;have eN:=(au.frozen (p:=⟨g,us.length,none⟩) (yA wr _ D)).trans bs;have ST:=AA (Fi.step HH.out cM.out.symm au ad.size hu HR.out);have fd:=AA (AM (ad.trans (au.mono ad.size)) ST.out.2 q1 (yB ad.size au.size));obtain⟨a9,c9,rfl,_⟩:=hu.rd.open;clear D bs hu au ad;go_wp2_with fail;go_roundw
   case rel=>refine⟨us++[.slice a9 (AH m us.length).length c9],by rw[yj,xM];omega,by rw[yj,xM];go_num,?_,fd.out⟩;rw[yj,xM];exact ST.out.1
   case measure=>simp[intOf];omega
  .have e12:us.length=12:=by omega
   rw[tU (by rw[e12,dd.out];exact yt _)] at hH;have R:=AA (hH.whole (by rw[e12,el.out]));clear hH;go_wp2_with fail;go_ret;exact⟨_,us,rfl,R.out,ad⟩
def JQ(lo:Nat)(w:World)(v:Value)(k:AN)(ps:List (Value×Int)):Prop:=∃m i e c,v=.agg #[m,i,e,c]/\(∃vs,Au lo w m vs k.mem)/\AQ lo 92 3 A2 w i k.zZ/\AQ lo 74 2 Ec w e ps/\AQ lo 112 4 Ag w c k.zW
theorem JQ.below{lo:Nat}{w:World}{k:AN}{ps:List (Value×Int)}(h:JQ lo w v k ps)(hb:Below w.heap.size w w'):JQ lo w' v k ps:=by obtain⟨m,i,e,c,h0,⟨vs,h1⟩,h2,h3,h4⟩:=h;exact⟨m,i,e,c,h0,⟨vs,h1.below hb⟩,h2.below hb,h3.below hb,h4.below hb⟩
def KK(lo:Nat)(w:World)(v:Value):Prop:=∃g,v=.pointer (some ⟨g,0,none⟩)/\lo<=g/\w.heap[g]?=some (.cells #[.slice none 0 0,.slice none 0 0,.slice none 0 0,.slice none 0 0] 28 (0,0))
theorem KK.below{lo:Nat}{w:World}(h:KK lo w v)(hb:Below w.heap.size w w'):KK lo w' v:=by obtain⟨g,h0,h1,h2⟩:=h;exact⟨g,h0,h1,AC h2 hb⟩
def Mc(w0:World)(g:Nat)(m i e c:Value)(k:AN)(qs ps:List (Value×Int))(wr:World):Prop:=
 wr.heap[g]?=some (.cells #[m,i,e,c] 28 (0,0))/\(∃vs,Au w0.heap.size wr m vs k.mem)/\AQ w0.heap.size 92 3 A2 wr i k.zZ/\GU w0.heap.size wr e qs ps k.zX/\AQ w0.heap.size 112 4 Ag wr c k.zW/\Below w0.heap.size w0 wr
theorem GU.below{lo:Nat}{w w1:World}{qs ps:List (Value×Int)}(h:GU lo w v qs ps es)(hb:Below w.heap.size w w1):GU lo w1 v qs ps es:=⟨h.1.below hb,h.2.1.mono λ_ _ h=>⟨h.1.below hb,h.2⟩,h.2.2⟩
theorem Mc.below{w0:World}{g:Nat}{m i e c:Value}{k:AN}{qs ps:List (Value×Int)}{wr:World}(h:Mc w0 g m i e c k qs ps wr)(hb:Below wr.heap.size wr w'):Mc w0 g m i e c k qs ps w':=by obtain⟨h0,⟨vs,h1⟩,h2,h3,h4,h5⟩:=h;exact⟨AC h0 hb,⟨vs,h1.below hb⟩,h2.below hb,h3.below hb,h4.below hb,h5.trans (hb.mono h5.size)⟩
theorem Mc.step{w0:World}{g:Nat}{m i c:Value}{k:AN}{qs ps:List (Value×Int)}{p0:Value×Int}{w w1:World}{e:EU}(h:Mc w0 g m i (.slice (some ⟨ge,0,none⟩) n ab) c k qs (p0::ps) w)(hn:n=(qs++p0::ps).length)
 (hb:Below w.heap.size w w1)(hu:AQ w.heap.size 9 1 BB w1 u e.zT)(he:k.zX[qs.length]?=some e)(hp:p0.2=e.root):
 Mc w0 g m i (.slice (some ⟨ge,0,none⟩) n ab) c k (qs++[(u,p0.2)]) ps (w1.setCell ⟨ge,qs.length*2,none⟩ u):=by
 obtain⟨hB,⟨vs,h1⟩,h2,h3,h4,h5⟩:=h;have S:=GU.step h3 hn hb h5.size hu he hp;have dH:=AC hB hb;have ck:=h3.1.below hb;obtain⟨bz,bb⟩:=A6 ck ge rfl;have ax:=(yq ck ge rfl).1;refine⟨(S.2.block g (AW dH) λe=>?_).trans dH,⟨vs,(h1.below hb).yL S.2 bb⟩,(h2.below hb).yL S.2 bb,S.1,(h4.below hb).yL S.2 bb,(h5.trans (hb.mono h5.size)).setCell ax _⟩;cases e;rw[dH] at bb;simp at bb
def Ol(w:World)(k:AN)(e:Ending)(w':World):Prop:=∃m i ev c,e=.returned (.agg #[m,i,ev,c])/\DP w.heap.size w' m i ev c k/\Below w.heap.size w w'
theorem Pe{k:AN}(hk:DJ k){j:Nat}(hj:j<3):(AJ k.zX j).zT.length<=6:=by have h5:=hk.zT j hj;unfold BQ at h5;simp only[yp,decide_eq_true_eq] at h5;exact h5.2
theorem Ta(m i e c:Value)(k:AN)(w:World)(h:Ma w m i e c k)(hk:DJ k):
 Calls prog 63 #[.agg #[m,i,e,c]] w (Ol w k):=by
 obtain⟨h1,h2,⟨ps,h3,ck⟩,h4⟩:=h;have br:ps.length=3:=by rw[ck.1,hk.zN]
 have cO:k.zW.length<=4:=by have:=hk.zW;simp only[BT,yp,decide_eq_true_eq] at this;exact this.2
 have dl:=hk.zN;have N0:=yv w (.cells #[m,i,e,c] 28);have N1:=yv (w.alloc (.cells #[m,i,e,c] 28)) (.cells #[.slice none 0 0,.slice none 0 0,.slice none 0 0,.slice none 0 0] 28);replace N0:=AC N0 (AE _ (.cells #[.slice none 0 0,.slice none 0 0,.slice none 0 0,.slice none 0 0] 28));have ao:=HJ w (.cells #[m,i,e,c] 28) (.cells #[.slice none 0 0,.slice none 0 0,.slice none 0 0,.slice none 0 0] 28);have dg:w.heap.size+2=((w.alloc (.cells #[m,i,e,c] 28)).alloc (.cells #[.slice none 0 0,.slice none 0 0,.slice none 0 0,.slice none 0 0] 28)).heap.size:=by simp
 simp only[World.size_alloc] at N1;obtain⟨am,cm,rfl,_⟩:=h1.open;obtain⟨ai,ci,rfl,_⟩:=h2.shape;obtain⟨ae,ce,rfl,_⟩:=h3.shape;obtain⟨ac,cc,rfl,_⟩:=h4.shape;have cP:=AA br;have fa:=AA cO;have dO:=AA dl;clear br cO dl;go_in;go_wp2_with fail;have br:=cP.out;have cO:=fa.out;have dl:=dO.out;generalize hW0:(w.alloc _).alloc _=W0 at*;have C1:=AA (λW (hW:Below W0.heap.size W0 W)=>TZ _ k.mem W ((h1.below ao).below hW) hk.mem);have C2:=AA (λW (hW:Below W0.heap.size W0 W)=>Jt _ k.zZ W ((h2.below ao).below hW) (by rw[hk.len];omega));have C3:=AA (λW (hW:Below W0.heap.size W0 W)=>Sl _ ps W ((h3.below ao).below hW) (by omega) (Xl ck));have C4:=AA (λW (hW:Below W0.heap.size W0 W)=>Kj _ k.zW W ((h4.below ao).below hW) (by omega));have C5:=AA (λj (hj:j<3) W (hW:Below w.heap.size w W)=>Oe (ps.getD j (.bool false,0)).1 (AJ k.zX j).zT W (BD.below (ck.2 j _ _ (A1 (by omega)) (by unfold AJ;exact A1 (by omega))).1 hW) (by have h6:=Pe hk hj;omega));have C6:=AA (λj (hj:j<3)=>(ck.2 j (ps.getD j (.bool false,0)) (AJ k.zX j) (A1 (by omega)) (by unfold AJ;exact A1 (by omega))).2);have C7:=AA (λj (hj:j<3)=>(by obtain⟨a,n,e,_⟩:=(ck.2 j (ps.getD j (.bool false,0)) (AJ k.zX j) (A1 (by omega)) (by unfold AJ;exact A1 (by omega))).1.shape;exact⟨a,_,n,e⟩:∃a n c,(ps.getD j (.bool false,0)).1=.slice a n c));have Hk:=AA hk;have cf:w.heap.size<W0.heap.size:=by omega
 obtain⟨x0,x1,x2,x3⟩:=AG N0;clear h1 h2 h3 ck h4 hk hW0 br cO dl;refine BN 14 37 [.p w.heap.size 0,.v (.slice am k.mem.length cm),.z,.p w.heap.size 1,.v (.slice ai k.zZ.length ci),.z,.p w.heap.size 2,.v (.slice ae ps.length ce),.z,.p w.heap.size 3,.v (.slice ac k.zW.length cc),.z,.z,.z] (λix vv ww=>match ix with
  |2=>∃bK,Au W0.heap.size ww vv bK k.mem
  |5=>AQ W0.heap.size 92 3 A2 ww vv k.zZ
  |8=>AQ W0.heap.size 74 2 Ec ww vv ps
  |11=>AQ W0.heap.size 112 4 Ag ww vv k.zW
  |12=>JQ W0.heap.size ww vv k ps
  |13=>KK W0.heap.size ww vv
  |_=>True) ?_ ?_ ?_
 .intro i hi o ho a wx Hb Hd hG K HK
  match i,hi with
  |0,_|3,_|6,_|9,_=>exact sP ho HK Hb Hd
  |1,_=>exact sL ho HK Hb Hd (hl:=GT (bc hG cf x0))
  |2,_=>exact sC ho HK Hb Hd (C1.out _ hG) (by rintro e w_ ⟨v',bK,rfl,hO,au⟩;exact⟨_,rfl,⟨bK,hO.lower hG.size⟩,au⟩)
  |4,_=>exact sL ho HK Hb Hd (hl:=F8 (bc hG cf x1))
  |5,_=>exact sC ho HK Hb Hd (C2.out _ hG) (by rintro e w_ ⟨v',rfl,hO,au⟩;exact⟨_,rfl,(hO.lower hG.size),au⟩)
  |7,_=>exact sL ho HK Hb Hd (hl:=No (bc hG cf x2))
  |8,_=>exact sC ho HK Hb Hd (C3.out _ hG) (by rintro e w_ ⟨v',rfl,hO,au⟩;exact⟨_,rfl,(hO.lower hG.size),au⟩)
  |10,_=>exact sL ho HK Hb Hd (hl:=Zp (bc hG cf x3))
  |11,_=>exact sC ho HK Hb Hd (C4.out _ hG) (by rintro e w_ ⟨v',rfl,hO,au⟩;exact⟨_,rfl,(hO.lower hG.size),au⟩)
  |12,_=>
   obtain rfl:=yF ho;have d2:∃bK,Au W0.heap.size wx (a.tmps[8]?.getD undef) bK k.mem:=BM Hd 2
   have d5:AQ W0.heap.size 92 3 A2 wx (a.tmps[11]?.getD undef) k.zZ:=BM Hd 5;have d8:AQ W0.heap.size 74 2 Ec wx (a.tmps[14]?.getD undef) ps:=BM Hd 8;have dp:AQ W0.heap.size 112 4 Ag wx (a.tmps[17]?.getD undef) k.zW:=BM Hd 11;clear Hd Hb;generalize e8:a.tmps[8]?.getD undef=m' at d2;generalize e11:a.tmps[11]?.getD undef=i' at d5;generalize e14:a.tmps[14]?.getD undef=e' at d8;generalize e17:a.tmps[17]?.getD undef=c' at dp;have W:Hid (JQ W0.heap.size wx (.agg #[m',i',e',c']) k ps):=AA ⟨m',i',e',c',rfl,d2,d5,d8,dp⟩;obtain⟨_,d2⟩:=d2;obtain⟨_,_,rfl,_,_⟩:=d2.1.rd.shape;obtain⟨_,_,rfl,_,_⟩:=d5.rd.shape;obtain⟨_,_,rfl,_,_⟩:=d8.rd.shape;obtain⟨_,_,rfl,_,_⟩:=dp.rd.shape;clear d2 d5 d8 dp;refine yE ?_;go_simp;exact HK.out _ _ W.out (yD _ _)
  |13,_=>obtain rfl:=yF ho;clear Hd Hb;refine yE ?_;go_simp;exact HK.out _ _ ⟨_,rfl,hG.size,yv _ _⟩ (AE _ _)
 .intro i hi vv wz cQ ch hz
  match i,hi with
  |2,_=>exact(by obtain⟨bK,h'⟩:=hz;exact⟨bK,h'.below ch⟩)
  |5,_|8,_|11,_=>exact(AQ.below hz ch)
  |12,_=>exact(JQ.below hz ch)
  |13,_=>exact(KK.below hz ch)
  |0,_|1,_|3,_|4,_|6,_|7,_|9,_|10,_=>exact hz
 .intro vs wx hR hG
  have cn:JQ W0.heap.size wx (vs 12) k ps:=BW hR 12;have bA:KK W0.heap.size wx (vs 13):=BW hR 13;obtain⟨g,bA,hg,hB⟩:=bA;clear hR;simp only[Aj,Ae,yC,yz,yy,yw,bA];simp;generalize vs 12=z12 at cn ⊢;clear bA;obtain⟨m',i',e0,c',rfl,⟨bK,o1⟩,o2,o3,o4⟩:=cn;obtain⟨ge,bk,rfl,d1,d2,fr,fq,dz⟩:=o3.zM (by rw[cP.out];omega);rw[cP.out] at o3 d1 ⊢;unfold maxLen at d2;have a8:g≠w.heap.size+1:=by omega
  have ar:=An (An (An (Aq wx g 0 m') 1 i') 2 (.slice (some ⟨ge,0,none⟩) 3 bk)) 3 c';have St:Mc W0 g m' i' (.slice (some ⟨ge,0,none⟩) 3 bk) c' k [] ps ((((wx.setCell ⟨g,0,none⟩ m').setCell ⟨g,1,none⟩ i').setCell ⟨g,2,none⟩ (.slice (some ⟨ge,0,none⟩) 3 bk)).setCell ⟨g,3,none⟩ c'):=
   ⟨Cs hB,⟨bK,o1.yL ar hB⟩,o2.yL ar hB,⟨o3.yL ar hB,Fh.nil,DG.nil⟩,o4.yL ar hB,(((hG.setCell hg _).setCell hg _).setCell hg _).setCell hg _⟩
  obtain⟨pa,pc,rfl,_,_⟩:=o1.1.rd.shape;obtain⟨qa,qc,rfl,_,_⟩:=o2.rd.shape;obtain⟨ra,rc,rfl,_,_⟩:=o4.rd.shape;obtain⟨b0,b1,b2,b3⟩:=AG hB;have bs:=AK hB;have fw:=AA N0;have fc:=AA N1;clear o1 o2 o3 o4 hG hB ar x0 x1 x2 x3 dz N0 N1;go_wp2_with fail;clear b0 b1 b2 b3 bs;go_loopw [22] (λi wr=>∃qs:List (Value×Int),qs.length<=3/\i=.int .i64 qs.length/\Mc W0 g _ _ (.slice (some ⟨ge,0,none⟩) 3 bk) _ k qs (ps.drop qs.length) wr) (λi _=>3 - (intOf i).toNat)
  case atStart=>exact⟨[],by simp,rfl,St⟩
  case round=>
   clear St;obtain⟨qs,hq,rfl,St⟩:=hrel
   by_cases a5:qs.length<3
   .have cw:qs.length<ps.length:=by rw[cP.out];exact a5
    have ed:ps.drop qs.length=ps.getD qs.length (.bool false,0)::ps.drop (qs.length+1):=by
     rw[uh cw]
     congr 1
     simp[cw]
    rw[ed] at St;have al:(qs++ps.getD qs.length (.bool false,0)::ps.drop (qs.length+1)).length=3:=by have:=cP.out;simp only[yj,vW,wH];omega
    have cj:=St.2.2.2.1.1;rw[<-al] at cj;have D:=AQ.zz Fc cj (k:=qs.length) (x:=ps.getD qs.length (.bool false,0)) (by simp);have D0:=D 0 _ rfl;have D1:=D 1 _ rfl;rw[xL] at D0;have fz:=xN cj;have aq:=ao.trans (St.2.2.2.2.2.mono ao.size);have C:=C5.out _ a5;have hp:=C6.out _ a5;obtain⟨a0,n0,c0,dg⟩:=C7.out _ a5;have he:k.zX[qs.length]?=some (AJ k.zX qs.length):=by unfold AJ;exact A1 (by rw[dO.out];exact a5)
    have y2:=(AG St.1).2.2.1;have dk:=AW St.1;have bw:=yA wr _ D0;have fb:=AA St;have cM:=AA al;have He:=AA he;have Hp:=AA hp;clear St al he hp cj D ed;generalize ps.getD qs.length (.bool false,0)=p0 at*;obtain⟨u0,r0⟩:=p0;cases dg
    change wr.cell? _=some (Value.slice a0 n0 c0) at D0
    change wr.cell? _=some (yf .i64 r0) at D1
    have N:=yv wr (.cells #[.slice a0 n0 c0,.int .i64 r0] 74);have cb:=AE wr (.cells #[.slice a0 n0 c0,.int .i64 r0] 74);have c3:(3:Int)<=bk:=by omega
    go_wp2_with fail;generalize wr.alloc _=wa at*;have y5:=yi _ _ 0 _ _ _ N;have eF:=AW N;have HC:=AA (λW (hW:Below wa.heap.size wa W)=>C W ((aq.trans (cb.mono aq.size)).trans (hW.mono (aq.trans (cb.mono aq.size)).size)));replace y2:=(cb.cell (p:=⟨g,2,none⟩) dk).trans y2;replace D0:=(cb.cell (p:=⟨ge,qs.length*2,none⟩) bw).trans D0;have ef:=(cb.frozen (p:=⟨ge,qs.length*2,none⟩) bw).trans (fz _);replace dk:=xX dk cb.size;replace bw:=xX bw cb.size;clear C N D1 fz;refine BN 8 37 [.p g 2,.v (.slice (some ⟨ge,0,none⟩) 3 bk),.i ((qs.length:Int)),.p wr.heap.size 0,.v (.slice a0 n0 c0),.z,.p ge (qs.length*2),.p ge (qs.length*2)] (λix vv ww=>match ix with
     |5=>AQ wa.heap.size 9 1 BB ww vv (AJ k.zX qs.length).zT
     |_=>True) ?_ ?_ ?_
    .intro i hi o ho a wx Hb Hd hG K HK
     match i,hi with
     |0,_|2,_|3,_|7,_=>exact sP ho HK Hb Hd
     |1,_=>exact sL ho HK Hb Hd (hl:=No (bc hG dk y2))
     |4,_=>exact sL ho HK Hb Hd (hl:=LM (bc hG eF y5))
     |5,_=>exact sC ho HK Hb Hd (HC.out _ hG) (by rintro e w_ ⟨v',rfl,hO,au⟩;exact⟨_,rfl,(hO.lower hG.size),au⟩)
     |6,_=>exact sI ho HK Hb Hd (hr:=by clear Hd Hb HK;go_simp)
    .intro i hi vv wz cQ ch hz
     match i,hi with
     |5,_=>exact(AQ.below hz ch)
     |0,_|1,_|2,_|3,_|4,_|6,_|7,_=>exact hz
    .intro vs wx hR hG
     have q5:AQ wa.heap.size 9 1 BB wx (vs 5) (AJ k.zX qs.length).zT:=BW hR 5;have q7:(vs 7)=.pointer (some ⟨ge,qs.length*2,none⟩):=BW hR 7;clear hR;simp only[Aj,Ae,yC,yz,yy,yw,q7];simp;generalize vs 5=z5 at q5 ⊢;clear q7;have ST:=AA (Mc.step (p0:=(_,r0)) fb.out cM.out.symm (cb.trans (hG.mono cb.size)) (q5.lower cb.size) He.out Hp.out);replace D0:=(hG.cell (p:=⟨ge,qs.length*2,none⟩) bw).trans D0;replace ef:=(hG.frozen (p:=⟨ge,qs.length*2,none⟩) bw).trans ef;obtain⟨_,_,rfl,_,_⟩:=q5.rd.shape;clear q5 hG y2 y5;go_wp2_with fail;go_roundw
     case rel=>exact⟨qs++[(_,r0)],by rw[yj,xM];omega,by rw[yj,xM];go_num,by rw[yj,xM];exact ST.out⟩
     case measure=>simp[intOf];omega
   .have e3:qs.length=3:=by omega
    rw[tU (by rw[e3,cP.out];exact yt _)] at St;obtain⟨hB,⟨ep,o1⟩,o2,o3,o4,ad⟩:=St;have o5:=o3.whole (by rw[e3,dO.out]);have bm:=(ad.block _ (by omega)).trans fc.out;have S:=AA (show ∀w',wr.grownBy w' (some (w.heap.size+1))->Ol w k (.returned (.agg #[_,_,(.slice (some ⟨ge,0,none⟩) 3 bk),_])) w' from λw' b6=>⟨_,_,_,_,rfl,⟨⟨ep,(o1.yL b6 bm).lower ao.size⟩,(o2.yL b6 bm).lower ao.size,⟨qs,(o5.yL b6 bm).lower ao.size⟩,(o4.yL b6 bm).lower ao.size⟩,(ao.trans (ad.mono ao.size)).grown b6 (ao.trans (ad.mono ao.size)).size (λk hk=>by cases hk;omega)⟩)
    obtain⟨E0,E1,E2,E3⟩:=AG (Cs (m':=.slice pa bK.length pc) (i':=.slice qa k.zZ.length qc) (e':=.slice (some ⟨ge,0,none⟩) 3 bk) (c':=.slice ra k.zW.length rc) bm);have HE:=AA (xZ E0 (xZ E1 (xZ E2 E3)));have ar:wr.grownBy ((((wr.setCell ⟨w.heap.size+1,0,none⟩ (.slice pa bK.length pc)).setCell ⟨w.heap.size+1,1,none⟩ (.slice qa k.zZ.length qc)).setCell ⟨w.heap.size+1,2,none⟩ (.slice (some ⟨ge,0,none⟩) 3 bk)).setCell ⟨w.heap.size+1,3,none⟩ (.slice ra k.zW.length rc)) (some (w.heap.size+1)):=An (An (An (Aq wr (w.heap.size+1) 0 _) 1 _) 2 _) 3 _;obtain⟨b0,b1,b2,b3⟩:=AG hB;obtain⟨c0,c1,c2,c3⟩:=AG bm;have bs:=AK bm;have eE:¬(qs.length:Int)<3:=by omega
    clear hB bm o1 o2 o3 o4 o5 E0 E1 E2 E3 e3;go_wp2_with fail;exact bodyPost_ret (v:=.agg #[_,_,_,_]) (by simp[results,Tryz.results63,go_sem,HE.out]) rfl (S.out _ ar)
theorem Tryz.infoInfo:(prog.info? 92).map (λi=>(i.zero,i.size,i.bytes))=some (some (.agg #[.int .i64 0,.string ⟨#[]⟩,.int .i64 0]),3,32):=by kernel_rfl
theorem Xc:(madeCells (Value.agg #[.int .i64 0,.string ⟨#[]⟩,.int .i64 0]).cells (12*3)).toList=Ci A2 (xV 12 AU.zero):=by kernel_rfl
def Zr(lo:Nat)(i:Nat)(v:Value)(w:World):Prop:=match i with
 |0=>∃vs,Au lo w v vs (NR 12)
 |1=>AQ lo 92 3 A2 w v (xV 12 AU.zero)
 |2=>AQ lo 74 2 Ec w v []
 |3=>AQ lo 112 4 Ag w v []
 |4=>∃m i e c,v=.agg #[m,i,e,c]/\(∃vs,Au lo w m vs (NR 12))/\AQ lo 92 3 A2 w i (xV 12 AU.zero)/\AQ lo 74 2 Ec w e []/\AQ lo 112 4 Ag w c []
 |5=>∃g,v=.pointer (some ⟨g,0,none⟩)/\lo<=g/\w.heap[g]?=some (.cells #[.slice none 0 0,.slice none 0 0,.slice none 0 0,.slice none 0 0] 28 (0,0))
 |_=>True
theorem Ja{lo i:Nat}{w:World}(h:Zr lo i v w)(hb:Below w.heap.size w w'):Zr lo i v w':=by
 match i with
 |0=>obtain⟨vs,h⟩:=h;exact⟨vs,h.below hb⟩
 |1|2|3=>exact AQ.below h hb
 |4=>obtain⟨m,i,e,c,h0,⟨vs,h1⟩,h2,h3,h4⟩:=h;exact⟨m,i,e,c,h0,⟨vs,h1.below hb⟩,h2.below hb,h3.below hb,h4.below hb⟩
 |5=>
  obtain⟨g,h0,h1,h2⟩:=h;have:g<w.heap.size:=by
   rcases Nat.lt_or_ge g w.heap.size with h|h
   .exact h
   .rw[Array.getElem?_eq_none h] at h2;cases h2
  exact⟨g,h0,h1,(hb.block g this).trans h2⟩
 |_+6=>trivial
def IQ(be:List (List ByteArray)):List EU:=be.map λts=>⟨ts,-1⟩
def Mu(be:List (List ByteArray)):AN:=⟨NR 12,xV 12 AU.zero,IQ be,[]⟩
def bO(w:World)(b:Bool)(k:AN)(e:Ending)(w':World):Prop:=∃m i ev c,e=.returned (.tuple #[.agg #[m,i,ev,c],.bool b])/\DP w.heap.size w' m i ev c k/\Below w.heap.size w w'
def YJ(w0:World)(lo g:Nat)(es:List EU)(wr:World):Prop:=
 ∃m i ev c vs ps,wr.heap[g]?=some (.cells #[m,i,ev,c] 28 (0,0))/\lo<=g/\Au lo wr m vs (NR 12)/\AQ lo 92 3 A2 wr i (xV 12 AU.zero)/\DA lo wr ev ps es/\AQ lo 112 4 Ag wr c []/\Below lo w0 wr
theorem Kw(v:Value)(be:List (List ByteArray))(w:World)(h:Li w v be)(h3:be.length=3)(av:∀ts∈be,BQ ts=true)(df:∀ts∈be,DQ ts):
 Calls prog 188 #[v] w (bO w true (Mu be)):=by
 obtain⟨vs,h1,h2⟩:=h;obtain⟨a,cv,rfl,hc,dA,H0⟩:=BD.open EG (by decide) h1;unfold maxLen at dA;have ff:vs.length<=3:=by rw[h2.1,h3];omega
 have eA:3<=vs.length:=by rw[h2.1,h3];omega
 have HB:=AA h2;have H3:=AA h3;have ek:=AA av;have eZ:=AA df;clear h2 h3 av df;go_in;go_wp2_with fail;have ao:=AE w (.cells #[.slice none 0 0,.slice none 0 0,.slice none 0 0,.slice none 0 0] 28);have dI:(w.alloc (.cells #[.slice none 0 0,.slice none 0 0,.slice none 0 0,.slice none 0 0] 28)).heap[w.heap.size]?=some (.cells #[.slice none 0 0,.slice none 0 0,.slice none 0 0,.slice none 0 0] 28 (0,0)):=yv w _;have dg:w.heap.size+1=(w.alloc (.cells #[.slice none 0 0,.slice none 0 0,.slice none 0 0,.slice none 0 0] 28)).heap.size:=by simp
 generalize w.alloc (.cells #[.slice none 0 0,.slice none 0 0,.slice none 0 0,.slice none 0 0] 28)=W0 at ao dI dg;refine Fo 6 mixed (by kernel_rfl) 41 rfl (by kernel_rfl) (Zr W0.heap.size) (λ_ w'=>Below W0.heap.size W0 w') ?_ ?_ ?_
 .exact A8 (yD _ _) 1
 .intro i hi o ho a w1 Hb Hd L HL hG K HK
  have cr:=hG.size;clear Hb HL
  match i,hi with
  |0,_=>obtain rfl:=yF ho;clear Hd;refine yE ?_;go_simp;refine(XZ _).mono ?_;rintro e w2 ⟨v,vs,rfl,h3,h4⟩;exact HK.out _ _ ⟨vs,h3.lower cr⟩ (hG.trans (h4.mono cr)) (λj u _ _ _ h=>Ja h h4)
  |1,_=>obtain rfl:=yF ho;clear Hd;refine yE ?_;obtain⟨i0,c7,cU,cT,cS⟩:=info_parts Tryz.infoInfo;obtain⟨w2,bu,h3,h4⟩:=run_make_full (P:=prog) w1 w1.heap.size 24 92 i0 _ 3 underlying24 c7 cU cT .i64 .i64 12 (by rw[cS];decide) (by decide) (yt _);have h5:=Below.zu h4;rw[Xc] at h3;have dT:(Instr.makeSlice 24 (.int .i64 12) (.int .i64 12)).run prog w1=.ok (.slice (some ⟨w1.heap.size,0,none⟩) 12 12) w2:=bu;clear c7 cU cT cS bu;go_simp;exact HK.out _ _ (BO h3 cr) (hG.trans (h5.mono cr)) (λj u _ _ _ h=>Ja h h5)
  |2,_|3,_=>obtain rfl:=yF ho;clear Hd;refine yE ?_;go_simp;exact HK.out _ _ ((By _ _ _ _).lower cr) (hG.alloc cr _) (λj u _ _ _ h=>Ja h (AE _ _))
  |4,_=>
   obtain rfl:=yF ho;have d0:=BM Hd 0;have d1:=BM Hd 1;have d2:=BM Hd 2;have d3:=BM Hd 3;clear Hd
   change ∃vs,Au _ _ (a.tmps[6]?.getD undef) _ _ at d0
   change AQ _ _ _ _ _ (a.tmps[7]?.getD undef) _ at d1
   change AQ _ _ _ _ _ (a.tmps[8]?.getD undef) _ at d2
   change AQ _ _ _ _ _ (a.tmps[9]?.getD undef) _ at d3
   refine yE ?_;generalize e6:a.tmps[6]?.getD undef=m at d0;generalize e7:a.tmps[7]?.getD undef=i at d1;generalize e8:a.tmps[8]?.getD undef=e at d2;generalize e9:a.tmps[9]?.getD undef=c at d3;obtain⟨er,d0⟩:=d0;have W:=AA (show Zr W0.heap.size 4 (.agg #[m,i,e,c]) w1 from⟨m,i,e,c,rfl,⟨er,d0⟩,d1,d2,d3⟩);obtain⟨_,_,rfl,_,_⟩:=d0.1.rd.shape;obtain⟨_,_,rfl,_,_⟩:=d1.rd.shape;obtain⟨_,_,rfl,_,_⟩:=d2.rd.shape;obtain⟨_,_,rfl,_,_⟩:=d3.rd.shape;clear d0 d1 d2 d3;go_simp;exact HK.out _ _ W.out hG (λj u _ _ _ h=>h)
  |5,_=>obtain rfl:=yF ho;clear Hd;refine yE ?_;go_simp;exact HK.out _ _ ⟨_,rfl,cr,yv _ _⟩ (hG.alloc cr _) (λj u _ _ _ h=>Ja h (AE _ _))
 .intro xs w1 hR L hL hG
  obtain⟨m,i,e,c,h0,⟨rs,h1⟩,h2,h3,h4⟩:=BW hR 4;obtain⟨g,h5,h6,h7⟩:=BW hR 5;clear hR hL;simp only[Aj,Ae,yC,yz,yy,yw,h0,h5];simp;generalize xs 0=y0;generalize xs 1=y1;generalize xs 2=y2;generalize xs 3=y3;have St:YJ W0 W0.heap.size g (IQ (be.take 0)) ((((w1.setCell ⟨g,0,none⟩ m).setCell ⟨g,1,none⟩ i).setCell ⟨g,2,none⟩ e).setCell ⟨g,3,none⟩ c):=by have ar:=An (An (An (Aq w1 g 0 m) 1 i) 2 e) 3 c;exact⟨m,i,e,c,rs,[],Cs h7,h6,h1.yL ar h7,h2.yL ar h7,⟨h3.yL ar h7,Fh.nil,DG.nil⟩,h4.yL ar h7,(((hG.setCell h6 _).setCell h6 _).setCell h6 _).setCell h6 _⟩
  obtain⟨_,_,rfl,_,_⟩:=h1.1.rd.shape;obtain⟨_,_,rfl,_,_⟩:=h2.rd.shape;obtain⟨_,_,rfl,_,_⟩:=h3.rd.shape;obtain⟨_,_,rfl,_,_⟩:=h4.rd.shape;obtain⟨c0,c1,c2,c3⟩:=AG h7;have bs:=AK h7;clear h0 h1 h2 h3 h4 h5 hG h6 h7;go_wp2_with fail;clear c0 c1 c2 c3 bs;simp only[vY,wW];go_loopw [5] (λi wr=>∃k:Nat,k<=3/\i=.int .i64 k/\YJ W0 W0.heap.size g (IQ (be.take k)) wr) (λi _=>3 - (intOf i).toNat)
  case atStart=>exact⟨0,by omega,rfl,St⟩
  case round=>
   clear St;obtain⟨k,hk,rfl,m,iv,ev,c,rs,ps,hB,hg,o1,o2,o3,o4,ad⟩:=hrel
   by_cases a5:k<3
   .have cw:k<vs.length:=by omega
    obtain⟨u,hu⟩:∃u,vs[k]?=some u:=⟨_,yu cw⟩
    obtain⟨ts,hts⟩:∃ts,be[k]?=some ts:=⟨_,yu (by rw[H3.out];exact a5)⟩
    have Ru:=HB.out.2 k u ts hu hts;have av:=ek.out ts (ye hts);have df:=eZ.out ts (ye hts);obtain⟨b,a7,rfl,dC,bl⟩:=H0 k u hu;have Dw:w.cell? ⟨b,a7+k,none⟩=some u:=by simpa using bl 0 u rfl
    have aq:=ao.trans (ad.mono ao.size);have D:wr.cell? ⟨b,a7+k,none⟩=some u:=(aq.cell (yA w _ Dw)).trans Dw;have ej:=AA hts;have Hu:=AA hu;clear hu hts Dw bl;go_wp2_with fail;refine(GI u ts _ (BD.below Ru aq) df).mono ?_;rintro e w2 ⟨rfl,dQ⟩;rw[av];have ay:Below wr.heap.size wr w2:=by obtain⟨n,rfl⟩:=dQ;exact A8 (yD _ _) n
    clear dQ av;have aq:=aq.trans (ay.mono aq.size);have D:w2.cell? ⟨b,a7+k,none⟩=some u:=(ay.cell (yA wr _ D)).trans D;have fn:=yA w2 _ D;have dG:=AC hB ay;have bt:=o3.below ay;have o1:=o1.below ay;have o2:=o2.below ay;have o4:=o4.below ay;have ad:=ad.trans (ay.mono ad.size);clear ay o3 hB;have fg:ts.length<=6:=by have:=ek.out ts (ye ej.out);simp only[BQ,yp,decide_eq_true_eq] at this;exact this.2
    have fj:(k:Int)<vs.length:=by omega
    go_wp2_with fail;have da:ev.ownBlock≠some g:=λhe=>by obtain⟨bz,hc⟩:=A6 bt.1 g he;rw[dG] at hc;simp at hc
    have cx:=λk hk=>(bt.1.lt k hk).2
    have b7:=λk hk=>(bt.1.lt k hk).1
    have cJ:∀w3,w2.grownBy w3 ev.ownBlock->w3.heap[g]?=some (.cells #[m,iv,ev,c] 28 (0,0)):=λw3 h=>(h.block g (AW dG) (λe=>da e.symm)).trans dG
    have cI:∀w3,w2.grownBy w3 ev.ownBlock->∀k,k<w.heap.size->w3.heap[k]?=w2.heap[k]? :=λw3 h k hk=>h.block k (xX hk aq.size) (λe=>by have:=b7 k e.symm;omega)
    have GS:=AA (λ(L:Nat->Bool)(w3:World)(i:Nat)(h:w2.grownBy w3 ev.ownBlock/\(L 10=false->Below w2.heap.size w2 w3))=>(⟨h.1,λdM=>h.2 (DU dM)⟩:w2.grownBy w3 ev.ownBlock/\(GP L i 10=false->Below w2.heap.size w2 w3)));have GB:=AA (λ(L:Nat->Bool)(w3 w4:World)(i:Nat)(h:w2.grownBy w3 ev.ownBlock/\(L 10=false->Below w2.heap.size w2 w3))(hb:Below w3.heap.size w3 w4)=>(⟨AP h.1 (AX hb _),λdM=>(h.2 (DU dM)).trans (hb.mono h.1.size)⟩:w2.grownBy w4 ev.ownBlock/\(GP L i 10=false->Below w2.heap.size w2 w4)));refine Fo 12 mixed (by kernel_rfl) 41 rfl (by kernel_rfl) (Zl W0.heap.size w2.heap.size g (.slice (some ⟨b,a7,none⟩) vs.length cv) u ev b (a7+k) k ts ps (IQ (be.take k))) (λL w3=>w2.grownBy w3 ev.ownBlock/\(L 10=false->Below w2.heap.size w2 w3)) ?_ ?_ ?_
    .exact⟨AX (A8 (yD _ _) 1) _,λ_=>A8 (yD _ _) 1⟩
    .intro i hi o ho a w3 Hb Hd L HL hG K HK
     match i,hi with
     |0,_=>
      obtain rfl:=yF ho;have e4:a.tmps[4]?.getD undef=.pointer (some ⟨g,0,none⟩):=by rw[Oj Hb 4];rfl
      clear Hd Hb;refine yE ?_;go_simp;exact HK.out _ _ rfl (GS.out _ _ _ hG) (λj u _ _ _ h=>h)
     |1,_=>
      obtain rfl:=yF ho;have d0:=BM Hd 0
      change a.tmps[24]?.getD undef=.pointer (some ⟨g,2,none⟩) at d0
      clear Hd Hb;refine yE ?_;have cg:w3.cell? ⟨g,2,none⟩=some ev:=yi w3 g 2 _ _ _ (cJ w3 hG.1);go_simp;exact HK.out _ _ rfl (GS.out _ _ _ hG) (λj u _ _ _ h=>h)
     |2,_=>obtain rfl:=yF ho;clear Hd Hb;refine yE ?_;go_simp;exact HK.out _ _ ⟨_,rfl,hG.1.size,yv _ _⟩ (GB.out _ _ _ _ hG (AE _ _)) (λj u _ _ _ h=>Ll h (AX (AE _ _) none) (λk hk=>by cases hk) (.inr rfl))
     |3,_=>
      obtain rfl:=yF ho;have e0:a.tmps[0]?.getD undef=.slice (some ⟨b,a7,none⟩) vs.length cv:=by rw[Oj Hb 0];rfl
      clear Hd Hb;refine yE ?_;go_simp;exact HK.out _ _ rfl (GS.out _ _ _ hG) (λj u _ _ _ h=>h)
     |4,_=>
      obtain rfl:=yF ho;have e5:a.tmps[5]?.getD undef=.int .i64 k:=by rw[Oj Hb 5];rfl
      clear Hd Hb;refine yE ?_;go_simp;exact HK.out _ _ rfl (GS.out _ _ _ hG) (λj u _ _ _ h=>h)
     |5,_=>
      obtain rfl:=yF ho;have d3:=BM Hd 3
      change a.tmps[27]?.getD undef=.slice (some ⟨b,a7,none⟩) vs.length cv at d3
      have d4:=BM Hd 4
      change a.tmps[28]?.getD undef=.int .i64 k at d4
      clear Hd Hb;refine yE ?_;go_simp;exact HK.out _ _ rfl (GS.out _ _ _ hG) (λj u _ _ _ h=>h)
     |6,_=>
      obtain rfl:=yF ho;have d5:=BM Hd 5
      change a.tmps[29]?.getD undef=.pointer (some ⟨b,a7+k,none⟩) at d5
      clear Hd Hb;refine yE ?_;have cu:w3.cell? ⟨b,a7+k,none⟩=some u:=(World.cell?_of_block (cI w3 hG.1 b dC)).trans D;go_simp;exact HK.out _ _ rfl (GS.out _ _ _ hG) (λj u _ _ _ h=>h)
     |7,_=>
      obtain rfl:=yF ho;have d2:=BM Hd 2
      change ∃g2,a.tmps[26]?.getD undef=.slice (some ⟨g2,0,none⟩) 0 0/\_<=g2/\_ at d2
      have d6:=BM Hd 6
      change a.tmps[30]?.getD undef=u at d6
      clear Hd Hb;refine yE ?_;obtain⟨g2,d2,eX,eW⟩:=d2;obtain⟨v7,w4,bu,r1,r2,r3⟩:=DZ (lo:=w2.heap.size) (w:=w3) (t:=72) (ty:=72) 9 _ 1 16 underlying72 Tryz.yW rfl (by decide) eW eX (BD.keep Ru (λk hk=>(cI w3 hG.1 k hk).trans (aq.block k hk))) Y2 (by omega);refine Cr rfl (Bl d2) (Bl d6) bu ?_;exact HK.out _ _ r1 (GB.out _ _ _ _ hG r2) (λj u _ _ _ h=>Ll h (AX r2 none) (λk hk=>by cases hk) (.inr rfl))
     |8,_=>
      obtain rfl:=yF ho;have d7:=BM Hd 7
      change AQ _ _ _ _ _ (a.tmps[31]?.getD undef) _ at d7
      clear Hd Hb;refine yE ?_;generalize e31:a.tmps[31]?.getD undef=r at d7;have W:=AA (show Zl W0.heap.size w2.heap.size g (.slice (some ⟨b,a7,none⟩) vs.length cv) u ev b (a7+k) k ts ps (IQ (List.take k be)) 8 (.agg #[r,.int .i64 (-1)]) w3 from⟨r,rfl,d7⟩);obtain⟨_,_,rfl,_,_⟩:=d7.rd.shape;clear d7;go_simp;exact HK.out _ _ W.out (GS.out _ _ _ hG) (λj u _ _ _ h=>h)
     |9,_=>
      obtain rfl:=yF ho;have d8:=BM Hd 8
      change ∃r,a.tmps[32]?.getD undef=.agg #[r,.int .i64 (-1)]/\_ at d8
      clear Hd Hb;refine yE ?_;obtain⟨r,d8,eV⟩:=d8;go_simp;exact HK.out _ _ ⟨r,_,rfl,hG.1.size,yv _ _,AQ.below eV (AE _ _)⟩ (GB.out _ _ _ _ hG (AE _ _)) (λj u _ _ _ h=>Ll h (AX (AE _ _) none) (λk hk=>by cases hk) (.inr rfl))
     |10,_=>
      obtain rfl:=yF ho;have d1:=BM Hd 1
      change a.tmps[25]?.getD undef=ev at d1
      have d9:=BM Hd 9
      change ∃r g9,a.tmps[33]?.getD undef=.slice (some ⟨g9,0,none⟩) 1 1/\_<=g9/\_/\_ at d9
      clear Hd Hb;refine yE ?_;obtain⟨r,g9,d9,fu,ei,eh⟩:=d9;have bC:=hG.2 HL.out.1;have eu:=bt;have bt:=bt.below bC;obtain⟨i0,c7,cU,cT,cS⟩:=info_parts Tryz.yR;have br:ps.length<=3:=by rw[bt.2.1.1];simp[IQ];omega
      obtain⟨fe,w4,bu,r1,r2,_,r4⟩:=run_append_own_at (P:=prog) w3 W0.heap.size 25 25 74 i0 _ 2 32 underlying25 c7 cU cT cS rfl (by decide) ev ps.length (Ci Ec ps) bt.1 ⟨g9,0,none⟩ 1 1 [r,.int .i64 (-1)] rfl (by
       intro j x hx
       match j,hx with
       |0,hx=>simp at hx;subst hx;exact yi w3 g9 0 _ _ _ ei
       |1,hx=>simp at hx;subst hx;exact yi w3 g9 1 _ _ _ ei) (by
       obtain⟨_,_,rfl,_,_⟩:=eh.rd.shape;simp[Value.oneCell']) (by simp only[maxLen];omega) (by omega) (yB ad.size bC.size)
      clear c7 cU cT cS;refine Cr rfl (Bl d1) (Bl d9) bu ?_;exact HK.out _ _ ⟨r,eu.push bC ad.size (yt _) eh r1 r2⟩ ⟨AP hG.1 r2,λh=>by simp[GP] at h⟩ (λj x hj _ _ h=>Ll h r2 cx (.inl hj))
     |11,_=>
      obtain rfl:=yF ho;have e4:a.tmps[4]?.getD undef=.pointer (some ⟨g,0,none⟩):=by rw[Oj Hb 4];rfl
      clear Hd Hb;refine yE ?_;go_simp;exact HK.out _ _ rfl (GS.out _ _ _ hG) (λj u _ _ _ h=>h)
    .intro xs w3 hR L hL hG
     obtain⟨r,o5⟩:=BW hR 10;have ee:xs 11=.pointer (some ⟨g,2,none⟩):=BW hR 11;have hG:=hG.1;clear hR hL;simp only[Aj,Ae,yC,yz,yy,yw,ee];simp;generalize xs 0=z0;generalize xs 1=z1;generalize xs 2=z2;generalize xs 3=z3;generalize xs 4=z4;generalize xs 5=z5;generalize xs 6=z6;generalize xs 7=z7;generalize xs 8=z8;generalize xs 9=z9;generalize xs 10=ev' at o5;clear ee;have bC:=cJ w3 hG;have ar:=Aq w3 g 2 ev';have St:YJ W0 W0.heap.size g (IQ (be.take (k+1))) (w3.setCell ⟨g,2,none⟩ ev'):=by
      have e1:IQ (be.take (k+1))=IQ (be.take k)++[⟨ts,-1⟩]:=by rw[Cx ej.out];simp[IQ]
      rw[e1];refine⟨m,iv,ev',c,rs,_,?_,hg,?_,?_,o5.yL ar bC,?_,?_⟩
      .have:=ym w3 g 2 _ 28 ev' bC
       simpa using this
      .exact Au.yL (o1.kept hG bt.1 (by decide) (by decide)) ar bC
      .exact AQ.yL (Av o2 hG (A7 o2 bt.1 (by decide)).ne) ar bC
      .exact AQ.yL (Av o4 hG (A7 o4 bt.1 (by decide)).ne) ar bC
      .exact(ad.grown hG ad.size (λk hk=>b7 k hk)).setCell hg _
     obtain⟨_,_,rfl,_,_⟩:=o5.1.rd.shape;obtain⟨_,_,rfl,_,_⟩:=bt.1.rd.shape;obtain⟨c0,c1,c2,c3⟩:=AG bC;have bs:=AK bC;simp only[yj,vW,wW,uT] at St;clear bC ar o5 o1 o2 bt o4 cJ cI GS GB da cx b7;go_wp2_with fail;go_roundw
     case rel=>exact⟨k+1,by omega,by go_num,St⟩
     case measure=>simp[intOf];omega
   .obtain rfl:k=3:=by omega
    have e3:be.take 3=be:=wD (by rw[H3.out];omega);rw[e3] at o3;have cw:¬(3:Int)<vs.length:=by omega
    have fi:((vs.length:Int) !=3)=false:=by simp;omega
    have a8:g≠w.heap.size:=by omega
    have bm:wr.heap[w.heap.size]?=some (.cells #[.slice none 0 0,.slice none 0 0,.slice none 0 0,.slice none 0 0] 28 (0,0)):=(ad.block _ (by omega)).trans dI;have S:=AA (show ∀w',wr.grownBy w' (some w.heap.size)->bO w true (Mu be) (.returned (.tuple #[.agg #[m,iv,ev,c],.bool true])) w' from λw' b6=>⟨m,iv,ev,c,rfl,⟨⟨rs,(o1.yL b6 bm).lower ao.size⟩,(o2.yL b6 bm).lower ao.size,⟨ps,(o3.yL b6 bm).lower ao.size⟩,(o4.yL b6 bm).lower ao.size⟩,(ao.trans (ad.mono ao.size)).grown b6 (ao.trans (ad.mono ao.size)).size (λk hk=>by cases hk;exact yt _)⟩)
    have ar:wr.grownBy ((((wr.setCell ⟨w.heap.size,0,none⟩ m).setCell ⟨w.heap.size,1,none⟩ iv).setCell ⟨w.heap.size,2,none⟩ ev).setCell ⟨w.heap.size,3,none⟩ c) (some w.heap.size):=An (An (An (Aq wr w.heap.size 0 m) 1 iv) 2 ev) 3 c;obtain⟨E0,E1,E2,E3⟩:=AG (Cs (m':=m) (i':=iv) (e':=ev) (c':=c) bm);have HE:=AA (xZ E0 (xZ E1 (xZ E2 E3)));clear E0 E1 E2 E3;obtain⟨_,_,rfl,_,_⟩:=o1.1.rd.shape;obtain⟨_,_,rfl,_,_⟩:=o2.rd.shape;obtain⟨_,_,rfl,_,_⟩:=o3.1.rd.shape;obtain⟨_,_,rfl,_,_⟩:=o4.rd.shape;obtain⟨c0,c1,c2,c3⟩:=AG hB;obtain⟨d0,d1,d2,d3⟩:=AG bm;have bs:=AK bm;clear hB bm o1 o2 o3 o4;simp only[vY,wW] at HE S ar ⊢;go_wp2_with fail;exact bodyPost_ret (v:=.tuple #[.agg #[_,_,_,_],.bool true]) (by simp[results,Tryz.results188,go_sem,HE.out]) rfl (S.out _ ar)
def VK(lo:Nat)(w:World)(v:Value)(r:List Int):Prop:=∃u g,v=.slice (some ⟨g,0,none⟩) 1 1/\lo<=g/\w.heap[g]?=some (.cells #[u] 29 (0,0))/\AF lo w u r
def VJ(lo:Nat)(w:World)(v:Value)(ts:List ByteArray):Prop:=∃u g,v=.slice (some ⟨g,0,none⟩) 1 1/\lo<=g/\w.heap[g]?=some (.cells #[u,.int .i64 (-1)] 74 (0,0))/\AQ lo 9 1 BB w u ts
theorem VK.past{lo:Nat}{w:World}{row:Option Nat}(h:VK lo w v r)(hg:w.grownBy w' row)(hr:∀k,row=some k->k<lo):VK lo w' v r:=by obtain⟨u,g,h0,h1,h2,h3⟩:=h;exact⟨u,g,h0,h1,Fk h2 h1 hg hr,Bq h3 hg hr⟩
theorem VJ.past{lo:Nat}{w:World}{ts:List ByteArray}{row:Option Nat}(h:VJ lo w v ts)(hg:w.grownBy w' row)(hr:∀k,row=some k->k<lo):VJ lo w' v ts:=by obtain⟨u,g,h0,h1,h2,h3⟩:=h;exact⟨u,g,h0,h1,Fk h2 h1 hg hr,Bq h3 hg hr⟩
theorem Ls{α:Type}(cs:α->List Value)(lo e sz:Nat)(w:World):AQ lo e sz cs w (.slice none 0 0) []:=World.ownsRow_nil _ _ _ _
theorem Dg{lo e sz g T:Nat}{w:World}{xs:List Value}{bz:Array Value}(h:w.ownsRow lo e sz v n xs)(hB:w.heap[g]?=some (.cells bz T (0,0)))(a8:e≠T):v.ownBlock≠some g:=λhe=>by obtain⟨c,hc⟩:=A6 h g he;rw[hB] at hc;simp at hc;exact a8 hc.2.symm
def Im(lo:Nat)(w:World)(g:Nat)(m i e c:Value)(k:AN):Prop:=w.heap[g]?=some (.cells #[m,i,e,c] 28 (0,0))/\lo<=g/\DP lo w m i e c k
theorem Im.below{lo g:Nat}{w:World}{m i e c:Value}{k:AN}(h:Im lo w g m i e c k)(hb:Below w.heap.size w w'):Im lo w' g m i e c k:=⟨AC h.1 hb,h.2.1,h.2.2.below hb⟩
theorem Im.cells{lo g:Nat}{w:World}{m i e c:Value}{k:AN}(h:Im lo w g m i e c k):w.cell? ⟨g,0,none⟩=some m/\w.cell? ⟨g,1,none⟩=some i/\w.cell? ⟨g,2,none⟩=some e/\w.cell? ⟨g,3,none⟩=some c:=AG h.1
section
variable {lo g:Nat} {w w1:World} {m i e c:Value} {k:AN}
theorem KP{T:Nat}{bz:Array Value}(hB:w.heap[g]?=some (.cells #[m,i,e,c] 28 (0,0)))(hg:w.grownBy w1 (some b))(hb:w.heap[b]?=some (.cells bz T (0,0)))(hT:28≠T):w1.heap[g]?=some (.cells #[m,i,e,c] 28 (0,0)):=by
 refine(hg.block g (AW hB) λhe=>?_).trans hB;cases he;rw[hB] at hb;simp at hb;exact hT hb.2
theorem Im.zZ(h:Im lo w g m i e c k)(ax:lo<=w.heap.size)(hb:Below w.heap.size w w1){i':Value}{xs:List AU}(h2:AQ w.heap.size 92 3 A2 w1 i' xs):Im lo (w1.setCell ⟨g,1,none⟩ i') g m i' e c {k with zZ:=xs}:=by obtain⟨hB,hg,⟨vs,o1⟩,o2,⟨ps,o3⟩,o4⟩:=h.below hb;have ar:=Aq w1 g 1 i';refine⟨?_,hg,⟨vs,o1.yL ar hB⟩,(h2.lower ax).yL ar hB,⟨ps,o3.yL ar hB⟩,o4.yL ar hB⟩;have:=ym w1 g 1 _ 28 i' hB;simpa using this
theorem Im.zW(h:Im lo w g m i e c k)(ax:lo<=w.heap.size)(hb:Below w.heap.size w w1){c':Value}{xs:List Al}(h2:AQ w.heap.size 112 4 Ag w1 c' xs):Im lo (w1.setCell ⟨g,3,none⟩ c') g m i e c' {k with zW:=xs}:=by obtain⟨hB,hg,⟨vs,o1⟩,o2,⟨ps,o3⟩,o4⟩:=h.below hb;have ar:=Aq w1 g 3 c';refine⟨?_,hg,⟨vs,o1.yL ar hB⟩,o2.yL ar hB,⟨ps,o3.yL ar hB⟩,(h2.lower ax).yL ar hB⟩;have:=ym w1 g 3 _ 28 c' hB;simpa using this
theorem Im.info(h:Im lo w g m (.slice (some ⟨gi,0,none⟩) n ab) e c k)(hn:n=k.zZ.length){f j:Nat}{x y:AU}{u:Value}(hk:k.zZ[f]?=some x)(hj:j<3)(hy:A2 y=(A2 x).set j u):
 Im lo (w.setCell ⟨gi,f*3+j,none⟩ u) g m (.slice (some ⟨gi,0,none⟩) n ab) e c {k with zZ:=k.zZ.set f y}/\w.grownBy (w.setCell ⟨gi,f*3+j,none⟩ u) (some gi)/\lo<=gi:=by
 obtain⟨hB,hg,⟨vs,o1⟩,o2,⟨ps,o3⟩,o4⟩:=h;subst hn;have S:=AQ.zx Ay o2 hk hj hy;obtain⟨bz,hc⟩:=A6 o2 gi rfl;exact⟨⟨KP hB S.2 hc (by decide),hg,⟨vs,o1.yL S.2 hc⟩,S.1,⟨ps,o3.yL S.2 hc⟩,o4.yL S.2 hc⟩,S.2,(yq o2 gi rfl).1⟩
end
theorem Au.turn{lo:Nat}{w:World}{m:List (List Int)}(h:Au lo w v vs m)(hf:f<m.length)(hu:vs[f]?=some u)(hr:AF lo w' u r)(hg:w.grownBy w' u.ownBlock):Au lo w' v vs (m.set f r):=by
 obtain⟨a1,a2,a3⟩:=h;have hx:=a2.2 f u _ hu (yu hf);refine⟨Av a1 hg (A7 a1 hx La).ne,⟨by rw[xS];exact a2.1,λj y ys hy cN=>?_⟩,a3⟩
 by_cases e:f=j
 .subst e
  rw[hu] at hy;cases hy;rw[xI hf] at cN;cases cN;exact hr
 .rw[wM e] at cN
  exact Av (a2.2 j y ys hy cN) hg (a3 j f y u (λh=>e h.symm) hy hu).ne
theorem Au.row{lo:Nat}{w:World}{m:List (List Int)}(h:Au lo w v vs m){f:Nat}(hf:f<m.length)(h0:0<(AH m f).length):
 ∃gw ab,vs[f]?=some (.slice (some ⟨gw,0,none⟩) (AH m f).length ab)/\AF lo w (.slice (some ⟨gw,0,none⟩) (AH m f).length ab) (AH m f)/\lo<=gw/\gw<w.heap.size:=by
 obtain⟨a1,a2,a3⟩:=h;obtain⟨u,hu⟩:∃u,vs[f]?=some u:=⟨_,yu (by rw[a2.1];exact hf)⟩
 have hx:=a2.2 f u (AH m f) hu (by unfold AH;exact A1 hf);obtain⟨gw,ab,rfl,h1,h2⟩:=JN hx h0;exact⟨gw,ab,hu,hx,h1,h2⟩
section
variable {lo g:Nat} {w w1:World} {m i e c:Value} {k:AN}
theorem Im.row(h:Im lo w g m i e c k){vs:List Value}(hv:Au lo w m vs k.mem){f gw n ab:Nat}{r:List Int}(hf:f<k.mem.length)(hu:vs[f]?=some (.slice (some ⟨gw,0,none⟩) n ab))(hr:AF lo w1 (.slice (some ⟨gw,0,none⟩) n ab) r)(hg:w.grownBy w1 (some gw)):
 Im lo w1 g m i e c {k with mem:=k.mem.set f r}:=by
 obtain⟨hB,dZ,_,o2,⟨ps,o3⟩,o4⟩:=h;have hx:=hv.2.1.2 f _ _ hu (yu hf);obtain⟨bz,hc⟩:=A6 hx gw rfl;exact⟨KP hB hg hc (by decide),dZ,⟨vs,hv.turn hf hu hr hg⟩,o2.yL hg hc,⟨ps,o3.yL hg hc⟩,o4.yL hg hc⟩
theorem Im.root(h:Im lo w g m i (.slice (some ⟨ge,0,none⟩) n ab) c k)(hn:n=k.zX.length){j:Nat}(hj:j<k.zX.length)(r:Int):
 Im lo (w.setCell ⟨ge,j*2+1,none⟩ (.int .i64 r)) g m i (.slice (some ⟨ge,0,none⟩) n ab) c {k with zX:=As k.zX j (Dn r)}/\w.grownBy (w.setCell ⟨ge,j*2+1,none⟩ (.int .i64 r)) (some ge)/\lo<=ge:=by
 obtain⟨hB,hg,⟨vs,o1⟩,o2,⟨ps,a1,a2,a3⟩,o4⟩:=h;have br:ps.length=k.zX.length:=a2.1;rw[<-br] at hn;subst hn;have b9:j<ps.length:=by omega
 have S:=AQ.zx Fc a1 (k:=j) (x:=ps[j]) (yu b9) (j:=1) (by decide) (y:=(ps[j].1,r)) (u:=.int .i64 r) rfl;obtain⟨bz,hc⟩:=A6 a1 ge rfl;refine⟨⟨KP hB S.2 hc (by decide),hg,⟨vs,o1.yL S.2 hc⟩,o2.yL S.2 hc,⟨ps.set j (ps[j].1,r),?_,⟨?_,?_⟩,?_⟩,o4.yL S.2 hc⟩,S.2,(yq a1 ge rfl).1⟩
 .exact S.1
 .rw[xS,Cz];exact br
 .intro q p ev hp bx
  rw[JM (d:=⟨[],0⟩)] at bx
  by_cases e:j=q
  .subst e
   rw[xI b9] at hp;rw[xI hj] at bx;cases hp;cases bx;have hx:=a2.2 j ps[j] (k.zX.getD j ⟨[],0⟩) (yu b9) (A1 hj);exact⟨hx.1.yL S.2 hc,rfl⟩
  .rw[wM e] at hp bx
   have hx:=a2.2 q p ev hp bx;exact⟨hx.1.yL S.2 hc,hx.2⟩
 .rw[tT,show ps[j].1=(ps.map (·.1))[j]'(by simpa using b9) by simp,List.set_getElem_self]
  exact a3
theorem Im.zT(h:Im lo w g m i (.slice (some ⟨ge,0,none⟩) n ab) c k)(hn:n=k.zX.length)(ax:lo<=w.heap.size)(hb:Below w.heap.size w w1){j:Nat}(hj:j<k.zX.length){u:Value}{ss:List ByteArray}(hu:AQ w.heap.size 9 1 BB w1 u ss):
 Im lo (w1.setCell ⟨ge,j*2,none⟩ u) g m i (.slice (some ⟨ge,0,none⟩) n ab) c {k with zX:=As k.zX j (BU ss)}/\w1.grownBy (w1.setCell ⟨ge,j*2,none⟩ u) (some ge)/\lo<=ge:=by
 have h':=h.below hb;obtain⟨dI,dZ,_,_,⟨co,b1,b2,b3⟩,_⟩:=h;obtain⟨hB,hg,⟨vs,o1⟩,o2,_,o4⟩:=h';have a1:=AQ.below b1 hb;have br:co.length=k.zX.length:=b2.1;rw[<-br] at hn;subst hn;have b9:j<co.length:=by omega
 have S:=AQ.zx Fc a1 (k:=j) (x:=co[j]) (yu b9) (j:=0) (by decide) (y:=(u,co[j].2)) (u:=u) rfl;rw[xL] at S;obtain⟨bz,hc⟩:=A6 a1 ge rfl;have a8:9≠74:=by decide
 refine⟨⟨KP hB S.2 hc (by decide),hg,⟨vs,o1.yL S.2 hc⟩,o2.yL S.2 hc,⟨co.set j (u,co[j].2),?_,⟨?_,?_⟩,?_⟩,o4.yL S.2 hc⟩,S.2,(yq a1 ge rfl).1⟩
 .exact S.1
 .rw[xS,Cz];exact br
 .intro q p ev hp bx
  rw[JM (d:=⟨[],0⟩)] at bx
  by_cases e:j=q
  .subst e
   rw[xI b9] at hp;rw[xI hj] at bx;cases hp;cases bx;have hx:=b2.2 j co[j] (k.zX.getD j ⟨[],0⟩) (yu b9) (A1 hj);exact⟨(hu.lower ax).yL S.2 hc a8,hx.2⟩
  .rw[wM e] at hp bx
   have hx:=b2.2 q p ev hp bx;exact⟨(hx.1.below hb).yL S.2 hc a8,hx.2⟩
 .rw[tT]
  intro x y a b dP ha cH;have yL:∀(q:Nat)(p:Value×Int),co[q]?=some p->Fg p.1 u:=λq p hq=>by
   obtain⟨ev,bx⟩:∃ev,k.zX[q]?=some ev:=⟨_,yu (by rw[<-br];exact(yr.1 hq).1)⟩
   exact J9 (B:=0) (b2.2 q p ev hq bx).1 (λk hk=>(hu.lt k hk).1)
  by_cases e1:j=x
  .subst e1
   rw[xI (by simpa using b9)] at ha;cases ha;rw[wM dP] at cH;rw[wK] at cH;obtain⟨p,hp,rfl⟩:=Option.map_eq_some_iff.1 cH;exact(yL y p hp).symm
  .rw[wM e1] at ha
   by_cases e2:j=y
   .subst e2
    rw[xI (by simpa using b9)] at cH;cases cH;rw[wK] at ha;obtain⟨p,hp,rfl⟩:=Option.map_eq_some_iff.1 ha;exact yL x p hp
   .rw[wM e2] at cH
    exact b3 x y a b dP ha cH
end
def Sj(w:World)(a:Option Addr)(es:List EU):Prop:=∀j,j<es.length->∃b a7 ua uc,a=some ⟨b,a7,none⟩/\b<w.heap.size/\w.cell? ⟨b,a7+j*2,none⟩=some (.slice ua (AJ es j).zT.length uc)/\w.cell? ⟨b,a7+j*2+1,none⟩=some (.int .i64 (AJ es j).root)/\BR w (.slice ua (AJ es j).zT.length uc) (AJ es j).zT
theorem Fq.open{w:World}(h:Fq w v es):∃a ab,v=.slice a es.length ab/\es.length<=ab/\ab<=maxLen/\Sj w a es:=by
 obtain⟨ps,h1,h2⟩:=h;obtain⟨a,ab,rfl,hc,dA,H⟩:=BD.open Fc (by decide) h1;refine⟨a,ab,by rw[h2.1],by rw[<-h2.1];exact hc,dA,λj hj=>?_⟩;have hp:j<ps.length:=by rw[h2.1];exact hj
 obtain⟨b,a7,rfl,a5,bl⟩:=H j _ (yu hp);have hr:=h2.2 j _ (AJ es j) (yu hp) (by unfold AJ;exact A1 hj);obtain⟨ua,uc,e,_,_⟩:=hr.1.shape;refine⟨b,a7,ua,uc,rfl,a5,?_,?_,?_⟩
 .have:=bl 0 _ rfl
  rw[e] at this;exact this
 .have:=bl 1 _ rfl
  rw[hr.2] at this;exact this
 .rw[<-e];exact hr.1
theorem Sj.below{w:World}{a:Option Addr}(h:Sj w a es)(hb:Below w.heap.size w w'):Sj w' a es:=by intro j hj;obtain⟨b,a7,ua,uc,rfl,a5,h0,h1,h2⟩:=h j hj;exact⟨b,a7,ua,uc,rfl,xX a5 hb.size,(hb.cell (p:=⟨b,a7+j*2,none⟩) a5).trans h0,(hb.cell (p:=⟨b,a7+j*2+1,none⟩) a5).trans h1,BD.below h2 hb⟩
theorem Fv{zZ:List AU}{a b:List Nat}(h:∀g,g∈a↔g∈b):BG zZ a ss=BG zZ b ss:=by
 unfold BG;rw[wA];simp only[yd];exact⟨λH g hg=>H g ((h g).2 hg),λH g hg=>H g ((h g).1 hg)⟩
section
variable {k:AN}
theorem Yp(h:Bs k.mem=false):Cl k=false:=by simp[Cl,h]
theorem Vq(h:BI k.zZ=false):Cl k=false:=by simp[Cl,h]
theorem Vp(h:BT k.zW=false):Cl k=false:=by simp[Cl,h]
theorem XW(h:k.zX.length≠3):Cl k=false:=by simp[Cl,Iq,h]
theorem Mo(hj:j<k.zX.length)(h:Du k (AJ k.zX j)=false):Cl k=false:=by have:k.zX.all (Du k)=false:=wg.2 ⟨AJ k.zX j,by unfold AJ;exact ye (A1 hj),by simp[h]⟩;simp[Cl,Iq,this]
theorem Yq(hf:f<12)(h:Da k f=false):Cl k=false:=by have:(yC 12).all (Da k)=false:=wg.2 ⟨f,xU.2 hf,by simp[h]⟩;simp[Cl,this]
theorem Ub(hf:f<12)(h:Gs k f=false):Cl k=false:=by have:(yC 12).all (Gs k)=false:=wg.2 ⟨f,xU.2 hf,by simp[h]⟩;simp[Cl,this]
theorem Vr(hj:j<k.zW.length)(h:Cn k (AT k.zW j)=false):Cl k=false:=by have:k.zW.all (Cn k)=false:=wg.2 ⟨AT k.zW j,by unfold AT;exact ye (A1 hj),by simp[h]⟩;simp[Cl,this]
theorem Yr(h1:Bs k.mem=true)(h2:BI k.zZ=true)(h3:BT k.zW=true)(h4:k.zX.length=3)(h5:∀j,j<3->Du k (AJ k.zX j)=true)
 (h6:∀f,f<12->Da k f=true/\Gs k f=true)(h7:∀j,j<k.zW.length->Cn k (AT k.zW j)=true):Cl k=true:=by
 have a1:k.zX.all (Du k)=true:=yd.2 λx hx=>by
  obtain⟨j,hj,rfl⟩:=wP hx;have:=h5 j (by omega);unfold AJ at this
  rwa [xR,yu hj] at this
 have a2:(yC 12).all (Da k)=true:=yd.2 λf hf=>(h6 f (xU.1 hf)).1
 have a3:(yC 12).all (Gs k)=true:=yd.2 λf hf=>(h6 f (xU.1 hf)).2
 have a4:k.zW.all (Cn k)=true:=yd.2 λx hx=>by
  obtain⟨j,hj,rfl⟩:=wP hx;have:=h7 j hj;unfold AT at this
  rwa [xR,yu hj] at this
 simp[Cl,Iq,h1,h2,h3,h4,a1,a2,a3,a4]
def Ee(k:AN)(j:Nat):List Int:=(yC 12).map λg=>(countP k.mem k.zZ g:Int)+(EQ (k.zX.take j) g:Int)
theorem Dp:(Ee k j).length=12:=by simp[Ee]
theorem LS{g:Nat}(h:g<12):nth (Ee k j) g=(countP k.mem k.zZ g:Int)+(EQ (k.zX.take j) g:Int):=by unfold Ee nth;rw[xR,wK,List.getElem?_range h];rfl
theorem SS:Ee k 0=(yC 12).map λg=>(countP k.mem k.zZ g:Int):=by unfold Ee;rw[List.take_zero];simp[EQ]
theorem QH{g:Nat}(hj:j<k.zX.length):EQ (k.zX.take (j+1)) g=EQ (k.zX.take j) g+(if(AJ k.zX j).root=(g:Int) then 1 else 0):=by
 have h:k.zX[j]?=some (AJ k.zX j):=by unfold AJ;exact A1 hj
 rw[Cx h];unfold EQ;rw[List.countP_append,List.countP_singleton];simp
theorem Wr(hj:j<k.zX.length)(h:(AJ k.zX j).root<0):Ee k (j+1)=Ee k j:=by
 unfold Ee;refine List.map_congr_left λg _=>?_
 rw[QH hj,if_neg (by omega),xL]
theorem Uz{r:Nat}(hj:j<k.zX.length)(h:(AJ k.zX j).root=(r:Int))(hr:r<12):Ee k (j+1)=(Ee k j).set r (nth (Ee k j) r+1):=by
 refine Lm (by simp[Ee]) λg hg=>?_
 rw[Dp] at hg;rw[TW (by rw[Dp];exact hr),LS hg,LS hr,QH hj,h]
 by_cases e:g=r
 .subst e;simp;omega
 .rw[if_neg e,LS hg,if_neg (by intro h;apply e;omega)];simp
theorem QD(hm:Bs k.mem=true){j g:Nat}(he:k.zX.length=3)(hg:g<12):0<=nth (Ee k j) g/\nth (Ee k j) g<=103:=by
 rw[LS hg];have h1:countP k.mem k.zZ g<=100:=by have:=PT (zZ:=k.zZ) (g:=g) hm (yt 12) (Nat.zero_le 4);unfold IY at this;unfold countP;omega
 have h2:EQ (k.zX.take j) g<=3:=by
  have:=List.countP_le_length (p:=λe:EU=>decide (e.root=(g:Int))) (l:=k.zX.take j);rw[List.length_take] at this;unfold EQ;omega
 omega
theorem QC(he:k.zX.length=3){f:Nat}(hf:f<12):Gs k f=decide ((zS k.zZ f).r=nth (Ee k 3) f):=by rw[LS hf,wD (by omega)];rfl
end
def GX(lo:Nat)(m:List (List Int))(root:Int)(w:World)(v:Value):Prop:=∃ts,AF lo w v (A0 ts)/\∀g,g∈ts↔g∈BZ m root
theorem GX.below{lo:Nat}{m:List (List Int)}{root:Int}{w:World}(h:GX lo m root w v)(hb:Below w.heap.size w w'):GX lo m root w' v:=by obtain⟨ts,h1,h2⟩:=h;exact⟨ts,AF.below h1 hb,h2⟩
theorem zw{m:List (List Int)}{root:Int}(hr:root<12):∀g∈BZ m root,g<12:=by
 intro g hg;obtain⟨h0,h⟩:=DY.1 hg;have hn:∀t:Nat,∀x∈named (AH m t),x<12:=λt x hx=>by unfold named at hx;obtain⟨y,hy,rfl⟩:=List.mem_map.1 hx;exact EP (List.mem_filter.1 hy).2
 rcases h with rfl|h|⟨t,_,h⟩
 .omega
 .exact hn _ _ h
 .exact hn _ _ h
def Aa.onCells(g:Nat)(c:Aa):Array Value:= #[.pointer (some ⟨g,0,none⟩),.int .i64 c.k,.int .i64 c.e,.int .i64 c.a,.int .i64 c.b,.int .i64 c.c,.string c.nm]
def Aa.on(g:Nat)(c:Aa):Value:=.agg (c.onCells g)
theorem J8{w:World}{g:Nat}{c:Aa}{T:Nat}(h:w.heap[b]?=some (.cells (c.onCells g) T (0,0))):w.cell? ⟨b,0,none⟩=some (.pointer (some ⟨g,0,none⟩))/\w.cell? ⟨b,1,none⟩=some (.int .i64 c.k)/\w.cell? ⟨b,2,none⟩=some (.int .i64 c.e)/\w.cell? ⟨b,3,none⟩=some (.int .i64 c.a)/\w.cell? ⟨b,4,none⟩=some (.int .i64 c.b)/\w.cell? ⟨b,5,none⟩=some (.int .i64 c.c)/\w.cell? ⟨b,6,none⟩=some (.string c.nm):=
 ⟨yi _ _ 0 _ _ _ h,yi _ _ 1 _ _ _ h,yi _ _ 2 _ _ _ h,yi _ _ 3 _ _ _ h,yi _ _ 4 _ _ _ h,yi _ _ 5 _ _ _ h,yi _ _ 6 _ _ _ h⟩
theorem Im.env{lo g:Nat}{w:World}{m i e c:Value}{k:AN}(h:Im lo w g m i e c k){j:Nat}(hj:j<k.zX.length):
 ∃ge ab ua uc,e=.slice (some ⟨ge,0,none⟩) k.zX.length ab/\ge<w.heap.size/\w.cell? ⟨ge,j*2,none⟩=some (.slice ua (AJ k.zX j).zT.length uc)/\w.cell? ⟨ge,j*2+1,none⟩=some (.int .i64 (AJ k.zX j).root)/\BR w (.slice ua (AJ k.zX j).zT.length uc) (AJ k.zX j).zT/\∀q,w.frozen? ⟨ge,q,none⟩=false:=by
 have hr:=h.2.2.rd.2.2.1;obtain⟨ps,o⟩:=h.2.2.2.2.1;have br:ps.length=k.zX.length:=o.2.1.1;obtain⟨ge,ab,rfl,_,a5⟩:=JN o.1 (by omega);obtain⟨a,cp,hv,_,_,H⟩:=Fq.open hr;simp only[Value.slice.injEq] at hv;obtain⟨rfl,_,rfl⟩:=hv;obtain⟨b,a7,ua,uc,eU,_,h0,h1,h2⟩:=H j hj;cases eU;rw[uT] at h0 h1;exact⟨ge,ab,ua,uc,by rw[br],a5,h0,h1,h2,λq=>xN o.1 q⟩
theorem Zm(g ge n ab en:Nat)(c:Aa)(w:World)(h2:w.cell? ⟨g,2,none⟩=some (.slice (some ⟨ge,0,none⟩) n ab))(he:c.e=(en:Int))(hn:en<n):
 Calls prog 205 #[c.on g] w λe w'=>e=.returned (.pointer (some ⟨ge,en*2,none⟩))/\Below w.heap.size w w':=by
 obtain⟨k,e,a,b,cc,nm⟩:=c;simp only at he;subst he;simp only[Aa.on,Aa.onCells];have N:=yv w (.cells #[.pointer (some ⟨g,0,none⟩),.int .i64 k,.int .i64 en,.int .i64 a,.int .i64 b,.int .i64 cc,.string nm] 126);have hb:=AE w (.cells #[.pointer (some ⟨g,0,none⟩),.int .i64 k,.int .i64 en,.int .i64 a,.int .i64 b,.int .i64 cc,.string nm] 126);have x2:=(hb.cell (p:=⟨g,2,none⟩) (yA w _ h2)).trans h2;have fh:(en:Int)<n:=by omega
 go_in;go_wp2_with fail;generalize w.alloc _=W0 at*;have y0:=xY (yi _ _ 0 _ _ _ N);have y2:=xY (yi _ _ 2 _ _ _ N);have k2:=xY x2;clear N x2 h2;refine Bo ?_
 repeat(go_big_quiet_step (fail))
 refine Bn λwq bq=>?_
 go_wp2_with fail;go_ret;exact⟨rfl,hb.trans (bq.mono hb.size)⟩
theorem Y1{lo g:Nat}{w:World}{m i e c:Value}{k:AN}(h:Im lo w g m i e c k)(call:Aa)(nm:ByteArray)(he:0<=call.e)(hn:call.e<k.zX.length):
 Calls prog 165 #[call.on g,.string nm] w λr w'=>r=.returned (.bool (Fb k call.e nm))/\Below w.heap.size w w':=by
 obtain⟨en,hen⟩:∃n:Nat,call.e=(n:Int):=⟨call.e.toNat,by omega⟩
 obtain⟨ge,ab,ua,uc,rfl,eJ,D0,_,R,_⟩:=h.env (j:=en) (by omega);have N:=yv w (.cells (call.onCells g) 126);have hb:=AE w (.cells (call.onCells g) 126);have CE:=AA (λW (hW:Below w.heap.size w W)=>Zm g ge k.zX.length ab en call W ((hW.cell (p:=⟨g,2,none⟩) (AW h.1)).trans h.cells.2.2.1) hen (by omega));have CM:=AA (λW (hW:Below w.heap.size w W)=>Ot _ (AJ k.zX en).zT nm W (BD.below R hW));have S:=AA (show Bv (AJ k.zX en).zT nm=Fb k call.e nm by unfold Fb;rw[hen];rfl);have HD:=AA D0;clear h R D0 hen he hn;obtain⟨k1,e1,a1,b1,c1,ew⟩:=call;simp only[Aa.on,Aa.onCells] at N hb CE ⊢;obtain⟨y0,y1,y2,y3,y4,y5,y6⟩:=J8 (c:=⟨k1,e1,a1,b1,c1,ew⟩) N;go_in;go_wp2_with fail;refine(CE.out _ hb).mono ?_;rintro e w2 ⟨rfl,au⟩;replace au:=hb.trans (au.mono hb.size);have D:=(au.cell (p:=⟨ge,en*2,none⟩) eJ).trans HD.out;clear y0 y1 y2 y3 y4 y5 y6 N hb;go_wp2_with fail;refine(CM.out _ au).mono ?_;rintro e w3 ⟨rfl,eT⟩;go_wp2_with fail;go_ret;exact⟨AI S.out,au.trans (eT.mono au.size)⟩
def JR(xs:List AU)(b:Int):Prop:=∀f,f<xs.length-> -b<=(zS xs f).r/\(zS xs f).r<=b
theorem Im.zS'{lo g:Nat}{w:World}{m i e c:Value}{k:AN}(h:Im lo w g m i e c k){f:Nat}(hf:f<k.zZ.length):
 ∃gi ab,i=.slice (some ⟨gi,0,none⟩) k.zZ.length ab/\gi<w.heap.size/\lo<=gi/\w.cell? ⟨gi,f*3,none⟩=some (.int .i64 (zS k.zZ f).k)/\w.cell? ⟨gi,f*3+1,none⟩=some (.string (zS k.zZ f).g)/\w.cell? ⟨gi,f*3+2,none⟩=some (.int .i64 (zS k.zZ f).r)/\∀q,w.frozen? ⟨gi,q,none⟩=false:=by
 have o:=h.2.2.2.1;obtain⟨gi,ab,rfl,_,_,ax,a5,bs⟩:=o.zM (by omega);obtain⟨d0,d1,d2⟩:=AQ.zP o hf;exact⟨gi,ab,rfl,a5,ax,d0,d1,d2,bs⟩
theorem Ql(v:Value)(xs:List AU)(f:Nat)(w:World)(h:BS w v xs)(av:BI xs=true)(hf:f<12)(hk:(zS xs f).k=1)(hr:(zS xs f).r=0):
 Calls prog 206 #[v,.int .i64 f] w λe w'=>∃v',e=.returned (.tuple #[v',.bool true])/\AQ w.heap.size 92 3 A2 w' v' (xs.set f AU.zero)/\Below w.heap.size w w':=by
 have hl:=(Az.1 av).1;have C1:=AA (λW (hW:Below w.heap.size w W)=>by have:=Ek v xs W (BD.below h hW) (CJ av);rw[av] at this;exact this);have C2:=AA (λW (_:Below w.heap.size w W)=>BK (by have:=Es (f:Int) W;rw[show Be (f:Int) 0 11=true from Ab.2 (by omega)] at this;exact this));have C3:=AA (λW (hW:Below w.heap.size w W)=>Jt v xs W (BD.below h hW) (by omega));obtain⟨ai,ci,rfl,eQ,dB,H2⟩:=BD.open Ay (by decide) h;obtain⟨bi,bN,rfl,db,D0,_,D2⟩:=H2.zP (show f<xs.length by omega);have eO:(f:Int)<xs.length:=by omega
 have t1:((zS xs f).k !=1)=false:=by simp[hk]
 have t2:((zS xs f).r !=0)=false:=by simp[hr]
 have Hl:=AA hl;have hb:=yD w.heap.size w;clear h av hk hr H2 hl;go_in;go_wp2_with fail;refine(C1.out _ hb).mono ?_;rintro e w_ ⟨rfl,b8⟩;replace hb:=hb.trans (b8.mono hb.size);clear b8;go_wp2_with fail;refine(C2.out _ hb).mono ?_;rintro e w_ ⟨rfl,b8⟩;replace hb:=hb.trans (b8.mono hb.size);clear b8;replace D0:=(hb.cell (p:=⟨bi,bN+f*3,none⟩) db).trans D0;replace D2:=(hb.cell (p:=⟨bi,bN+f*3+2,none⟩) db).trans D2;go_wp2_with fail;clear D0 D2;refine(C3.out _ hb).mono ?_;rintro e w4 ⟨v',rfl,hO,dD⟩;obtain⟨q,ab,rfl,c1,c2,q1,q2,bs⟩:=hO.zM (by have:=Hl.out;omega);unfold maxLen at c2;have hS:=AA (AQ.stored Ay hO (show f<xs.length by have:=Hl.out;omega) AU.zero);obtain⟨d0,d1,d2⟩:=AQ.zP hO (show f<xs.length by have:=Hl.out;omega);have hB:=AA (AM (hb.trans (dD.mono hb.size)) hS.out.2 (yB hb.size q1) (hb.trans (dD.mono hb.size)).size);have ax:=hb.size;clear hO dD hb t1 t2;go_wp2_with fail;go_ret2;exact⟨_,rfl,hS.out.1.lower ax,hB.out⟩
theorem Sm(v:Value)(xs:List AU)(f:Nat)(w:World)(h:BS w v xs)(av:BI xs=true)(hf:f<12)(hk:(zS xs f).k=1)(hr:(zS xs f).r≠0):
 Calls prog 206 #[v,.int .i64 f] w λe w'=>e=.returned (.tuple #[.slice none 0 0,.bool false])/\Below w.heap.size w w':=by
 have hl:=(Az.1 av).1;have C1:=AA (λW (hW:Below w.heap.size w W)=>by have:=Ek v xs W (BD.below h hW) (CJ av);rw[av] at this;exact this);have C2:=AA (λW (_:Below w.heap.size w W)=>BK (by have:=Es (f:Int) W;rw[show Be (f:Int) 0 11=true from Ab.2 (by omega)] at this;exact this));obtain⟨ai,ci,rfl,eQ,dB,H2⟩:=BD.open Ay (by decide) h;obtain⟨bi,bN,rfl,db,D0,_,D2⟩:=H2.zP (show f<xs.length by omega);have eO:(f:Int)<xs.length:=by omega
 have t1:((zS xs f).k !=1)=false:=by simp[hk]
 have t2:((zS xs f).r !=0)=true:=by simp[hr]
 have hb:=yD w.heap.size w;clear h av hk hr H2 hl;go_in;go_wp2_with fail;refine(C1.out _ hb).mono ?_;rintro e w_ ⟨rfl,b8⟩;replace hb:=hb.trans (b8.mono hb.size);clear b8;go_wp2_with fail;refine(C2.out _ hb).mono ?_;rintro e w_ ⟨rfl,b8⟩;replace hb:=hb.trans (b8.mono hb.size);clear b8;replace D0:=(hb.cell (p:=⟨bi,bN+f*3,none⟩) db).trans D0;replace D2:=(hb.cell (p:=⟨bi,bN+f*3+2,none⟩) db).trans D2;go_wp2_with fail;go_ret2;exact⟨rfl,hb⟩
def JO(lo g:Nat)(w:World)(res:ML)(r:Ending)(w':World):Prop:=r=.returned (.tuple #[.int .i64 res.2.1,.int .i64 res.2.2])/\(res.2.2=0->∃m i e c,Im lo w' g m i e c res.1)/\Below lo w w'
def Gl(lo g:Nat)(w:World)(res:ML)(r:Ending)(w':World):Prop:=r=.returned (.int .i64 res.2.2)/\(res.2.2=0->∃m i e c,Im lo w' g m i e c res.1)/\Below lo w w'
theorem JO.bad{lo g:Nat}{w:World}{k:AN}{n:Int}{res:ML}(h:res=(k,0,n))(hn:n≠0)(hb:Below lo w w'):JO lo g w res (.returned (.tuple #[.int .i64 0,.int .i64 n])) w':=by subst h;exact⟨rfl,λh=>absurd h hn,hb⟩
theorem Gl.bad{lo g:Nat}{w:World}{k:AN}{n:Int}{res:ML}(h:res=(k,0,n))(hn:n≠0)(hb:Below lo w w'):Gl lo g w res (.returned (.int .i64 n)) w':=by subst h;exact⟨rfl,λh=>absurd h hn,hb⟩
theorem At{k:AN}(h:DJ k):Bs k.mem=true/\BI k.zZ=true/\BT k.zW=true:=by have:=EZ.2 h;unfold Cl at this;simp only[yp] at this;exact⟨this.1.1.1.1.1.1,this.1.1.1.1.1.2,this.1.1.1.1.2⟩
theorem WK{lo g:Nat}{w:World}(h:AF lo w (.slice (some ⟨g,0,none⟩) 4 ab) r)(hl:r.length=4):
 ∃w',(∀ty,(uB #[29] ty #[.slice (some ⟨g,0,none⟩) 4 ab]).run prog w=.ok (.tuple #[]) w')/\AF lo w' (.slice (some ⟨g,0,none⟩) 4 ab) [0,0,0,0]/\w.grownBy w' (some g):=by
 have h4:w.ownsRow lo 3 1 (.slice (some ⟨g,0,none⟩) 4 ab) 4 (r.map (yf .i64)):=by have:=h;unfold AF at this;rwa [hl] at this
 have ez:(xK (yf .i64 0).cells 4).toList=[.int .i64 0,.int .i64 0,.int .i64 0,.int .i64 0]:=by kernel_rfl
 have hst:=run_storeCells_cells (P:=prog) g 0 (xK (yf .i64 0).cells 4).toList 0 w (by
  intro j hj;have fl:j<4:=by rw[ez] at hj;exact hj
  have:=xB h4 j (by omega);simp only[uT] at this ⊢;rw[this];simp;omega) (by intro j _;exact xN h4 _) (by
  intro u hu;rw[ez] at hu;have:u=.int .i64 0:=by simpa using hu
  subst this;rfl)
 simp only[xL] at hst;have e0:=Jz g 0 (xK (yf .i64 0).cells 4).toList 0 w;rw[xL] at e0;refine⟨w.setCells g 0 (xK (yf .i64 0).cells 4).toList,λty=>?_,?_,?_⟩
 .simp[uB,run_underlying underlying29,hst]
 .rw[e0]
  obtain⟨a1,_⟩:=Ih h4 0 0 (xK (yf .i64 0).cells 4).toList;have e:JF (r.map (yf .i64)) 0 0 (xK (yf .i64 0).cells 4).toList=[0,0,0,0].map (yf .i64):=by
   rw[ez]
   match r,hl with
   | [a,b,c,d],_=>rfl
  rw[e] at a1;exact a1
 .rw[e0]
  exact(Ih h4 0 0 (xK (yf .i64 0).cells 4).toList).2
theorem Im.zd{lo g:Nat}{w:World}{m i e c:Value}{k:AN}(h:Im lo w g m i e c k)(av:Bs k.mem=true){f:Nat}(hf:f<12):
 ∃gm cl gw az vs,m=.slice (some ⟨gm,0,none⟩) 12 cl/\gm<w.heap.size/\gm≠g/\w.cell? ⟨gm,f,none⟩=some (.slice (some ⟨gw,0,none⟩) 4 az)/\gw<w.heap.size/\lo<=gw/\gw≠g/\gw≠gm/\Au lo w m vs k.mem/\vs[f]?=some (.slice (some ⟨gw,0,none⟩) 4 az)/\AF lo w (.slice (some ⟨gw,0,none⟩) 4 az) (AH k.mem f):=by
 obtain⟨vs,o⟩:=h.2.2.1;obtain⟨bB,hr⟩:=Ai.1 av;have h4:=(A3.1 (hr f hf)).1;have cX:vs.length=12:=by rw[o.2.1.1,bB]
 obtain⟨gm,cl,rfl,_,_,_,dj,_⟩:=o.1.zM (by omega);obtain⟨gw,az,hu,hx,ax,a5⟩:=o.row (f:=f) (by omega) (by omega);rw[h4] at hu hx;have D:=AQ.zz EG o.1 hu 0 _ rfl;rw[wl,xL] at D;have n1:gm≠g:=λe=>Dg o.1 h.1 (by decide) (by rw[e];rfl)
 have n2:gw≠g:=λe=>Dg hx h.1 (by decide) (by rw[e];rfl)
 have n3:gw≠gm:=λe=>by have:=A7 hx o.1 (Ne.symm La) gw rfl;apply this;rw[e];rfl
 rw[cX] at*;exact⟨gm,cl,gw,az,vs,rfl,dj,n1,D,a5,ax,n2,n3,o,hu,hx⟩
theorem X3{lo g:Nat}{w:World}{m i e c:Value}{k:AN}(h:Im lo w g m i e c k)(ax:lo<=w.heap.size)(hK:DJ k)(call:Aa)(he:0<=call.e)(hn:call.e<3)(di:call.nm.size<=maxLen):
 Calls prog 164 #[call.on g] w (JO lo g w (Ix k call)):=by
 have N:=yv w (.cells (call.onCells g) 126);have ao:=AE w (.cells (call.onCells g) 126);obtain⟨hm,hi,hc⟩:=At hK;have C1:=AA (λW (_:Below w.heap.size w W)=>Fj call.nm W di);have C2:=AA (λW (hW:Below w.heap.size w W)=>Y1 (h.below hW) call call.nm he (by rw[hK.zN];exact hn));have P:Ix k call=if BP call.nm=false then(k,0,3) else if Fb k call.e call.nm=false then(k,0,1) else if Am k.zZ<0 then(k,0,4) else({k with zZ:=k.zZ.set (Am k.zZ).toNat ⟨1,call.nm,0⟩,mem:=k.mem.set (Am k.zZ).toNat [0,0,0,0]},Am k.zZ,0):=rfl
 obtain⟨k1,e1,a1,b1,c1,nm⟩:=call;simp only[Aa.on,Aa.onCells] at N ao C1 C2 P di ⊢;obtain⟨y0,y1,y2,y3,y4,y5,y6⟩:=J8 (c:=⟨k1,e1,a1,b1,c1,nm⟩) N;have hl:=AW N;have HN:=AA N;have HP:=AA P;have Hm:=AA hm;have Hi:=AA hi;have HK:=AA hK;have HI:=AA h;clear P hm hi hc hK h N y0 y1 y2 y3 y4 y5;go_in;go_wp2_with fail;generalize hW0:w.alloc _=W0 at*;clear hW0;cases e5:BP nm
 .have T:=AA e5
  have E:=AA (show Ix k ⟨k1,e1,a1,b1,c1,nm⟩=(k,0,3) by rw[HP.out,e5];rfl);clear e5 y6;refine(C1.out _ ao).mono ?_;rintro r w1 ⟨rfl,dn⟩;rw[T.out];have aq:=ao.trans (dn.mono ao.size);go_wp2_with fail;go_ret2;exact JO.bad E.out (by decide) (aq.mono ax)
 .have T:=AA e5
  have eo:=AA (show Ix k ⟨k1,e1,a1,b1,c1,nm⟩=_ by rw[HP.out,e5,if_neg (by decide)]);clear e5 y6;refine(C1.out _ ao).mono ?_;rintro r w1 ⟨rfl,cG⟩;rw[T.out];have aq:=ao.trans (cG.mono ao.size);obtain⟨y0,y1,y2,y3,y4,y5,y6⟩:=J8 (c:=⟨k1,e1,a1,b1,c1,nm⟩) (AC HN.out cG);go_wp2_with fail;clear y0 y1 y2 y3 y4 y5 y6;cases e6:Fb k e1 nm
  .have T6:=AA e6
   have E:=AA (show Ix k ⟨k1,e1,a1,b1,c1,nm⟩=(k,0,1) by rw[eo.out,e6];rfl);clear e6;refine(C2.out _ aq).mono ?_;rintro r w2 ⟨rfl,au⟩;rw[T6.out];replace aq:=aq.trans (au.mono aq.size);go_wp2_with fail;go_ret2;exact JO.bad E.out (by decide) (aq.mono ax)
  .have T6:=AA e6
   have em:=AA (show Ix k ⟨k1,e1,a1,b1,c1,nm⟩=_ by rw[eo.out,e6,if_neg (by decide)]);clear e6;refine(C2.out _ aq).mono ?_;rintro r W2 ⟨rfl,au⟩;rw[T6.out];replace cG:=cG.trans (au.mono cG.size);replace aq:=aq.trans (au.mono aq.size);have h2:=HI.out.below aq;have dE:=AA h2;have dv:=yB ax aq.size;obtain⟨y0,y1,y2,y3,y4,y5,y6⟩:=J8 (c:=⟨k1,e1,a1,b1,c1,nm⟩) (AC HN.out cG);have c5:=xX hl cG.size;have cy:=AW h2.1;have eL:g≠w.heap.size:=Nat.ne_of_lt (AW HI.out.1);obtain⟨gi,cK,rfl,_,_,_,_,_,dy⟩:=h2.zS' (f:=0) (by have:=(Az.1 Hi.out).1;omega);have x1:=h2.cells.2.1;have RI:BS W2 (.slice (some ⟨gi,0,none⟩) k.zZ.length cK) k.zZ:=h2.2.2.2.1.rd;clear h2 au y1 y2 y3 y4 y5 dy;go_wp2_with fail
   by_cases e7:Am k.zZ<0
   .have E:=AA (show Ix k ⟨k1,e1,a1,b1,c1,nm⟩=(k,0,4) by rw[em.out,if_pos e7])
    have C3:=AA (λW (hW:Below W2.heap.size W2 W)=>PB _ k.zZ nm W (BD.below RI hW) (CJ Hi.out) di Hi.out T.out e7);clear e7 RI;refine AY 15 49 [.p w.heap.size 0,.p g 0,.p g 0,.p g 1,.s gi k.zZ.length cK,.p w.heap.size 1,.p w.heap.size 6,.t nm,.v (.tuple #[.slice none 0 0,.int .i64 0,.bool false]),.v (.tuple #[.slice none 0 0,.int .i64 0,.bool false]),.v (.slice none 0 0),.i 0,.b false,.v (.slice none 0 0),.i 0] (λ_ _ _=>True) ?_ ?_
    .intro i hi o ho a wx Hb Hd hG K HK
     match i,hi with
     |0,_|2,_|3,_|5,_|6,_|9,_|10,_|11,_|12,_|13,_|14,_=>exact sP ho HK Hb Hd
     |1,_=>exact sL ho HK Hb Hd (hl:=Um (bc hG c5 y0))
     |4,_=>exact sL ho HK Hb Hd (hl:=F8 (bc hG cy x1))
     |7,_=>exact sL ho HK Hb Hd (hl:=Yu (bc hG c5 y6))
     |8,_=>exact sD ho HK Hb Hd (C3.out _ hG)
     |_+15,hq=>omega
    .intro vs wx hR hG
     have cn:(vs 12)=.bool false:=BW hR 12;have bA:(vs 13)=.slice none 0 0:=BW hR 13;have cR:(vs 14)=.int .i64 0:=BW hR 14;clear hR;simp only[Aj,Ae,yC,yz,yy,yw,cn,bA,cR];simp;clear cn bA cR;replace aq:=aq.trans (hG.mono aq.size);clear hG y0 y6 x1;go_wp2_with fail;go_ret2;exact JO.bad E.out (by decide) (aq.mono ax)
   .obtain⟨f1,f2,f3⟩:=FU e7
    obtain⟨f,hf⟩:∃f:Nat,Am k.zZ=(f:Int):=⟨(Am k.zZ).toNat,by omega⟩
    have E:=AA (show Ix k ⟨k1,e1,a1,b1,c1,nm⟩=({k with zZ:=k.zZ.set f ⟨1,nm,0⟩,mem:=k.mem.set f [0,0,0,0]},(f:Int),0) by rw[em.out,if_neg e7,hf];rfl);have de:=λW (hW:Below W2.heap.size W2 W)=>PC _ k.zZ nm W (BD.below RI hW) (CJ Hi.out) di Hi.out T.out f3
    unfold QS at de;rw[hf] at de f1;simp only[Int.toNat_natCast] at de f1;have C3:=AA de;have cz:f<12:=by have:=(Az.1 Hi.out).1;omega
    clear e7 RI de f2 f3 hf f1;refine BN 15 49 [.p w.heap.size 0,.p g 0,.p g 0,.p g 1,.s gi k.zZ.length cK,.p w.heap.size 1,.p w.heap.size 6,.t nm,.z,.z,.z,.i ((f:Int)),.b true,.z,.i ((f:Int))] (λix vv ww=>match ix with
     |8|9=>∃v',vv=.tuple #[v',.int .i64 f,.bool true]/\AQ W2.heap.size 92 3 A2 ww v' (k.zZ.set f ⟨1,nm,0⟩)
     |10|13=>AQ W2.heap.size 92 3 A2 ww vv (k.zZ.set f ⟨1,nm,0⟩)
     |_=>True) ?_ ?_ ?_
    .intro i hi o ho a wx Hb Hd hG K HK
     match i,hi with
     |0,_|2,_|3,_|5,_|6,_|14,_=>exact sP ho HK Hb Hd
     |1,_=>exact sL ho HK Hb Hd (hl:=Um (bc hG c5 y0))
     |4,_=>exact sL ho HK Hb Hd (hl:=F8 (bc hG cy x1))
     |7,_=>exact sL ho HK Hb Hd (hl:=Yu (bc hG c5 y6))
     |8,_=>exact sC ho HK Hb Hd (C3.out _ hG) (by rintro e w_ ⟨v',rfl,hO,au⟩;exact⟨_,rfl,⟨_,rfl,hO.lower hG.size⟩,au⟩)
     |9,_=>
      obtain rfl:=yF ho;have d8:∃v',(a.tmps[29]?.getD undef)=.tuple #[v',.int .i64 f,.bool true]/\AQ W2.heap.size 92 3 A2 wx v' (k.zZ.set f ⟨1,nm,0⟩):=BM Hd 8
      clear Hd Hb;obtain⟨v',d8,hO⟩:=d8;refine yE ?_;go_simp;exact HK.out _ _ ⟨_,rfl,hO⟩ (yD _ _)
     |10,_=>
      obtain rfl:=yF ho;have d9:∃v',(a.tmps[20]?.getD undef)=.tuple #[v',.int .i64 f,.bool true]/\AQ W2.heap.size 92 3 A2 wx v' (k.zZ.set f ⟨1,nm,0⟩):=BM Hd 9
      clear Hd Hb;obtain⟨v',d9,hO⟩:=d9;refine yE ?_;go_simp;exact HK.out _ _ hO (yD _ _)
     |11,_=>
      obtain rfl:=yF ho;have d9:∃v',(a.tmps[20]?.getD undef)=.tuple #[v',.int .i64 f,.bool true]/\AQ W2.heap.size 92 3 A2 wx v' (k.zZ.set f ⟨1,nm,0⟩):=BM Hd 9
      clear Hd Hb;obtain⟨v',d9,hO⟩:=d9;refine yE ?_;go_simp;exact HK.out _ _ rfl (yD _ _)
     |12,_=>
      obtain rfl:=yF ho;have d9:∃v',(a.tmps[20]?.getD undef)=.tuple #[v',.int .i64 f,.bool true]/\AQ W2.heap.size 92 3 A2 wx v' (k.zZ.set f ⟨1,nm,0⟩):=BM Hd 9
      clear Hd Hb;obtain⟨v',d9,hO⟩:=d9;refine yE ?_;go_simp;exact HK.out _ _ rfl (yD _ _)
     |13,_=>obtain rfl:=yF ho;have eY:AQ W2.heap.size 92 3 A2 wx (a.tmps[30]?.getD undef) (k.zZ.set f ⟨1,nm,0⟩):=BM Hd 10;clear Hd Hb;refine yE ?_;go_simp;exact HK.out _ _ eY (yD _ _)
     |_+15,hq=>omega
    .intro i hi vv wz cQ ch hz
     match i,hi with
     |8,_|9,_=>exact(by obtain⟨v',h0,h1⟩:=hz;exact⟨v',h0,AQ.below h1 ch⟩)
     |10,_|13,_=>exact(AQ.below hz ch)
     |0,_|1,_|2,_|3,_|4,_|5,_|6,_|7,_|11,_|12,_|14,_=>exact hz
     |_+15,hq=>omega
    .intro vs wx hR hG
     have cn:(vs 12)=.bool true:=BW hR 12;have bA:AQ W2.heap.size 92 3 A2 wx (vs 13) (k.zZ.set f ⟨1,nm,0⟩):=BW hR 13;have cR:(vs 14)=.int .i64 f:=BW hR 14;clear hR;simp only[Aj,Ae,yC,yz,yy,yw,cn,cR];simp;generalize vs 13=z13 at bA ⊢;clear cn cR;have h5:=dE.out.zZ dv hG bA;have cF:=((aq.trans (hG.mono aq.size)).mono ax).setCell (p:=⟨g,1,none⟩) dE.out.2.1 z13;replace y0:=(hG.cell (p:=⟨w.heap.size,0,none⟩) c5).trans y0;replace x1:=(hG.cell (p:=⟨g,1,none⟩) cy).trans x1;have dJ:=dE.out.below hG;have x0:=dJ.cells.1;have eM:=AK dJ.1;obtain⟨gm,cl,gw,az,vs,rfl,dj,n1,D,eI,dW,n2,n3,o1,hu,hx⟩:=h5.zd (f:=f) Hm.out cz;have bB:=(Ai.1 Hm.out).1;have h4:=(A3.1 ((Ai.1 Hm.out).2 f cz)).1;have D2:=(F5 (o:=f) (Aq wx g 1 z13) (by simpa using dj) (λe=>n1 (yF e).symm)).symm.trans D;obtain⟨w6,cO,ec,dx⟩:=WK hx h4;have h6:=AA (h5.row o1 (by rw[bB];exact cz) hu ec dx);have eS:=AA (AM cF dx dW (yB ax cF.size));have ea:(f:Int)<12:=by omega
     obtain⟨q1,q2,rfl,_,_⟩:=bA.rd.shape;simp only[xS] at cO;have eK:w.heap.size≠g:=λe=>eL e.symm
     clear h5 cF dJ D hx o1 hu ec dx h4 bB dj eI dW n2 n3 bA hG;go_wp2_with fail;go_ret2;exact⟨by rw[E.out];rfl,λ_=>⟨_,_,_,_,by rw[E.out];exact h6.out⟩,eS.out⟩
theorem GO(h:BQ ss=true):DQ ss:=by
 intro s hs;obtain⟨j,hj,rfl⟩:=wP hs;unfold BQ at h;simp only[yp,yd] at h;have h1:=h.1 j (xU.2 hj);unfold Cq at h1;simp only[yp] at h1;have h2:=Jx h1.1;have e:Db ss j=ss[j]:=by simp[Db,hj]
 rw[e] at h2;exact yB h2 (by decide)
theorem Tf(v:Value)(m:List (List Int))(r:Int)(w:World)(h:Bf w v m)(av:Bs m=true)(hr:r<12):Calls prog 101 #[v,.int .i64 r] w (MK m r w):=by
 by_cases h0:r<0
 .exact OZ v m r w h h0
 .obtain⟨n,rfl⟩:∃n:Nat,r=(n:Int):=⟨r.toNat,by omega⟩
  exact OY v m n w h av (by omega)
theorem zA{k:AN}(h:DJ k){j:Nat}(hj:j<3):(AJ k.zX j).root<12:=by have:=h.roots j hj;unfold AZ at this;omega
theorem Ap{w w1:World}{g:Nat}{o:Obj}(h:w.heap[b]?=some o)(hg:w.grownBy w1 (some g))(a8:g≠b):w1.heap[b]?=some o:=
 (hg.block b (AW h) (λe=>a8 (yF e).symm)).trans h
theorem Bp{w:World}{g T T':Nat}{c c':Array Value}(h:w.heap[b]?=some (.cells c T (0,0)))(h':w.heap[g]?=some (.cells c' T' (0,0)))(hT:T≠T':=by decide):b≠g:=λe=>by subst e;rw[h] at h';simp at h';exact hT h'.2
def YE(g:Nat)(w W:World):Prop:=∀b cu,b≠g->w.heap[b]?=some (.cells cu 28 (0,0))->W.heap[b]?=w.heap[b]?
theorem YE.below{g:Nat}{w W W':World}(h:YE g w W)(hb:Below W.heap.size W W'):YE g w W':=λb cu hg hB=>(hb.block b (AW ((h b cu hg hB).trans hB))).trans (h b cu hg hB)
theorem YE.row{g q T:Nat}{w W W':World}{cu:Array Value}(h:YE g w W)(hg:W.grownBy W' (some q))(hq:W.heap[q]?=some (.cells cu T (0,0)))(hT:T≠28):YE g w W':=λb dN dm hB=>
 have e:=(h b dN dm hB).trans hB
 (Ap e hg (Bp hq e hT)).trans hB.symm
theorem YE.own{g:Nat}{w W W':World}(h:YE g w W)(hg:W.grownBy W' (some g)):YE g w W':=λb dN dm hB=>
 have e:=(h b dN dm hB).trans hB
 (Ap e hg (λh=>dm h.symm)).trans hB.symm
structure ET(T:Nat)(cs:Array Value)(R:List Nat)(lo g b0:Nat)(w W:World)(m i e c:Value)(k:AN):Prop where
 yI:Im lo W g m i e c k
 yK:W.heap[b0]?=some (.cells cs T (0,0))
 bel:Below lo w W
 lo:lo<=W.heap.size
 ty:28≠T/\92≠T/\74≠T/\3≠T/\29≠T
 kf:YE g w W
 rs:∀b∈R,g≠b/\W.heap[b]?=some (.cells #[.slice none 0 0,.slice none 0 0,.slice none 0 0,.slice none 0 0] 28 (0,0))
abbrev CS(lo g b0:Nat)(call:Aa)(w W:World)(m i e c:Value)(k:AN):Prop:=ET 126 (call.onCells g) [] lo g b0 w W m i e c k
theorem ET.start{lo g:Nat}{w:World}{m i e c:Value}{k:AN}(h:Im lo w g m i e c k)(ax:lo<=w.heap.size)(call:Aa):CS lo g w.heap.size call w (w.alloc (.cells (call.onCells g) 126)) m i e c k:=
 ⟨h.below (AE _ _),yv _ _,(AE _ _).mono ax,yB ax (AE _ _).size,by decide,YE.below (λ_ _ _ _=>rfl) (AE _ _),nofun⟩
theorem ET.ys{lo g b0:Nat}{call:Aa}{w W:World}{m i e c:Value}{k:AN}(h:CS lo g b0 call w W m i e c k):W.cell? ⟨b0,0,none⟩=some (.pointer (some ⟨g,0,none⟩))/\W.cell? ⟨b0,1,none⟩=some (.int .i64 call.k)/\W.cell? ⟨b0,2,none⟩=some (.int .i64 call.e)/\W.cell? ⟨b0,3,none⟩=some (.int .i64 call.a)/\W.cell? ⟨b0,4,none⟩=some (.int .i64 call.b)/\W.cell? ⟨b0,5,none⟩=some (.int .i64 call.c)/\W.cell? ⟨b0,6,none⟩=some (.string call.nm):=J8 h.yK
section
variable {T:Nat} {cs:Array Value} {R:List Nat} {lo g b0:Nat} {w W W':World} {m i e c:Value} {k:AN}
theorem ET.below(h:ET T cs R lo g b0 w W m i e c k)(hb:Below W.heap.size W W'):ET T cs R lo g b0 w W' m i e c k:=
 ⟨h.yI.below hb,AC h.yK hb,h.bel.trans (hb.mono h.lo),yB h.lo hb.size,h.ty,h.kf.below hb,λb hr=>⟨(h.rs b hr).1,AC (h.rs b hr).2 hb⟩⟩
theorem ET.xs(h:ET T cs R lo g b0 w W m i e c k):W.cell? ⟨g,0,none⟩=some m/\W.cell? ⟨g,1,none⟩=some i/\W.cell? ⟨g,2,none⟩=some e/\W.cell? ⟨g,3,none⟩=some c:=h.yI.cells
theorem ET.lts(h:ET T cs R lo g b0 w W m i e c k):b0<W.heap.size/\g<W.heap.size/\g≠b0/\b0≠g:=⟨AW h.yK,AW h.yI.1,Bp h.yI.1 h.yK h.ty.1,(Bp h.yI.1 h.yK h.ty.1).symm⟩
theorem ET.ze(h:ET T cs R lo g b0 w W m i e c k){lo' T' sz n:Nat}{v:Value}{xs:List Value}(o:W.ownsRow lo' T' sz v n xs){b:Nat}(hb:v.ownBlock=some b)(h1:T'≠28)(h2:T'≠T):(b≠g/\g≠b)/\b≠b0/\b0≠b:=by obtain⟨bz,hc⟩:=A6 o b hb;have a1:=Bp hc h.yI.1 h1;have a2:=Bp hc h.yK h2;exact⟨⟨a1,a1.symm⟩,a2,a2.symm⟩
theorem ET.zZ(h:ET T cs R lo g b0 w W m i e c k)(hl:0<k.zZ.length):∃gi ab,i=.slice (some ⟨gi,0,none⟩) k.zZ.length ab/\gi<W.heap.size/\lo<=gi/\((gi≠g/\g≠gi)/\gi≠b0/\b0≠gi)/\∀q,W.frozen? ⟨gi,q,none⟩=false:=by obtain⟨gi,ab,e1,h1,h2,_,_,_,hz⟩:=h.yI.zS' hl;refine⟨gi,ab,e1,h1,h2,h.ze h.yI.2.2.2.1 (by rw[e1];rfl) (by decide) h.ty.2.1,hz⟩
theorem ET.zX(h:ET T cs R lo g b0 w W m i e c k)(hl:0<k.zX.length):∃ge ab,e=.slice (some ⟨ge,0,none⟩) k.zX.length ab/\ge<W.heap.size/\((ge≠g/\g≠ge)/\ge≠b0/\b0≠ge)/\∀q,W.frozen? ⟨ge,q,none⟩=false:=by obtain⟨ge,ab,_,_,e1,h1,_,_,_,hz⟩:=h.yI.env hl;obtain⟨ps,o⟩:=h.yI.2.2.2.2.1;exact⟨ge,ab,e1,h1,h.ze o.1 (by rw[e1];rfl) (by decide) h.ty.2.2.1,hz⟩
theorem ET.info(h:ET T cs R lo g b0 w W m (.slice (some ⟨gi,0,none⟩) n ab) e c k)(hn:n=k.zZ.length){f:Nat}(hf:f<k.zZ.length)(r:Int):
 ET T cs R lo g b0 w (W.setCell ⟨gi,f*3+2,none⟩ (.int .i64 ((zS k.zZ f).r+r))) m (.slice (some ⟨gi,0,none⟩) n ab) e c {k with zZ:=As k.zZ f (JS r)}:=by
 have T:=h.yI.info hn (Cj hf) (j:=2) (by decide) (y:=JS r (zS k.zZ f)) (u:=.int .i64 ((zS k.zZ f).r+r)) rfl;rw[<-KY] at T;obtain⟨c2,h2⟩:=A6 h.yI.2.2.2.1 gi rfl;exact⟨T.1,Ap h.yK T.2.1 (Bp h2 h.yK h.ty.2.1),AM h.bel T.2.1 T.2.2 h.lo,yB h.lo T.2.1.size,h.ty,h.kf.row T.2.1 h2 (by decide),λb hr=>⟨(h.rs b hr).1,Ap (h.rs b hr).2 T.2.1 (Bp h2 (h.rs b hr).2 (by decide))⟩⟩
theorem ET.root(h:ET T cs R lo g b0 w W m i (.slice (some ⟨ge,0,none⟩) n ab) c k)(hn:n=k.zX.length){j:Nat}(hj:j<k.zX.length)(r:Int):
 ET T cs R lo g b0 w (W.setCell ⟨ge,j*2+1,none⟩ (.int .i64 r)) m i (.slice (some ⟨ge,0,none⟩) n ab) c {k with zX:=As k.zX j (Dn r)}:=by
 have T:=h.yI.root hn hj r;obtain⟨ps,o⟩:=h.yI.2.2.2.2.1;obtain⟨c2,h2⟩:=A6 o.1 ge rfl;exact⟨T.1,Ap h.yK T.2.1 (Bp h2 h.yK h.ty.2.2.1),AM h.bel T.2.1 T.2.2 h.lo,yB h.lo T.2.1.size,h.ty,h.kf.row T.2.1 h2 (by decide),λb hr=>⟨(h.rs b hr).1,Ap (h.rs b hr).2 T.2.1 (Bp h2 (h.rs b hr).2 (by decide))⟩⟩
theorem ET.zW(h:ET T cs R lo g b0 w W m i e c k)(hb:Below W.heap.size W W'){c':Value}{xs:List Al}(h2:AQ W.heap.size 112 4 Ag W' c' xs):ET T cs R lo g b0 w (W'.setCell ⟨g,3,none⟩ c') m i e c' {k with zW:=xs}:=by
 have h':=h.below hb;exact⟨h.yI.zW h.lo hb h2,Ap h'.yK (Aq W' g 3 c') h.lts.2.2.1,h'.bel.setCell h.yI.2.1 _,by simpa using h'.lo,h.ty,h'.kf.own (Aq W' g 3 c'),λb hr=>⟨(h.rs b hr).1,Ap (h'.rs b hr).2 (Aq W' g 3 _) (h.rs b hr).1⟩⟩
theorem ET.zm(h:ET T cs R lo g b0 w W m i e c k)(hb:Below W.heap.size W W'){i':Value}{xs:List AU}(h2:AQ W.heap.size 92 3 A2 W' i' xs):ET T cs R lo g b0 w (W'.setCell ⟨g,1,none⟩ i') m i' e c {k with zZ:=xs}:=by
 have h':=h.below hb;exact⟨h.yI.zZ h.lo hb h2,Ap h'.yK (Aq W' g 1 i') h.lts.2.2.1,h'.bel.setCell h.yI.2.1 _,by simpa using h'.lo,h.ty,h'.kf.own (Aq W' g 1 i'),λb hr=>⟨(h.rs b hr).1,Ap (h'.rs b hr).2 (Aq W' g 1 _) (h.rs b hr).1⟩⟩
theorem ET.fzi(h:ET T cs R lo g b0 w W m (.slice (some ⟨gi,0,none⟩) n ab) e c k)(q:Nat):W.frozen? ⟨gi,q,none⟩=false:=by obtain⟨bz,hc⟩:=A6 h.yI.2.2.2.1 gi rfl;exact AK hc q
theorem ET.fze(h:ET T cs R lo g b0 w W m i (.slice (some ⟨ge,0,none⟩) n ab) c k)(q:Nat):W.frozen? ⟨ge,q,none⟩=false:=by obtain⟨ps,o⟩:=h.yI.2.2.2.2.1;obtain⟨bz,hc⟩:=A6 o.1 ge rfl;exact AK hc q
theorem ET.yU(h:ET T cs R lo g b0 w W m i (.slice (some ⟨ge,0,none⟩) n ab) c k):ge<W.heap.size:=by obtain⟨ps,o⟩:=h.yI.2.2.2.2.1;exact(yq o.1 ge rfl).2
theorem ET.zl(h:ET T cs R lo g b0 w W m (.slice (some ⟨gi,0,none⟩) n ab) e c k):gi<W.heap.size:=(yq h.yI.2.2.2.1 gi rfl).2
theorem ET.env(h:ET T cs R lo g b0 w W m i (.slice (some ⟨ge,0,none⟩) n ab) c k){j:Nat}(hj:j<k.zX.length):
 ∃ua uc,W.cell? ⟨ge,j*2,none⟩=some (.slice ua (AJ k.zX j).zT.length uc)/\W.cell? ⟨ge,j*2+1,none⟩=some (.int .i64 (AJ k.zX j).root)/\BR W (.slice ua (AJ k.zX j).zT.length uc) (AJ k.zX j).zT:=by
 obtain⟨ft,dc,ua,uc,e1,_,d0,d1,R,_⟩:=h.yI.env hj;cases e1;exact⟨ua,uc,d0,d1,R⟩
theorem ET.zS(h:ET T cs R lo g b0 w W m (.slice (some ⟨gi,0,none⟩) n ab) e c k){f:Nat}(hf:f<k.zZ.length):
 W.cell? ⟨gi,f*3,none⟩=some (.int .i64 (zS k.zZ f).k)/\W.cell? ⟨gi,f*3+1,none⟩=some (.string (zS k.zZ f).g)/\W.cell? ⟨gi,f*3+2,none⟩=some (.int .i64 (zS k.zZ f).r):=by
 obtain⟨fp,dc,e1,_,_,d0,d1,d2,_⟩:=h.yI.zS' hf;cases e1;exact⟨d0,d1,d2⟩
theorem ET.mems(h:ET T cs R lo g b0 w W m i e c k)(av:Bs k.mem=true):∃gm ab,m=.slice (some ⟨gm,0,none⟩) 12 ab/\gm<W.heap.size/\(gm≠g/\g≠gm)/\gm≠b0/\b0≠gm:=by obtain⟨gm,ab,_,_,_,e1,h1,h2,_⟩:=h.yI.zd av (f:=0) (by omega);obtain⟨vs,o⟩:=h.yI.2.2.1;exact⟨gm,ab,e1,h1,h.ze o.1 (by rw[e1];rfl) (by decide) h.ty.2.2.2.2⟩
theorem ET.mrow{gm:Nat}(h:ET T cs R lo g b0 w W (.slice (some ⟨gm,0,none⟩) n ab) i e c k)(av:Bs k.mem=true){f:Nat}(hf:f<12):
 ∃gw az,W.cell? ⟨gm,f,none⟩=some (.slice (some ⟨gw,0,none⟩) 4 az)/\gw<W.heap.size/\4<=az/\(∀j,j<4->W.cell? ⟨gw,j,none⟩=some (.int .i64 (Ar k.mem f j)))/\(∀q,W.frozen? ⟨gw,q,none⟩=false)/\((gw≠g/\g≠gw)/\gw≠b0/\b0≠gw)/\(gw≠gm/\gm≠gw)/\(∀b cu T,W.heap[b]?=some (.cells cu T (0,0))->T≠3->gw≠b)/\
  ∀j v,j<4->ET T cs R lo g b0 w (W.setCell ⟨gw,j,none⟩ (.int .i64 v)) (.slice (some ⟨gm,0,none⟩) n ab) i e c {k with mem:=CZ k.mem f j v}:=by
 obtain⟨fo,dc,gw,az,vs,e1,_,_,hc,hl,ax,h1,h2,o,hu,hx⟩:=h.yI.zd av hf;cases e1;have h4:=(A3.1 ((Ai.1 av).2 f hf)).1;have cW:W.ownsRow lo 3 1 (.slice (some ⟨gw,0,none⟩) 4 az) 4 ((AH k.mem f).map (yf .i64)):=by have:=hx;unfold AF at this;rwa [h4] at this
 have eR:4<=az:=by obtain⟨_,_,hv,fm,_⟩:=Aw.open (AF.rd hx);simp only[Value.slice.injEq] at hv;obtain⟨_,_,rfl⟩:=hv;omega
 obtain⟨bz,bb⟩:=A6 cW gw rfl;refine⟨gw,az,hc,hl,eR,λj hj=>?_,λq=>xN cW q,h.ze cW rfl (by decide) h.ty.2.2.2.1,⟨h2,h2.symm⟩,λb cu T hb hT=>Bp bb hb (Ne.symm hT),λj v hj=>?_⟩
 .have:=xB cW j hj
  rw[this,wK];unfold Ar;rw[A1 (d:=0) (by omega)];rfl
 .have S:=World.ownsRow.stored cW j (.int .i64 v)
  have hO:AF lo (W.setCell ⟨gw,j,none⟩ (.int .i64 v)) (.slice (some ⟨gw,0,none⟩) 4 az) ((AH k.mem f).set j v):=by unfold AF;rw[xS,h4,tT];exact S.1
  have T:=h.yI.row o (by rw[(Ai.1 av).1];exact hf) hu hO S.2;rw[<-ND] at T;exact⟨T,Ap h.yK S.2 (Bp bb h.yK h.ty.2.2.2.1),AM h.bel S.2 ax h.lo,yB h.lo S.2.size,h.ty,h.kf.row S.2 bb (by decide),λb hr=>⟨(h.rs b hr).1,Ap (h.rs b hr).2 S.2 (Bp bb (h.rs b hr).2 (by decide))⟩⟩
end
def aM(W:World)(lo g b0:Nat)(call:Aa)(w:World)(m i e:Value)(k:AN)(b:Bool)(ww:World):Prop:=match b with
 |false=>Below W.heap.size W ww
 |true=>∃c',CS lo g b0 call w ww m i e c' k
theorem aM.grow{W:World}{lo g b0:Nat}{call:Aa}{w:World}{m i e:Value}{k:AN}{b:Bool}{ww cQ:World}(h:aM W lo g b0 call w m i e k b ww)(hb:Below ww.heap.size ww cQ):aM W lo g b0 call w m i e k b cQ:=by
 cases b
 .exact Below.trans h (hb.mono h.size)
 .obtain⟨c',h⟩:=h
  exact⟨c',h.below hb⟩
theorem GH{L:Nat->Bool}{i:Nat}(h:i≠j):GP L i j=L j:=if_neg (λe=>h e.symm)
theorem Gk{L:Nat->Bool}{i:Nat}:GP L i i=true:=if_pos rfl
def IT(fs:List Nat):List Nat:=(yC 12).filter λf=>fs.contains f
theorem LX{fs:List Nat}:f∈IT fs↔f<12/\f∈fs:=by simp[IT]
theorem LW{fs:List Nat}:(IT fs).length<=12:=by
 have:=List.length_filter_le (λf=>fs.contains f) (yC 12);simpa[IT] using this
def Eh(m:List (List Int))(root:Nat):List Nat:=IT (named (AH m root))
def JA(m:List (List Int))(root:Nat):List Nat:=IT ((Eh m root).flatMap λt=>named (AH m t))
def Ed(m:List (List Int))(root:Int):List Nat:=if root<0 then[] else IT (root.toNat::Eh m root.toNat++JA m root.toNat)
theorem Ii{m:List (List Int)}{root:Nat}:f∈Eh m root↔f∈named (AH m root):=by
 unfold Eh;rw[LX];exact⟨λh=>h.2,λh=>⟨FL h,h⟩⟩
theorem UU{m:List (List Int)}{root:Nat}:f∈JA m root↔∃t,t∈named (AH m root)/\f∈named (AH m t):=by
 unfold JA;rw[LX,List.mem_flatMap];constructor
 .rintro⟨_,t,ht,hf⟩
  exact⟨t,Ii.1 ht,hf⟩
 .rintro⟨t,ht,hf⟩
  exact⟨FL hf,t,Ii.2 ht,hf⟩
theorem GD{m:List (List Int)}{root:Int}(h:root<12)(f:Nat):f∈Ed m root↔f∈BZ m root:=by
 rw[DY];unfold Ed
 by_cases h0:root<0
 .rw[if_pos h0]
  simp;omega
 .rw[if_neg h0,LX,List.cons_append,List.mem_cons,List.mem_append,Ii,UU]
  constructor
  .rintro⟨_,h⟩
   exact⟨by omega,h⟩
  .rintro⟨_,h⟩
   refine⟨?_,h⟩
   rcases h with rfl|h|⟨t,_,h⟩
   .omega
   .exact FL h
   .exact FL h
def Qb(k:AN)(a e:Nat):Bool:=decide (AZ k e=(a:Int))||(decide (0<=AZ k e)&&(Eh k.mem (AZ k e).toNat).contains a)
def Tt(k:AN)(a:Nat):List Nat:=(yC 3).filter (Qb k a)
theorem X9{k:AN}(h:DJ k){a:Nat}(ha:Bd (Ax k a)=true):Tt k a=Fd k a:=by
 unfold Tt Fd;refine List.filter_congr λe he=>?_
 have eP:=xU.1 he;rw[wA,uS]
 show _↔a∈BZ k.mem (AZ k e)
 rw[DY];unfold Qb;simp only[Bool.or_eq_true,yp,decide_eq_true_eq,uS,Ii];constructor
 .rintro(h1|⟨h0,h1⟩)
  .exact⟨by omega,.inl (by omega)⟩
  .exact⟨h0,.inr (.inl h1)⟩
 .rintro⟨h0,h1|h1|⟨t,ht,h1⟩⟩
  .exact .inl (by omega)
  .exact .inr ⟨h0,h1⟩
  .have:=(h.zi eP h0 ht h1).2
   rw[this] at ha;cases ha
def KN(k:AN)(w:Int):List Nat:=if Bh w then A9 w::(if(zS k.zZ (A9 w)).k=2 then named (AH k.mem (A9 w)) else[]) else[]
theorem VQ{k:AN}{w:Int}(h:Bh w=true->(zS k.zZ (A9 w)).k≠3):KN k w=DK k w:=by
 unfold KN DK;cases hg:Bh w
 .rfl
 .have:=h hg
  simp only[if_true]
  congr 1
  by_cases h2:(zS k.zZ (A9 w)).k=2
  .rw[if_pos h2,if_pos (by simp[Bd,h2])]
  .rw[if_neg h2,if_neg (by simp[Bd,h2,this])]
theorem OT{zZ:List AU}{fs:List Nat}{n kind:Int}:As (Bi zZ fs n) f (ER kind)=Bi (As zZ f (ER kind)) fs n:=by
 induction fs generalizing zZ with
 |nil=>rfl
 |cons g fs ih=>
  show As (Bi (As zZ g (JS n)) fs n) f (ER kind)=Bi (As (As zZ f (ER kind)) g (JS n)) fs n
  rw[ih]
  congr 1
  simp only[JM (d:=AU.zero),JX]
  by_cases e:f=g
  .subst e
   rw[uH,uH]
   by_cases hl:f<zZ.length
   .rw[if_pos ⟨rfl,hl⟩,if_pos ⟨rfl,hl⟩]
    rfl
   .rw[ud (by omega),ud (by omega)]
  .rw[if_neg (λh=>e h.1),if_neg (λh=>e h.1.symm),List.set_comm _ _ (λh=>e h.symm)]
def Nk(ss:List ByteArray)(s:ByteArray):Nat:=(ss.takeWhile λx=>!Ty x s).length
theorem MH{α:Type}(p:α->Bool)(l:List α):l.take (l.takeWhile p).length=l.takeWhile p/\l.drop (l.takeWhile p).length=l.dropWhile p:=by
 induction l with
 |nil=>simp
 |cons x l ih=>
  by_cases h:p x=true
  .simp[h,ih.1,ih.2]
  .simp[h]
theorem YN{s:ByteArray}:Sq ss s=ss.take (Nk ss s)++s::ss.drop (Nk ss s):=by unfold Sq Nk;rw[(MH _ _).1,(MH _ _).2]
theorem Sx{s:ByteArray}{k:Nat}(hk:k<=ss.length)(h1:∀j,j<k->Q0 (Db ss j) s=true)(h2:k<ss.length->Q0 (Db ss k) s=false):Nk ss s=k:=by
 unfold Nk
 induction ss generalizing k with
 |nil=>simp at hk;subst hk;rfl
 |cons x ss ih=>
  cases k with
  |zero=>have:=h2 (by simp);have e:Q0 x s=false:=this;rw[tE,if_neg (by simp[Pa,e])];rfl
  |succ k=>
   have e:Q0 x s=true:=h1 0 (by omega);rw[tE,if_pos (by simp[Pa,e]),vW]
   congr 1
   refine ih (by simpa using hk) (λj hj=>?_) (λeH=>?_)
   .exact h1 (j+1) (by omega)
   .exact h2 (by simpa using eH)
theorem Yx{a:ByteArray}:Q0 a a=false:=by
 cases h:Q0 a a
 .rfl
 .exact absurd (Lq.1 h) (List.lt_irrefl _)
theorem Zf{s:ByteArray}(h:BQ ss=true):ss.any (λx=>decide (x=s))=(decide (Nk ss s<ss.length)&&decide (Db ss (Nk ss s)=s)):=by
 obtain⟨_,hp,_⟩:=GM.1 h;have hd:=List.takeWhile_append_dropWhile (p:=λx=>!Ty x s) (l:=ss);rw[wA];simp only[yp,decide_eq_true_eq,List.any_eq_true];constructor
 .rintro⟨x,hx,rfl⟩
  obtain⟨j,hj,dw⟩:=wP hx;have hc:Nk ss x=j:=by
   refine Sx (Nat.le_of_lt hj) (λi hi=>?_) (λ_=>?_)
   .have:=List.pairwise_iff_getElem.1 hp i j (by omega) hj hi
    unfold Db;rw[xR,yu (by omega)];simpa[dw] using this
   .unfold Db
    rw[xR,yu hj];simpa[dw] using Yx
  rw[hc];refine⟨hj,?_⟩;unfold Db;rw[xR,yu hj];simpa using dw
 .rintro⟨hl,hx⟩
  exact⟨_,ye (IR hl),hx⟩
theorem Pq{g:Nat}:Dd g 0=false:=by simp[Dd,Bh]
theorem SI{f:Int}(h0:0<=f)(h1:f<=11)(g:Nat):Dd g (Hh f)=decide (g=f.toNat):=by
 obtain⟨x,y,_⟩:=Gp h0 h1;unfold Dd;rw[x,y,Bool.true_and]
 by_cases e:f.toNat=g
 .simp[e]
 .have:¬g=f.toNat:=λh=>e h.symm
  simp[e,this]
theorem ED.zf(h:ED p){n i:Nat}(hn:n<16)(hw:(AB p.zY n).w=1)(hi:i<4):(BJ p.low i).toNat≠(AB p.zY n).a.toNat:=λe=>by have h1:=h.zK hi;have h2:=h.zH hn hw;rw[e] at h1;omega
theorem ED.yT(h:ED p){n:Nat}(hn:n<16)(hw:(AB p.zY n).w=1):(AZ p.zV 0).toNat≠(AB p.zY n).a.toNat:=λe=>by have h1:=h.zA;have h2:=h.zH hn hw;rw[e] at h1;omega
theorem ED.yV(h:ED p){i:Nat}(hi:i<4):(AZ p.zV 0).toNat≠(BJ p.low i).toNat:=λe=>by have h1:=h.zA;have h2:=h.zK hi;rw[e] at h1;omega
theorem Zy{m:Nat}(h1:n/4=m/4)(h2:n%4=m%4):n=m:=by omega
theorem ED.tab_ne(h:ED p){n m:Nat}(hn:n<16)(hm:m<16)(a8:m≠n):¬((BJ p.low (m/4)).toNat=(BJ p.low (n/4)).toNat/\m%4=n%4):=λ⟨e1,e2⟩=>a8 (Zy (h.yS (by omega) (by omega) e1) e2)
theorem ED.rowl(h:ED p){f:Nat}(hf:f<12):(AH p.zV.mem f).length=4:=h.k.row hf
theorem ED.meml(h:ED p):p.zV.mem.length=12:=(Ai.1 h.k.mem).1
theorem Fy{k:AN}(h:DJ k){kind a b c:Int}:DJ (Ad k (Ah kind a b c)).1:=Mi h ⟨Int.le_refl 0,show(0:Int)<=2 by decide⟩
theorem Y9(h:ED p){n:Nat}(hn:n<16)(hw:(AB p.zY n).w=1){g:Nat}:zS (EL p n).zV.zZ g=if g=(AB p.zY n).a.toNat then AU.zero else zS p.zV.zZ g:=by
 rw[Ns h hn hw];have fk:=h.zH hn hw;obtain⟨f1,f2,f3⟩:=h.zG hn hw
 show zS ((A4 (A4 p.zV.zZ (Ar p.zV.mem (BJ p.low (n/4)).toNat (n%4)) (-1)) 0 1).set _ AU.zero) g=_
 rw[Gi,Cg,Cg]
 by_cases e:g=(AB p.zY n).a.toNat
 .rw[if_pos ⟨e,by rw[h.k.len];exact fk.1⟩,if_pos e]
 .rw[if_neg (λh=>e h.1),if_neg e,FN (by rw[Cg];exact h.k.len),FN h.k.len]
  have e1:Dd g (Ar p.zV.mem (BJ p.low (n/4)).toNat (n%4))=false:=by
   rcases h.zY n hn with⟨a,_⟩|⟨_,b,c,_⟩|⟨a,_⟩
   .omega
   .have c':Ar p.zV.mem (BJ p.low (n/4)).toNat (n%4)=Hh (AB p.zY n).a:=c
    rw[c',SI b.1 b.2];exact decide_eq_false e
   .omega
  rw[e1,Pq];simp[EC]
theorem af(h:ED p){n:Nat}(hn:n<16)(hw:(AB p.zY n).w=1){f i:Nat}:Ar (EL p n).zV.mem f i=if f=(BJ p.low (n/4)).toNat/\i=n%4 then 0 else Ar p.zV.mem f i:=by rw[Ns h hn hw];have hl:=h.zK (i:=n/4) (by omega);exact QP (by rw[h.meml];exact hl.1) (by rw[h.rowl hl.1];omega)
theorem Px(h:ED p){n:Nat}(hn:n<16)(hw:(AB p.zY n).w=1)(e:Nat):AZ (EL p n).zV e=AZ p.zV e/\A5 (EL p n).zV e=A5 p.zV e:=by rw[Ns h hn hw];exact⟨rfl,rfl⟩
theorem Ke{s:List (List Int)}{k:Nat}(hk:k<s.length):AH (s.set k r) j=if j=k then r else AH s j:=by
 rw[Nw]
 by_cases e:j=k
 .rw[if_pos ⟨e,hk⟩,if_pos e]
 .rw[if_neg (λh=>e h.1),if_neg e]
theorem Zn{zZ:List AU}(hf:f<zZ.length)(h:(zS zZ f).k=0):0<=Am zZ:=by unfold Am;rw[if_pos (Lj.2 ⟨_,DH (d:=AU.zero) hf,by unfold zS at h;simpa using h⟩)];omega
theorem TY(h:ED p){n:Nat}(hn:n<16)(hw:(AB p.zY n).w=1):
 ED (EL p n)/\(∀a,a<64->Dy (EL p n) a=Dy p a)/\Ac (EL p n).zY 1+1=Ac p.zY 1/\0<=Am (EL p n).zV.zZ:=by
 have bf:=h.slot hn (by omega);obtain⟨f1,f2,f3⟩:=h.zG hn hw;have fk:=h.zH hn hw;have b5:=λg=>Y9 h hn hw (g:=g)
 have cq:=λf i=>af h hn hw (f:=f) (i:=i)
 have dh:(EL p n).zY=p.zY.set n ⟨2,BY p.swap,false⟩:=rfl;have dS:(EL p n).swap=p.swap.set (BY p.swap).toNat (AH p.zV.mem (AB p.zY n).a.toNat):=rfl;have du:(EL p n).low=p.low:=rfl;have cZ:∀m,AB (EL p n).zY m=if m=n then⟨2,BY p.swap,false⟩ else AB p.zY m:=λm=>by
  rw[dh,Dh]
  by_cases e:m=n
  .rw[if_pos ⟨e,by rw[h.zO];exact hn⟩,if_pos e]
  .rw[if_neg (λh=>e h.1),if_neg e]
 have bY:∀s,AH (EL p n).swap s=if s=(BY p.swap).toNat then AH p.zV.mem (AB p.zY n).a.toNat else AH p.swap s:=λs=>by rw[dS,Ke (by rw[h.zD];exact bf.2.1)]
 have bp:Di (AH p.zV.mem (AB p.zY n).a.toNat)=true:=(Ai.1 h.k.mem).2 _ fk.1;have ct:AH p.zV.mem (AB p.zY n).a.toNat≠[]:=λe=>by have:=(A3.1 bp).1;rw[e] at this;simp at this
 have cC:Ac (EL p n).zY 1+1=Ac p.zY 1:=by
  have:=Nj (l:=p.zY) (n:=n) (y:=⟨2,BY p.swap,false⟩) (w:=1) (by rw[h.zO];exact hn);rw[dh];have e1:EC (Nn 1 (AB p.zY n))=1:=by simp[Nn,hw,EC]
  have e2:EC (Nn 1 ⟨2,BY p.swap,false⟩)=0:=by simp[Nn,EC]
  omega
 have a6:∀g,g≠(AB p.zY n).a.toNat->Kp p.zV.zZ g->Kp (EL p n).zV.zZ g:=λg hg hm=>by unfold Kp;rw[b5 g,if_neg hg];exact hm
 have dt:=(Px h hn hw 0).1;have c6:DJ (EL p n).zV:=Fy (Fy h.k);refine⟨⟨c6,?_,?_,?_,?_,?_,?_,?_,?_,?_,?_,?_,h.zR,h.zU,?_⟩,?_,cC,?_⟩
 .rw[dS,xS];exact h.zD
 .intro s hs
  rw[bY s]
  by_cases e:s=(BY p.swap).toNat
  .rw[if_pos e];exact .inr bp
  .rw[if_neg e];exact h.zv s hs
 .rw[(Px h hn hw 0).2];exact h.may
 .intro e h1 h2
  rw[(Px h hn hw e).2];exact h.alone e h1 h2
 .rw[dt];exact h.root
 .exact h.zt
 .rw[dt];exact a6 _ (h.yT hn hw) h.yM
 .intro i hi
  obtain⟨a,b,c,d⟩:=h.lows i hi;refine⟨a,b,?_,a6 _ (h.zf hn hw hi) d⟩;rw[dt,cq,if_neg (λe=>h.yV (i:=n/4) (by omega) e.1)];exact c
 .rw[dh,xS];exact h.zO
 .intro s hs
  have h1:=NG (l:=p.zY) (n:=n) (s:=s) (y:=⟨2,BY p.swap,false⟩) (by rw[h.zO];exact hn);have e1:EC (Cu s (AB p.zY n))=0:=by simp[Cu,hw,EC]
  have h2:=h.slots s hs;rw[bY s,dh]
  by_cases e:s=(BY p.swap).toNat
  .rw[if_pos e]
   have e2:EC (Cu s ⟨2,BY p.swap,false⟩)=1:=by
    have:BY p.swap=(s:Int):=by omega
    simp[Cu,this,EC]
   rw[if_neg (by rw[JB];exact ct)];rw[e,bf.2.2] at h2;rw[<-e] at h2;simp at h2;omega
  .rw[if_neg e]
   have e2:EC (Cu s ⟨2,BY p.swap,false⟩)=0:=by
    have:¬BY p.swap=(s:Int):=by omega
    simp[Cu,this,EC]
   omega
 .intro m hm
  have dr:Br (EL p n) m=if m=n then 0 else Br p m:=by
   unfold Br;rw[du,cq]
   by_cases e:m=n
   .subst e;rw[if_pos ⟨rfl,rfl⟩,if_pos rfl]
   .rw[if_neg (h.tab_ne hn hm e),if_neg e]
  unfold KM;rw[cZ m,dr]
  by_cases e:m=n
  .simp only[if_pos e]
   refine .inr (.inr ⟨by simp,⟨bf.1,by have:=bf.2.1;show BY p.swap<=15;omega⟩,?_,by simp,by simp⟩);rw[bY,if_pos rfl];exact ct
  .simp only[if_neg e]
   rcases h.zY m hm with x|⟨x1,x2,x3,x4⟩|⟨x1,x2,x3,x4,x5⟩
   .exact .inl x
   .refine .inr (.inl ⟨x1,x2,x3,a6 _ (λe'=>e (h.yZ hm hn x1 hw e')) x4⟩)
   .refine .inr (.inr ⟨x1,x2,?_,x4,x5⟩)
    rw[bY,if_neg]
    .exact x3
    .intro e'
     rw[e'] at x3;exact x3 bf.2.2
 .have:=h.count
  show(Ac (EL p n).zY 1:Int)<=p.zU
  omega
 .intro a ha
  unfold Dy;rw[cZ (a/4)]
  by_cases e:a/4=n
  .subst e
   rw[if_pos rfl,if_neg (show ¬(2:Int)=1 by decide),if_pos (show(2:Int)=2 from rfl),if_pos hw];unfold Ar;rw[bY,if_pos rfl]
  .rw[if_neg e]
   by_cases w1:(AB p.zY (a/4)).w=1
   .rw[if_pos w1,if_pos w1,cq,if_neg (λe'=>h.zf (i:=n/4) (n:=a/4) (by omega) w1 (by omega) e'.1.symm)]
   .rw[if_neg w1,if_neg w1]
    by_cases w2:(AB p.zY (a/4)).w=2
    .rw[if_pos w2,if_pos w2]
     unfold Ar;rw[bY,if_neg]
     rcases h.zY (a/4) (by omega) with⟨x,_⟩|⟨x,_⟩|⟨x1,x2,x3,x4,x5⟩
     .omega
     .omega
     .intro e'
      rw[e'] at x3;exact x3 bf.2.2
    .rw[if_neg w2,if_neg w2]
 .have al:(EL p n).zV.zZ.length=12:=c6.len
  exact Zn (f:=(AB p.zY n).a.toNat) (by rw[al];exact fk.1) (by rw[b5,if_pos rfl];rfl)
theorem row4(h:r.length=4):(((r.set 0 (r.getD 0 0)).set 1 (r.getD 1 0)).set 2 (r.getD 2 0)).set 3 (r.getD 3 0)=r:=by
 match r,h with
 | [a,b,c,d],_=>rfl
theorem set4{x:List Int}(hx:x.length=4)(h:r.length=4):(((x.set 0 (r.getD 0 0)).set 1 (r.getD 1 0)).set 2 (r.getD 2 0)).set 3 (r.getD 3 0)=r:=by
 match x,hx,r,h with
 | [_,_,_,_],_,[a,b,c,d],_=>rfl
theorem SZ{m:List (List Int)}{i:Nat}{w:Int}:CZ m f i w=m.set f ((AH m f).set i w):=ND
theorem Ny{m:List (List Int)}{i:Nat}{w:Int}(hf:f<m.length):CZ (m.set f r) f i w=m.set f (r.set i w):=by rw[SZ,Ke hf,if_pos rfl,uH]
theorem ZD{k:AN}(hm:Bv (A5 k 0) gA=true){f:Int}(h0:0<=f)(h1:f<=11)(hl:k.mem.length=12)(hk:Ax k f.toNat=1)(hg:(zS k.zZ f.toNat).g=gA)(dU:(AH k.mem f.toNat).length=4){ws:List Int}(hw:Di ws=true):
 Uv k f ws= {k with mem:=k.mem.set f.toNat ws}:=by
 obtain⟨ey,ex⟩:=A3.1 hw;have ok:∀i,i<4->EA (ws.getD i 0)=true:=λi hi=>Ab.2 (ex _ (DH (by omega)))
 have hf:f.toNat<k.mem.length:=by rw[hl];omega
 have st:∀(k':AN)(i:Nat),k'.zZ=k.zZ->k'.zX=k.zX->i<4->(Ad k' (Ah 3 f (i:Nat) (ws.getD i 0))).1= {k' with mem:=CZ k'.mem f.toNat i (ws.getD i 0)}:=λk' i e1 e2 hi=>by
  have eD:Bv (A5 k' 0) gA=true:=by unfold A5;rw[e2];exact hm
  rw[Xp eD h0 h1 (by unfold Ax;rw[e1];exact hk) (by rw[e1];exact hg) hi (ok i hi)]
 have e:(yC 4)=[0,1,2,3]:=rfl;unfold Uv;rw[e];simp only[yy,yw];rw[st k 0 rfl rfl (by omega)];rw[st {k with mem:=CZ k.mem f.toNat 0 (ws.getD 0 0)} 1 rfl rfl (by omega)];rw[st {k with mem:=CZ (CZ k.mem f.toNat 0 (ws.getD 0 0)) f.toNat 1 (ws.getD 1 0)} 2 rfl rfl (by omega)];rw[st {k with mem:=CZ (CZ (CZ k.mem f.toNat 0 (ws.getD 0 0)) f.toNat 1 (ws.getD 1 0)) f.toNat 2 (ws.getD 2 0)} 3 rfl rfl (by omega)]
 congr 1
 show CZ (CZ (CZ (CZ k.mem f.toNat 0 _) f.toNat 1 _) f.toNat 2 _) f.toNat 3 _=_
 rw[SZ (m:=k.mem),Ny hf,Ny hf,Ny hf,set4 dU ey]
def Ho(k:AN)(f t b:Nat)(row:List Int):AN:=IP {k with zZ:=k.zZ.set f ⟨1,gA,0⟩,mem:=k.mem.set f row} t b (Hh f)
theorem Vm(h:ED p){n:Nat}(hn:n<16)(hw:(AB p.zY n).w≠1)(hf:0<=Am p.zV.zZ):
 Oh p n=({p with zV:=Ho p.zV (Am p.zV.zZ).toNat (BJ p.low (n/4)).toNat (n%4) (if(AB p.zY n).w=2 then AH p.swap (AB p.zY n).a.toNat else[0,0,0,0]),swap:=if(AB p.zY n).w=2 then p.swap.set (AB p.zY n).a.toNat [] else p.swap,zY:=p.zY.set n ⟨1,Am p.zV.zZ,true⟩},true)/\
 DJ (Ho p.zV (Am p.zV.zZ).toNat (BJ p.low (n/4)).toNat (n%4) (if(AB p.zY n).w=2 then AH p.swap (AB p.zY n).a.toNat else[0,0,0,0])):=by
 obtain⟨g1,g2,g3⟩:=FU (zZ:=p.zV.zZ) (by omega);have al:=h.k.len;rw[al] at g1;have hl:=h.lows (n/4) (by omega);have c4:=h.zK (i:=n/4) (by omega);have bB:=h.meml;have a8:(BJ p.low (n/4)).toNat≠(Am p.zV.zZ).toNat:=λe=>by have:=c4.2;unfold Ax at this;rw[e,g2] at this;omega
 have e1:=Lz (k:=p.zV) h.may hf (a:=0) (b:=0) (c:=0);have eG:DJ (Ad p.zV (Ah 1 0 0 0)).1:=Fy h.k;rw[e1] at eG;have ca:∀g,zS (p.zV.zZ.set (Am p.zV.zZ).toNat ⟨1,gA,0⟩) g=if g=(Am p.zV.zZ).toNat then⟨1,gA,0⟩ else zS p.zV.zZ g:=λg=>by
  rw[Gi,al]
  by_cases e:g=(Am p.zV.zZ).toNat
  .rw[if_pos ⟨e,g1⟩,if_pos e]
  .rw[if_neg (λh=>e h.1),if_neg e]
 have e2:(if(AB p.zY n).w=2 then Uv {p.zV with zZ:=p.zV.zZ.set (Am p.zV.zZ).toNat ⟨1,gA,0⟩,mem:=p.zV.mem.set (Am p.zV.zZ).toNat [0,0,0,0]} (Am p.zV.zZ) (AH p.swap (AB p.zY n).a.toNat) else {p.zV with zZ:=p.zV.zZ.set (Am p.zV.zZ).toNat ⟨1,gA,0⟩,mem:=p.zV.mem.set (Am p.zV.zZ).toNat [0,0,0,0]})=
  {p.zV with zZ:=p.zV.zZ.set (Am p.zV.zZ).toNat ⟨1,gA,0⟩,mem:=p.zV.mem.set (Am p.zV.zZ).toNat (if(AB p.zY n).w=2 then AH p.swap (AB p.zY n).a.toNat else[0,0,0,0])}:=by
  by_cases w2:(AB p.zY n).w=2
  .rw[if_pos w2,if_pos w2]
   have cd:Di (AH p.swap (AB p.zY n).a.toNat)=true:=by
    rcases h.zY n hn with⟨x,_⟩|⟨x,_⟩|⟨x1,x2,x3,x4,x5⟩
    .omega
    .omega
    .rcases h.zv (AB p.zY n).a.toNat (by omega) with x|x
     .exact absurd x x3
     .exact x
   rw[ZD (k:= {p.zV with zZ:=p.zV.zZ.set (Am p.zV.zZ).toNat ⟨1,gA,0⟩,mem:=p.zV.mem.set (Am p.zV.zZ).toNat [0,0,0,0]}) h.may hf (by omega) (by show(p.zV.mem.set _ _).length=12;rw[xS];exact bB) (by unfold Ax;rw[ca,if_pos rfl]) (by rw[ca,if_pos rfl]) (by show(AH (p.zV.mem.set _ _) _).length=4;rw[Ke (by omega),if_pos rfl];rfl) cd]
   show AN.mk _ _ _ _=AN.mk _ _ _ _
   rw[uH]
  .rw[if_neg w2,if_neg w2]
 have cd:Di (if(AB p.zY n).w=2 then AH p.swap (AB p.zY n).a.toNat else[0,0,0,0])=true:=by
  by_cases w2:(AB p.zY n).w=2
  .rw[if_pos w2]
   rcases h.zY n hn with⟨x,_⟩|⟨x,_⟩|⟨x1,x2,x3,x4,x5⟩
   .omega
   .omega
   .rcases h.zv (AB p.zY n).a.toNat (by omega) with x|x
    .exact absurd x x3
    .exact x
  .rw[if_neg w2];rfl
 generalize hR:(if(AB p.zY n).w=2 then AH p.swap (AB p.zY n).a.toNat else[0,0,0,0])=row at e2 cd ⊢;have dY:DJ {p.zV with zZ:=p.zV.zZ.set (Am p.zV.zZ).toNat ⟨1,gA,0⟩,mem:=p.zV.mem.set (Am p.zV.zZ).toNat row}:=by have:=DJ.data h.k g1 (.inl g2) cd (x:=⟨1,gA,0⟩) (.inr ⟨by decide,by decide,by decide⟩) (.inr rfl) (by rw[DJ.zr h.k g1 g2]) (.inr (DJ.zr h.k g1 g2)) h.k.zW h.k.trans;exact this
 have e3:=U1 dY h.may h.alone hl.1 hl.2.1 (by unfold Ax;rw[ca,if_neg a8];exact c4.2) (by rw[ca,if_neg a8];exact hl.2.2.2.1) (b:=n%4) (by omega) (w:=Hh (Am p.zV.zZ)) (.inr ⟨_,hf,by omega,rfl,by unfold Ax;rw[ca,if_pos rfl],by rw[ca,if_pos rfl]⟩);have e4:((Am p.zV.zZ).toNat:Int)=Am p.zV.zZ:=by omega
 have dX:=Fy dY (kind:=6) (a:=BJ p.low (n/4)) (b:=((n%4:Nat):Int)) (c:=Hh (Am p.zV.zZ));rw[e3] at dX;refine⟨?_,by unfold Ho;rw[e4];exact dX⟩;unfold Oh;rw[e1];simp only;rw[if_neg (by simp),e2];unfold IS;rw[e3];unfold Ho;rw[e4]
theorem ED.tab_zero(h:ED p){n:Nat}(hn:n<16)(hw:(AB p.zY n).w≠1):Br p n=0:=by
 rcases h.zY n hn with⟨_,_,_,x⟩|⟨x,_⟩|⟨_,_,_,_,x⟩
 .exact x
 .exact absurd x hw
 .exact x
theorem TE(h:ED p){n:Nat}(hn:n<16)(hw:(AB p.zY n).w≠1)(hf:0<=Am p.zV.zZ)(hc:(Ac p.zY 1:Int)+1<=p.zU):
 ED (Oh p n).1/\(Oh p n).2=true/\(∀a,a<64->Dy (Oh p n).1 a=Dy p a)/\Ac (Oh p n).1.zY 1=Ac p.zY 1+1/\(Oh p n).1.zY=p.zY.set n ⟨1,Am p.zV.zZ,true⟩:=by
 obtain⟨ca,c6⟩:=Vm h hn hw hf;obtain⟨g1,g2,g3⟩:=FU (zZ:=p.zV.zZ) (by omega);have al:=h.k.len;rw[al] at g1;generalize hR:(if(AB p.zY n).w=2 then AH p.swap (AB p.zY n).a.toNat else[0,0,0,0])=row at ca c6;generalize hS:(if(AB p.zY n).w=2 then p.swap.set (AB p.zY n).a.toNat [] else p.swap)=sw at ca;have bB:=h.meml;have hl:=h.lows (n/4) (by omega);have c4:=h.zK (i:=n/4) (by omega);have dq:∀g,Ax p.zV g≠0->g≠(Am p.zV.zZ).toNat:=λg hg e=>by unfold Ax at hg;rw[e] at hg;exact hg g2
 have cY:(AZ p.zV 0).toNat≠(Am p.zV.zZ).toNat:=dq _ (by rw[h.zA.2];decide);have b4:∀i,i<4->(BJ p.low i).toNat≠(Am p.zV.zZ).toNat:=λi hi=>dq _ (by rw[(h.zK hi).2];decide)
 have c8:∀m,m<16->(AB p.zY m).w=1->(AB p.zY m).a.toNat≠(Am p.zV.zZ).toNat:=λm hm eB=>dq _ (by rw[(h.zH hm eB).2];decide)
 have bp:Di row=true:=by
  rw[<-hR]
  by_cases w2:(AB p.zY n).w=2
  .rw[if_pos w2]
   rcases h.zY n hn with⟨x,_⟩|⟨x,_⟩|⟨x1,x2,x3,x4,x5⟩
   .omega
   .omega
   .rcases h.zv (AB p.zY n).a.toNat (by omega) with x|x
    .exact absurd x x3
    .exact x
  .rw[if_neg w2];rfl
 have dU:=(A3.1 bp).1;have e0:Ar (p.zV.mem.set (Am p.zV.zZ).toNat row) (BJ p.low (n/4)).toNat (n%4)=0:=by unfold Ar;rw[Ke (by omega),if_neg (b4 _ (by omega))];exact h.tab_zero hn hw
 have e4:((Am p.zV.zZ).toNat:Int)=Am p.zV.zZ:=by omega
 have cq:∀f i,Ar (Ho p.zV (Am p.zV.zZ).toNat (BJ p.low (n/4)).toNat (n%4) row).mem f i=if f=(BJ p.low (n/4)).toNat/\i=n%4 then Hh (Am p.zV.zZ) else if f=(Am p.zV.zZ).toNat then row.getD i 0 else Ar p.zV.mem f i:=λf i=>by
  unfold Ho IP
  show Ar (CZ (p.zV.mem.set (Am p.zV.zZ).toNat row) _ _ _) f i=_
  rw[QP (by rw[xS,bB];exact c4.1) (by rw[Ke (by omega),if_neg (b4 _ (by omega)),h.rowl c4.1];omega),e4]
  congr 1
  unfold Ar;rw[Ke (by omega)]
  by_cases e:f=(Am p.zV.zZ).toNat
  .rw[if_pos e,if_pos e]
  .rw[if_neg e,if_neg e]
 have b5:∀g,zS (Ho p.zV (Am p.zV.zZ).toNat (BJ p.low (n/4)).toNat (n%4) row).zZ g=if g=(Am p.zV.zZ).toNat then⟨1,gA,1⟩ else zS p.zV.zZ g:=λg=>by
  unfold Ho IP
  show zS (A4 (A4 (p.zV.zZ.set (Am p.zV.zZ).toNat ⟨1,gA,0⟩) (Ar (p.zV.mem.set (Am p.zV.zZ).toNat row) _ _) (-1)) (Hh _) 1) g=_
  rw[FN (by rw[Cg,xS];exact al),FN (by rw[xS];exact al),e0,Pq,e4,SI hf (by omega),Gi,al]
  by_cases e:g=(Am p.zV.zZ).toNat
  .rw[if_pos ⟨e,g1⟩,if_pos e]
   simp[EC,e]
  .rw[if_neg (λh=>e h.1),if_neg e]
   simp[EC,e]
 have cZ:∀m,AB (p.zY.set n ⟨1,Am p.zV.zZ,true⟩) m=if m=n then⟨1,Am p.zV.zZ,true⟩ else AB p.zY m:=λm=>by
  rw[Dh]
  by_cases e:m=n
  .rw[if_pos ⟨e,by rw[h.zO];exact hn⟩,if_pos e]
  .rw[if_neg (λh=>e h.1),if_neg e]
 have cC:Ac (p.zY.set n ⟨1,Am p.zV.zZ,true⟩) 1=Ac p.zY 1+1:=by
  have:=Nj (l:=p.zY) (n:=n) (y:=⟨1,Am p.zV.zZ,true⟩) (w:=1) (by rw[h.zO];exact hn);have e1:EC (Nn 1 (AB p.zY n))=0:=by simp[Nn,hw,EC]
  have e2:EC (Nn 1 ⟨1,Am p.zV.zZ,true⟩)=1:=by simp[Nn,EC]
  omega
 have a6:∀g,g≠(Am p.zV.zZ).toNat->Kp p.zV.zZ g->Kp (Ho p.zV (Am p.zV.zZ).toNat (BJ p.low (n/4)).toNat (n%4) row).zZ g:=λg hg hm=>by unfold Kp;rw[b5 g,if_neg hg];exact hm
 have eC:Kp (Ho p.zV (Am p.zV.zZ).toNat (BJ p.low (n/4)).toNat (n%4) row).zZ (Am p.zV.zZ).toNat:=by unfold Kp;rw[b5,if_pos rfl];exact⟨rfl,rfl⟩
 have bY:∀s,AH sw s=if(AB p.zY n).w=2/\s=(AB p.zY n).a.toNat then[] else AH p.swap s:=λs=>by
  rw[<-hS]
  by_cases w2:(AB p.zY n).w=2
  .rcases h.zY n hn with⟨x,_⟩|⟨x,_⟩|⟨x1,x2,x3,x4,x5⟩
   .omega
   .omega
   .rw[if_pos w2,Ke (by rw[h.zD];omega)]
    by_cases e:s=(AB p.zY n).a.toNat
    .rw[if_pos e,if_pos ⟨w2,e⟩]
    .rw[if_neg e,if_neg (λh=>e h.2)]
  .rw[if_neg w2,if_neg (λh=>w2 h.1)]
 have ds:sw.length=16:=by
  rw[<-hS]
  split
  .rw[xS];exact h.zD
  .exact h.zD
 rw[ca];have bn:∀m,m<16->m≠n->(AB p.zY m).w=2->¬((AB p.zY n).w=2/\(AB p.zY m).a.toNat=(AB p.zY n).a.toNat):=by
  rintro m hm a8 m2 ⟨n2,e⟩;have r1:0<=(AB p.zY m).a/\(AB p.zY m).a<=15:=by
   rcases h.zY m hm with⟨x,_⟩|⟨x,_⟩|⟨x1,x2,x3,x4,x5⟩
   .omega
   .omega
   .exact x2
  have r2:0<=(AB p.zY n).a/\(AB p.zY n).a<=15:=by
   rcases h.zY n hn with⟨x,_⟩|⟨x,_⟩|⟨x1,x2,x3,x4,x5⟩
   .omega
   .omega
   .exact x2
  have hs:=h.slots (AB p.zY n).a.toNat (by omega);have h1:=NG (l:=p.zY) (n:=n) (s:=(AB p.zY n).a.toNat) (y:=⟨0,0,false⟩) (by rw[h.zO];exact hn);have h2:=NG (l:=p.zY.set n ⟨0,0,false⟩) (n:=m) (s:=(AB p.zY n).a.toNat) (y:=⟨0,0,false⟩) (by rw[xS,h.zO];exact hm);rw[Dh,if_neg (λh=>a8 h.1)] at h2;have b1:EC (Cu (AB p.zY n).a.toNat (AB p.zY n))=1:=by
   have:(AB p.zY n).a=(((AB p.zY n).a.toNat:Nat):Int):=by omega
   unfold Cu;rw[decide_eq_true n2,decide_eq_true this];rfl
  have b2:EC (Cu (AB p.zY n).a.toNat (AB p.zY m))=1:=by
   have:(AB p.zY m).a=(((AB p.zY n).a.toNat:Nat):Int):=by omega
   unfold Cu;rw[decide_eq_true m2,decide_eq_true this];rfl
  have b3:EC (Cu (AB p.zY n).a.toNat ⟨0,0,false⟩)=0:=by simp[Cu,EC]
  split at hs<;>omega
 refine⟨⟨c6,ds,?_,h.may,h.alone,h.root,h.zt,a6 _ cY h.yM,?_,?_,?_,?_,h.zR,h.zU,?_⟩,rfl,?_,cC,rfl⟩
 .intro s hs
  rw[bY s]
  split
  .exact .inl rfl
  .exact h.zv s hs
 .intro i hi
  obtain⟨a,b,c,d⟩:=h.lows i hi;refine⟨a,b,?_,a6 _ (b4 i hi) d⟩
  show Ar (Ho p.zV _ _ _ row).mem (AZ p.zV 0).toNat i=_
  rw[cq,if_neg (λe=>h.yV (i:=n/4) (by omega) e.1),if_neg cY];exact c
 .show(p.zY.set n _).length=16
  rw[xS];exact h.zO
 .intro s hs
  have h1:=NG (l:=p.zY) (n:=n) (s:=s) (y:=⟨1,Am p.zV.zZ,true⟩) (by rw[h.zO];exact hn);have e2:EC (Cu s ⟨1,Am p.zV.zZ,true⟩)=0:=by simp[Cu,EC]
  have h2:=h.slots s hs
  show Bz (p.zY.set n _) s=if(AH sw s).isEmpty then 0 else 1
  rw[bY s]
  by_cases e:(AB p.zY n).w=2/\s=(AB p.zY n).a.toNat
  .rw[if_pos e]
   have a0:0<=(AB p.zY n).a/\AH p.swap (AB p.zY n).a.toNat≠[]:=by
    rcases h.zY n hn with⟨x,_⟩|⟨x,_⟩|⟨x1,x2,x3,x4,x5⟩
    .omega
    .omega
    .exact⟨x2.1,x3⟩
   have e1:EC (Cu s (AB p.zY n))=1:=by
    have:(AB p.zY n).a=(s:Int):=by omega
    unfold Cu;rw[decide_eq_true e.1,decide_eq_true this];rfl
   rw[if_neg (by rw[JB,e.2];exact a0.2)] at h2;simp;omega
  .rw[if_neg e]
   have e1:EC (Cu s (AB p.zY n))=0:=by
    unfold Cu
    by_cases w2:(AB p.zY n).w=2
    .have:¬(AB p.zY n).a=(s:Int):=λh=>e ⟨w2,by omega⟩
     rw[decide_eq_false this];simp[EC]
    .rw[decide_eq_false w2];simp[EC]
   omega
 .intro m hm
  have dr:Br {p with zV:=Ho p.zV (Am p.zV.zZ).toNat (BJ p.low (n/4)).toNat (n%4) row,swap:=sw,zY:=p.zY.set n ⟨1,Am p.zV.zZ,true⟩} m=if m=n then Hh (Am p.zV.zZ) else Br p m:=by
   unfold Br
   show Ar (Ho p.zV _ _ _ row).mem (BJ p.low (m/4)).toNat (m%4)=_
   rw[cq]
   by_cases e:m=n
   .subst e;rw[if_pos ⟨rfl,rfl⟩,if_pos rfl]
   .rw[if_neg (h.tab_ne hn hm e),if_neg (b4 _ (by omega)),if_neg e]
  unfold KM;rw[dr]
  show(AB (p.zY.set n _) m).w=0/\(AB (p.zY.set n _) m).a=0/\(AB (p.zY.set n _) m).u=false/\_∨(AB (p.zY.set n _) m).w=1/\_/\_=Hh (AB (p.zY.set n _) m).a/\Kp _ (AB (p.zY.set n _) m).a.toNat∨(AB (p.zY.set n _) m).w=2/\_/\AH sw (AB (p.zY.set n _) m).a.toNat≠[]/\(AB (p.zY.set n _) m).u=false/\_
  rw[cZ m]
  by_cases e:m=n
  .simp only[if_pos e]
   exact .inr (.inl ⟨by simp,⟨hf,by show Am p.zV.zZ<=11;omega⟩,by simp,eC⟩)
  .simp only[if_neg e]
   rcases h.zY m hm with x|⟨x1,x2,x3,x4⟩|⟨x1,x2,x3,x4,x5⟩
   .exact .inl x
   .exact .inr (.inl ⟨x1,x2,x3,a6 _ (c8 m hm x1) x4⟩)
   .refine .inr (.inr ⟨x1,x2,?_,x4,x5⟩)
    rw[bY,if_neg (bn m hm e x1)];exact x3
 .show(Ac (p.zY.set n _) 1:Int)<=p.zU
  omega
 .intro a ha
  unfold Dy
  show(if(AB (p.zY.set n _) (a/4)).w=1 then Ar (Ho p.zV _ _ _ row).mem (AB (p.zY.set n _) (a/4)).a.toNat (a%4) else if(AB (p.zY.set n _) (a/4)).w=2 then Ar sw (AB (p.zY.set n _) (a/4)).a.toNat (a%4) else 0)=_
  rw[cZ (a/4)]
  by_cases e:a/4=n
  .subst e
   rw[if_pos rfl,if_pos (show(1:Int)=1 from rfl),cq,if_neg (λe'=>b4 (a/4/4) (by omega) e'.1.symm),if_pos rfl,if_neg hw,<-hR]
   by_cases w2:(AB p.zY (a/4)).w=2
   .rw[if_pos w2,if_pos w2];rfl
   .rw[if_neg w2,if_neg w2]
    have:a%4=0∨a%4=1∨a%4=2∨a%4=3:=by omega
    rcases this with h|h|h|h<;>rw[h]<;>rfl
  .rw[if_neg e]
   by_cases w1:(AB p.zY (a/4)).w=1
   .rw[if_pos w1,if_pos w1,cq,if_neg (λe'=>h.zf (i:=n/4) (n:=a/4) (by omega) w1 (by omega) e'.1.symm),if_neg (c8 _ (by omega) w1)]
   .rw[if_neg w1,if_neg w1]
    by_cases w2:(AB p.zY (a/4)).w=2
    .rw[if_pos w2,if_pos w2]
     unfold Ar;rw[bY,if_neg (bn _ (by omega) e w2)]
    .rw[if_neg w2,if_neg w2]
end Go.Proofs.YtpdjjjdkhedibaaGreatDoor
