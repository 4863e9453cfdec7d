/-
  Packed:27 texts.
-/
import Derived.Test.YtpdjjjdkhedibaaGreatDoorY1
import Derived.Test.YtpdjjjdkhedibaaGreatDoorY3
import Derived.Test.YtpdjjjdkhedibaaGreatDoorY2
import Derived.Deep.DeepCutAuto
import Derived.Deep.CutBlock
set_option linter.unusedVariables false
set_option linter.unusedSimpArgs false
set_option maxHeartbeats 16000000
set_option maxRecDepth 100000
open Go Go.Proofs.YtpdjjjdkhedibaaGreatDoor
open And renaming intro->xU
open Bool renaming and_eq_true->yu,or_eq_true->xE,true_and->wt
open Go.Exit renaming inBlock->xL
open Go.IntKind renaming i64->wR
open Go.IntWalk renaming i64_in->xA
open Go.Proofs.Tryz renaming results122->rS,results133->uQ,results171->uP,results172->rU,results173->uR,results174->uO,results175->vx,results176->tS,results177->vZ,results178->vy,results82->tK,results90->rO
open Go.RowKit.Below renaming cell->uu,refl->yD
open Go.Value renaming int->xY,oneCell'->xG
open Go.Value.slice renaming injEq->xH
open Go.World renaming block_lt_of_cell?->yA
open Go.World.ownsRow renaming lt->yk
open Go renaming bodyPost_ret->yr,cell_of_row->ym,heap_alloc_new->yi,heap_setCell_same->yq
open Int renaming toNat_natCast->yd
open List renaming all_eq_false->wP,all_eq_true->xZ,any_eq_true->vP,countP_append->sx,countP_cons->wZ,countP_le_length->vW,countP_nil->rT,eq_nil_of_length_eq_zero->xM,foldl_cons->yz,foldl_nil->yx,getElem?_eq_getElem->yw,getElem?_eq_some_iff->yt,getElem?_replicate->vL,isEmpty_iff->tR,length->wO,length_append->yj,length_drop->wT,length_map->uJ,length_replicate->vB,length_take->xT,mem_of_getElem?->yh,mem_range->xS,mem_singleton->wX,range->yC,replicate->xR,take_length->xo
open List.range renaming loop->yy
open Nat renaming add_zero->xK,le_add_right->wv,le_refl->yv,le_trans->yB,lt_irrefl->tz,lt_of_lt_of_le->xW,mul_one->wB,not_lt_zero->xN,zero_add->vt,zero_le->yg
variable {t:Bool} {ss:List ByteArray} {c' cv e' ev i' iv m' mv v:Value} {ww:World} {x y:Int}
namespace Go.Proofs.YtpdjjjdkhedibaaGreatDoor
open Go.Proofs.Tryz
open Go.RowKit
theorem Re(m iv ev cv:Value)(k:AO)(kk b c:Int)(en z:Nat)(nm:ByteArray)(w:World)(h:Mu w m iv ev cv k)(hk:DQ k)(df:en<3)(cr:z<12)(j4:kk=4->Bh b=true):
 Calls prog 221 #[.agg #[m,iv,ev,cv],.agg #[.int .i64 kk,.int .i64 en,.int .i64 z,.int .i64 b,.int .i64 c,.string nm]] w (Vs (if kk=4 then IF k.mem k.zZ z b (AJ k.zX en).zT else Dz k.mem k.zZ z) w):=by
 obtain⟨N0,N1,av,ds⟩:=Jz w (.cells #[m,iv,ev,cv] 28) (.cells #[.int .i64 kk,.int .i64 en,.int .i64 z,.int .i64 b,.int .i64 c,.string nm] 55);obtain⟨H,N,X,D⟩:=AE N0;obtain⟨y0,y1,y2,y3,y4,y5⟩:=Jl N1;have bk:=AW N0;have bl:=AW N1;have db:=(Ar hk).1;have de:=(Ar hk).2.1;have hm:=h.1.below av;have hi:=BK.below h.2.1 av;obtain⟨ae,ce,rfl,_,_,HE⟩:=(h.2.2.1.below av).open;have el:en<k.zX.length:=by rw[hk.zN];exact df
 obtain⟨be,gl,ua,uc,rfl,j2,D0,_,hR⟩:=HE en el;have nY:(en:Int)<k.zX.length:=by omega
 have nH:¬(en:Int)<0:=by omega
 have C1:=λ(h4:kk=4)=>λW (hW:Below _ _ W)=>Rr m iv _ k.mem k.zZ z b (AJ k.zX en).zT W (hm.below hW) db (BK.below hi hW) de cr (j4 h4) (BK.below hR hW) (IV hk df) (hk.zT en df)
 have C2:=AA (λW (hW:Below _ _ W)=>PM m iv k.mem k.zZ z W (hm.below hW) db (BK.below hi hW) de cr);obtain⟨am,cm,rfl,_⟩:=hm.open;obtain⟨ai,ci,rfl,_,_⟩:=hi.shape;generalize hW0:(w.alloc _).alloc _=W0 at*
 by_cases h4:kk=4
 .rw[if_pos h4]
  have CP:=AA (C1 h4);subst h4;generalize IF k.mem k.zZ z b (AJ k.zX en).zT=res at*;clear h hk N0 N1 HE hm hi hR C1 C2 db de j4 ds;go_in;go_wp2_with fail;refine BR 18 36 [.p w.heap.size 0,.v (.slice am k.mem.length cm),.p w.heap.size 1,.v (.slice ai k.zZ.length ci),.p (w.heap.size+1) 2,.i ((z:Int)),.p (w.heap.size+1) 3,.i b,.p w.heap.size 2,.v (.slice (some ⟨be,gl,none⟩) k.zX.length ce),.p (w.heap.size+1) 1,.i ((en:Int)),.p be (gl+en*2),.p be (gl+en*2),.v (.slice ua (AJ k.zX en).zT.length uc),.z,.z,.i (res.2)] (λix vv ww=>match ix with
   |15=>∃v',vv=.tuple #[v',.int .i64 res.2]/\AQ W0.heap.size 92 3 A3 ww v' res.1
   |16=>AQ W0.heap.size 92 3 A3 ww vv res.1
   |_=>True) ?_ ?_ ?_
  .intro i hi o Y a O V J L HL A
   have bw:=bc L bl y2;have bK:=bc L bl y3;have cT:=bc L bl y1
   match i,hi with
   |0,_|2,_|4,_|6,_|8,_|10,_|13,_=>exact sP Y A V J
   |1,_=>exact sL Y A V J (hl:=F9 (bc L bk H))
   |3,_=>exact sL Y A V J (hl:=GY (bc L bk N))
   |5,_|7,_|11,_=>exact sL Y A V J (hl:=FT ‹_›)
   |9,_=>exact sL Y A V J (hl:=OL (bc L bk X))
   |12,_=>exact sI Y A V J (hr:=by clear J V A;go_simp)
   |14,_=>exact sL Y A V J (hl:=Li (bc L j2 D0))
   |15,_=>exact sC Y A V J (CP.out _ L) (by rintro e w_ ⟨v',rfl,hO,az⟩;exact⟨_,rfl,⟨_,rfl,hO.lower L.size⟩,az⟩)
   |16,_=>
    clear bw bK cT;obtain rfl:=yF Y;have gg:∃v',(a.tmps[24]?.getD undef)=.tuple #[v',.int .i64 res.2]/\AQ W0.heap.size 92 3 A3 O v' res.1:=Ba J 15
    clear J V;obtain⟨v',gg,hO⟩:=gg;refine yE ?_;go_simp;exact A.out _ _ hO (yD _ _)
   |17,_=>
    clear bw bK cT;obtain rfl:=yF Y;have gg:∃v',(a.tmps[24]?.getD undef)=.tuple #[v',.int .i64 res.2]/\AQ W0.heap.size 92 3 A3 O v' res.1:=Ba J 15
    clear J V;obtain⟨v',gg,hO⟩:=gg;refine yE ?_;go_simp;exact A.out _ _ rfl (yD _ _)
   |_+18,hq=>omega
  .intro i hi vv wz dc bs hz
   match i,hi with
   |15,_=>exact(by obtain⟨v',h0,h1⟩:=hz;exact⟨v',h0,AQ.below h1 bs⟩)
   |16,_=>exact(AQ.below hz bs)
   |0,_|1,_|2,_|3,_|4,_|5,_|6,_|7,_|8,_|9,_|10,_|11,_|12,_|13,_|14,_|17,_=>exact hz
   |_+18,hq=>omega
  .intro E O hR L
   have fm:AQ W0.heap.size 92 3 A3 O (E 16) res.1:=BS hR 16;have lu:(E 17)=.int .i64 (res.2):=BS hR 17;clear hR;simp only[Ak,Ah,yC,yy,yz,yx,lu];simp;generalize E 16=z16 at fm ⊢;clear lu;have Q:=AA fm;have dy:=av.trans (L.mono av.size);obtain⟨_,_,rfl,_,_⟩:=fm.rd.shape;clear fm L;go_wp2_with fail;go_ret2;exact⟨_,rfl,Q.out.lower av.size,dy⟩
 .rw[if_neg h4]
  have t4:(kk==4)=false:=by simp[h4]
  generalize Dz k.mem k.zZ z=res at*;clear h hk N0 N1 HE hm hi hR C1 db de j4 ds h4;go_in;go_wp2_with (refine(C2.out _ (yD _ _)).mono ?_;rintro r w2 ⟨v',rfl,hO,b2⟩;have HO:=AA hO;have dy:=av.trans (b2.mono av.size);obtain⟨_,_,rfl,_,_⟩:=hO.rd.shape;clear hO b2);go_ret2;exact⟨_,rfl,HO.out.lower av.size,dy⟩
theorem KE{lo:Nat}{w:World}{t:TypeId}(ty:TypeId)(e:TypeId)(an:Value)(sz bytes:Nat)(ht:prog.underlying t=some (.slice e))(hi:(prog.info? e).map (λi=>(i.zero,i.size,i.bytes))=some (some an,sz,bytes))
 (nt:an.cells.size=sz)(nw:0<sz){v u:Value}{n m:Nat}{xs news:List Value}(fL:w.ownsRow lo e sz v n xs)(hr:Rd w u sz m news)(h1:∀u∈news,u.oneCell'=true)(om:n+m<=maxLen)(gI:(n+m)*bytes<=140737488355328)(al:lo<=w.heap.size):
 ∃v' w',(Builtin.append_ #[t,t] ty #[v,u]).run prog w=.ok v' w'/\w'.ownsRow lo e sz v' (n+m) (xs++news)/\w.grownBy w' v.ownBlock/\Below lo w w':=by
 obtain⟨i0,f9,gt,ex,fp⟩:=info_parts hi;obtain⟨ao,c,rfl,jY,ez,hl,eJ,hc⟩:=hr;have br:∀w',w.grownBy w' v.ownBlock->Below lo w w':=λw' hg=>(yD lo w).grown hg al (λk hk=>(fL.lt k hk).1)
 cases ao with
 |none=>
  have eA:=eJ rfl;subst eA;obtain rfl:m=0:=by omega
  have iE:news=[]:=xM (by simpa using hl);subst iE;exact⟨v,w,run_append_owned_none (P:=prog) (w:=w) lo t ty e i0 sz ht f9 v n xs fL,by simpa using fL,⟨rfl,rfl,rfl,yv _,λ_ _ _=>rfl⟩,yD _ _⟩
 |some ad=>
  obtain⟨v',w',R,h3,h4,_⟩:=run_append_own_at (P:=prog) w lo t ty e i0 an sz bytes ht f9 gt ex fp nt nw v n xs fL ad m c news hl (by
   intro j u hu
   rcases Nat.eq_zero_or_pos m with rfl|hm
   .simp at hl
    simp[hl] at hu
   .obtain⟨b,bB,od,dU⟩:=hc hm
    obtain rfl:ad=⟨b,bB,none⟩:=by simpa using od
    have hj:j<news.length:=(yt.1 hu).1;have kp:(⟨b,bB,none⟩:Addr).add j=⟨b,bB+j,none⟩:=by unfold Addr.add;split<;>simp_all
    rw[kp,dU j (by omega),hu]) h1 om gI al
  exact⟨v',w',R,h3,h4,br w' h4⟩
def Gy(ss:List ByteArray)(s:ByteArray):List ByteArray×Bool:=if BW ss&&BV s then Cs ss s else([],false)
def Z1(w:World)(r:List ByteArray×Bool)(e:Ending)(w':World):Prop:=∃v',e=.returned (.tuple #[v',.bool r.2])/\AQ w.heap.size 9 1 BD w' v' r.1/\Below w.heap.size w w'
theorem TG{w:World}{a:Option Addr}{n c k:Nat}(h:BY w (.slice a n c) ss)(hn:n=ss.length)(hk:k<=n):BY w (.slice a k c) (ss.take k):=by
 obtain⟨ao,c',hv,jY,ez,hl,eJ,hc⟩:=h;simp only[xH] at hv;obtain⟨rfl,_,rfl⟩:=hv;have eV:(ss.take k).length=k:=by rw[xT];omega
 unfold BY BK;rw[eV];refine⟨_,_,rfl,by omega,ez,by rw[Ja,uJ,eV,wB],eJ,λg3=>?_⟩;obtain⟨b,bB,e,dU⟩:=hc (by omega);refine⟨b,bB,e,λj hj=>?_⟩;have nS:j<k:=by omega
 rw[dU j (by omega),Ja,Ja,List.map_take,List.getElem?_take,if_pos nS]
theorem Yb{w:World}{b bB n c k:Nat}(h:BY w (.slice (some ⟨b,bB,none⟩) n c) ss)(hn:n=ss.length)(hk:k<=n)(b' gp:Nat)(he:k<n->b'=b/\gp=bB+k):BY w (.slice (some ⟨b',gp,none⟩) (n - k) (c - k)) (ss.drop k):=by
 obtain⟨ao,c',hv,jY,ez,hl,eJ,hc⟩:=h;simp only[xH] at hv;obtain⟨rfl,_,rfl⟩:=hv;have eV:(ss.drop k).length=n - k:=by rw[wT];omega
 unfold BY BK;rw[eV];refine⟨_,_,rfl,by omega,by omega,by rw[Ja,uJ,eV,wB],(by intro e;cases e),λg3=>?_⟩;obtain⟨b1,jM,e,dU⟩:=hc (by omega);obtain⟨rfl,rfl⟩:b=b1/\bB=jM:=by simpa using e
 obtain⟨rfl,rfl⟩:=he (by omega);refine⟨_,_,rfl,λj hj=>?_⟩;rw[Nat.add_assoc,dU (k+j) (by omega),Ja,Ja,List.map_drop,List.getElem?_drop]
theorem QB{k:AO}(hk:DQ k):k.zW.length<=4:=by have:=hk.zW;simp only[BT,yu,decide_eq_true_eq] at this;exact this.2
theorem Eb.newRow{T:Nat}{cs:Array Value}{h2:List Nat}{lo g b0:Nat}{w W W':World}{i e c:Value}{k:AO}{gm n dn:Nat}(h:Eb T cs h2 lo g b0 w W (.slice (some ⟨gm,0,none⟩) n dn) i e c k)(hn:n=k.mem.length)(Z:Below W.heap.size W W'){v':Value}{r:List Int}(R:AF W.heap.size W' v' r){f:Nat}(hf:f<k.mem.length):
 Eb T cs h2 lo g b0 w (W'.setCell ⟨gm,f,none⟩ v') (.slice (some ⟨gm,0,none⟩) n dn) i e c {k with mem:=k.mem.set f r}:=by
 have h':=h.below Z;obtain⟨E,o1⟩:=h.yI.2.2.1;have gv:E.length=k.mem.length:=o1.2.1.1;have S:=Au.set o1 Z R (yv _) h.lo (by omega) (show f<E.length by omega);have lw:=o1.below Z;obtain⟨pZ,hc⟩:=A6 lw.1 gm rfl;obtain⟨hB,hg,_,o2,⟨ps,o3⟩,o4⟩:=h'.yI;exact⟨⟨Kn hB S.2 hc (by decide),hg,⟨_,S.1⟩,o2.yL S.2 hc,⟨ps,o3.yL S.2 hc⟩,o4.yL S.2 hc⟩,Ap h'.yK S.2 (Br hc h'.yK h.ty.2.2.2.2),AM h'.bel S.2 (yk lw.1 gm rfl).1 h'.lo,yB h'.lo S.2.size,h.ty,h'.kf.row S.2 hc (by decide),λb hr=>⟨(h.rs b hr).1,Ap (h'.rs b hr).2 S.2 (Br hc (h'.rs b hr).2 (by decide))⟩⟩
def Ac.cs(c:Ac):Array Value:= #[.int .i64 c.k,.int .i64 c.e,.int .i64 c.a,.int .i64 c.b,.int .i64 c.c,.string c.nm]
abbrev SC(lo n:Nat)(call:Ac)(w W:World)(m i e c:Value)(k:AO):Prop:=Eb 55 call.cs [n+2] lo n (n+1) w W m i e c k
theorem SC.start{lo:Nat}{w:World}{m i e c:Value}{k:AO}(h:Da lo w m i e c k)(al:lo<=w.heap.size)(call:Ac):
 SC lo w.heap.size call w (((w.alloc (.cells #[m,i,e,c] 28)).alloc (.cells call.cs 55)).alloc (.cells #[.slice none 0 0,.slice none 0 0,.slice none 0 0,.slice none 0 0] 28)) m i e c k:=by
 obtain⟨N0,N1,av,ds⟩:=Jz w (.cells #[m,i,e,c] 28) (.cells call.cs 55);generalize(w.alloc (.cells #[m,i,e,c] 28)).alloc (.cells call.cs 55)=W at*;obtain⟨N2,bY⟩:=Dd W (.cells #[.slice none 0 0,.slice none 0 0,.slice none 0 0,.slice none 0 0] 28);have Z:=av.trans (bY.mono av.size);rw[ds] at N2;refine⟨⟨AB N0 bY,al,h.below Z⟩,AB N1 bY,Z.mono al,yB al Z.size,by decide,Yl.below (λ_ _ _ _=>rfl) Z,λb hr=>?_⟩;rw[wX] at hr;subst hr;exact⟨by omega,N2⟩
def ch(m i e c:Value):Prop:=∃am nm cm ai ni ci ae ne ce ac nc cc,m=.slice am nm cm/\i=.slice ai ni ci/\e=.slice ae ne ce/\c=.slice ac nc cc
def LL(lo:Nat)(w:World)(res:Mh)(r:Ending)(w':World):Prop:=∃m i e c,r=.returned (.tuple #[.agg #[m,i,e,c],.int .i64 res.2.1,.int .i64 res.2.2])/\ch m i e c/\(res.2.2=0->Da lo w' m i e c res.1)/\Below lo w w'/\(∀(b:Nat)(cu:Array Value),w.heap[b]?=some (.cells cu 28 (0,0))->w'.heap[b]?=w.heap[b]?)
section
variable {T:Nat} {cs:Array Value} {h2:List Nat} {lo g b0 b:Nat} {w W W':World} {m i e c:Value} {k:AO}
theorem Eb.ys6{v0 v1 v2 v3 v4 v5:Value}(h:Eb T #[v0,v1,v2,v3,v4,v5] h2 lo g b0 w W m i e c k):W.cell? ⟨b0,0,none⟩=some v0/\W.cell? ⟨b0,1,none⟩=some v1/\W.cell? ⟨b0,2,none⟩=some v2/\W.cell? ⟨b0,3,none⟩=some v3/\W.cell? ⟨b0,4,none⟩=some v4/\W.cell? ⟨b0,5,none⟩=some v5:=Jl h.yK
theorem Eb.K(h:Eb T cs h2 lo g b0 w W m i e c k):Mu W m i e c k:=h.yI.2.2.rd
theorem Eb.zQ(h:Eb T cs h2 lo g b0 w W m i e c k):ch m i e c:=by obtain⟨h1,R,h3,h4⟩:=h.K;obtain⟨am,cm,rfl,_⟩:=h1.open;obtain⟨ai,ci,rfl,_,_⟩:=R.shape;obtain⟨ae,ce,rfl,_⟩:=h3.open;obtain⟨ac,cc,rfl,_,_⟩:=h4.shape;exact⟨_,_,_,_,_,_,_,_,_,_,_,_,rfl,rfl,rfl,rfl⟩
theorem Eb.ret(h:Eb T cs [b] lo w.heap.size b0 w W m i e c k)(al:lo<=b)(g5:w.heap.size<=b){v code:Int}{res:Mh}(hr:res=(k,v,code)):
 ((((W.setCell ⟨b,0,none⟩ m).setCell ⟨b,1,none⟩ i).setCell ⟨b,2,none⟩ e).setCell ⟨b,3,none⟩ c).heap[b]?=some (.cells #[m,i,e,c] 28 (0,0))/\
 LL lo w res (.returned (.tuple #[.agg #[m,i,e,c],.int .i64 v,.int .i64 code])) ((((W.setCell ⟨b,0,none⟩ m).setCell ⟨b,1,none⟩ i).setCell ⟨b,2,none⟩ e).setCell ⟨b,3,none⟩ c):=by
 obtain⟨ey,hB⟩:=h.rs b (wX.2 rfl);subst hr;have a6:=An (An (An (Aq W b 0 m) 1 i) 2 e) 3 c;obtain⟨⟨E,o1⟩,o2,⟨ps,o3⟩,o4⟩:=h.yI.2.2;exact⟨Cx hB,m,i,e,c,rfl,h.zQ,λ_=>⟨⟨E,o1.yL a6 hB⟩,o2.yL a6 hB,⟨ps,o3.yL a6 hB⟩,o4.yL a6 hB⟩,(((h.bel.setCell al _).setCell al _).setCell al _).setCell al _,λq cu hq=>(Ap ((h.kf q cu (by have:=AW hq;omega) hq).trans hq) (An (An (An (Aq W b 0 m) 1 i) 2 e) 3 c) (by have:=AW hq;omega)).trans hq.symm⟩
theorem Eb.bad(h:Eb T cs [b] lo w.heap.size b0 w W m i e c k)(al:lo<=b)(g5:w.heap.size<=b){v code:Int}{res:Mh}{k':AO}(hr:res=(k',v,code))(hc:code≠0):
 ((((W.setCell ⟨b,0,none⟩ m).setCell ⟨b,1,none⟩ i).setCell ⟨b,2,none⟩ e).setCell ⟨b,3,none⟩ c).heap[b]?=some (.cells #[m,i,e,c] 28 (0,0))/\
 LL lo w res (.returned (.tuple #[.agg #[m,i,e,c],.int .i64 v,.int .i64 code])) ((((W.setCell ⟨b,0,none⟩ m).setCell ⟨b,1,none⟩ i).setCell ⟨b,2,none⟩ e).setCell ⟨b,3,none⟩ c):=by
 obtain⟨ey,hB⟩:=h.rs b (wX.2 rfl);subst hr;exact⟨Cx hB,m,i,e,c,rfl,h.zQ,λh=>absurd h hc,(((h.bel.setCell al _).setCell al _).setCell al _).setCell al _,λq cu hq=>(Ap ((h.kf q cu (by have:=AW hq;omega) hq).trans hq) (An (An (An (Aq W b 0 m) 1 i) 2 e) 3 c) (by have:=AW hq;omega)).trans hq.symm⟩
theorem Eb.zs(h:Eb T cs [b] lo g b0 w W m i e c k):(W.cell? ⟨b,0,none⟩=some (.slice none 0 0)/\W.cell? ⟨b,1,none⟩=some (.slice none 0 0)/\W.cell? ⟨b,2,none⟩=some (.slice none 0 0)/\W.cell? ⟨b,3,none⟩=some (.slice none 0 0))/\∀q,W.frozen? ⟨b,q,none⟩=false:=
 have hB:=(h.rs b (wX.2 rfl)).2
 ⟨AE hB,AK hB⟩
def cK(W:World)(lo g b:Nat)(m i e c:Value)(w:World)(res:Mh)(v code:Int):Prop:=(W.cell? ⟨g,0,none⟩=some m/\W.cell? ⟨g,1,none⟩=some i/\W.cell? ⟨g,2,none⟩=some e/\W.cell? ⟨g,3,none⟩=some c)/\((W.cell? ⟨b,0,none⟩=some (.slice none 0 0)/\W.cell? ⟨b,1,none⟩=some (.slice none 0 0)/\W.cell? ⟨b,2,none⟩=some (.slice none 0 0)/\W.cell? ⟨b,3,none⟩=some (.slice none 0 0))/\∀q,W.frozen? ⟨b,q,none⟩=false)/\
 Hid (((((W.setCell ⟨b,0,none⟩ m).setCell ⟨b,1,none⟩ i).setCell ⟨b,2,none⟩ e).setCell ⟨b,3,none⟩ c).cell? ⟨b,0,none⟩=some m/\((((W.setCell ⟨b,0,none⟩ m).setCell ⟨b,1,none⟩ i).setCell ⟨b,2,none⟩ e).setCell ⟨b,3,none⟩ c).cell? ⟨b,1,none⟩=some i/\((((W.setCell ⟨b,0,none⟩ m).setCell ⟨b,1,none⟩ i).setCell ⟨b,2,none⟩ e).setCell ⟨b,3,none⟩ c).cell? ⟨b,2,none⟩=some e/\((((W.setCell ⟨b,0,none⟩ m).setCell ⟨b,1,none⟩ i).setCell ⟨b,2,none⟩ e).setCell ⟨b,3,none⟩ c).cell? ⟨b,3,none⟩=some c)/\
 Hid (LL lo w res (.returned (.tuple #[.agg #[m,i,e,c],.int .i64 v,.int .i64 code])) ((((W.setCell ⟨b,0,none⟩ m).setCell ⟨b,1,none⟩ i).setCell ⟨b,2,none⟩ e).setCell ⟨b,3,none⟩ c))
theorem Eb.fin(h:Eb T cs [w.heap.size+2] lo w.heap.size b0 w W m i e c k)(al:lo<=w.heap.size){v code:Int}{res:Mh}(hr:res=(k,v,code)):cK W lo w.heap.size (w.heap.size+2) m i e c w res v code:=
 have⟨h1,R⟩:=h.ret (yB al (wv _ _)) (wv _ _) hr
 ⟨h.xs,h.zs,AA (AE h1),AA R⟩
theorem Eb.yH(h:Eb T cs [w.heap.size+2] lo w.heap.size b0 w W m i e c k)(al:lo<=w.heap.size){v code:Int}{res:Mh}{k':AO}(hr:res=(k',v,code))(hc:code≠0):cK W lo w.heap.size (w.heap.size+2) m i e c w res v code:=
 have⟨h1,R⟩:=h.bad (yB al (wv _ _)) (wv _ _) hr hc
 ⟨h.xs,h.zs,AA (AE h1),AA R⟩
end
theorem U9{lo:Nat}{m:Value}{k:AO}{w:World}(h:Da lo w m iv ev cv k)(al:lo<=w.heap.size)(hk:DQ k)(call:Ac)(he:0<=call.e/\call.e<3)(R:call.k=2):
 Calls prog 172 #[.agg #[m,iv,ev,cv],.agg call.cs] w (LL lo w (Ae k call)):=by
 have bD:=SC.start h al call;have HP:=AA (Vw (k:=k) R);have FZ:=AA (λhz=>Jp (k:=k) (c:=call) (kind:=1) hz);obtain⟨am,dr,cm,ai,ni,ci,ae,dN,ce,ac,nc,cc,rfl,rfl,rfl,rfl⟩:=bD.zQ;have S0:=AA bD;obtain⟨kk,e,a,b,c,nm⟩:=call;simp only[Ac.cs] at S0 HP FZ ⊢;have A:=AA hk;have CF:=AA (λW (h:Mu W (.slice am dr cm) (.slice ai ni ci) (.slice ae dN ce) (.slice ac nc cc) k)=>Ks _ _ _ _ k kk e a b c nm 1 W h hk he (.inr rfl));obtain⟨H,N,X,D⟩:=S0.out.xs;obtain⟨y0,y1,y2,y3,y4,y5⟩:=S0.out.ys6;generalize hfc:CJ k ⟨kk,e,a,b,c,nm⟩ 1=fc at*;have Hn:Hid (w.heap.size=w.heap.size):=AA rfl;clear h R bD hfc he hk;generalize hW0:((w.alloc _).alloc _).alloc _=W0 at*;go_in;go_wp2_with fail;refine(CF.out _ S0.out.K).mono ?_;rintro r w1 ⟨rfl,bY⟩;have S1:=AA (S0.out.below bY);clear H N X D y0 y1 y2 y3 y4 y5 bY CF
 by_cases ef:fc=0
 .subst ef
  obtain⟨dx,g3,hm,iL,_⟩:=FZ.out rfl;have ab:=AZ.1 dx;obtain⟨z,rfl⟩:∃n:Nat,a=(n:Int):=⟨a.toNat,by omega⟩
  have cr:z<12:=by omega
  have jt:(zS k.zZ z).k=1:=iL (by decide);have de:=(Ar A.out).2.1;have bA:=AA (show Ae k ⟨kk,e,(z:Int),b,c,nm⟩=if(zS k.zZ z).r≠0 then(k,0,2) else({k with zZ:=k.zZ.set z AV.zero},0,0) by rw[HP.out];rfl);obtain⟨H,N,X,D⟩:=S1.out.xs;obtain⟨y0,y1,y2,y3,y4,y5⟩:=S1.out.ys6
  by_cases er:(zS k.zZ z).r=0
  focus
   have CG:=AA (λW hi=>Qk (.slice ai ni ci) k.zZ z W hi de cr jt er)
   have a0:=AA (show Ae k ⟨kk,e,(z:Int),b,c,nm⟩=({k with zZ:=k.zZ.set z AV.zero},0,0) by rw[bA.out,if_neg (by simp[er])]);clear dx g3 hm iL jt er de FZ HP bA ab;go_wp2_with fail;refine(CG.out _ S1.out.K.2.1).mono ?_;rintro r w2 ⟨v',rfl,hO,az⟩;clear H N X D y0 y1 y2 y3 y4 y5;have S2:=AA (S1.out.zm az hO);have iX:=AK (S1.out.below az).yI.1;have lm:=(S1.out.below az).xs.2.1;obtain⟨a9,c9,e9,_,_⟩:=hO.rd.shape;generalize wO _=n9 at e9;subst e9;clear hO az;generalize hW9:w2.setCell _ _=W9 at S2;obtain⟨⟨H,N,X,D⟩,⟨⟨z0,z1,z2,z3⟩,bC⟩,HE,HR⟩:=S2.out.fin al (v:=0) (code:=0) (a0.out)
  rotate_left
  focus
   have CG:=AA (λW hi=>Rp (.slice ai ni ci) k.zZ z W hi de cr jt er)
   have a0:=AA (show Ae k ⟨kk,e,(z:Int),b,c,nm⟩=(k,0,2) by rw[bA.out,if_pos er]);clear dx g3 hm iL jt er de FZ HP bA ab;go_wp2_with fail;refine(CG.out _ S1.out.K.2.1).mono ?_;rintro r w2 ⟨v',rfl,az⟩;have S2:=AA (S1.out.below az);clear H N X D y0 y1 y2 y3 y4 y5 az;obtain⟨⟨H,N,X,D⟩,⟨⟨z0,z1,z2,z3⟩,bC⟩,HE,HR⟩:=S2.out.yH al (v:=0) (code:=2) (a0.out) (by decide)
  rotate_left
  all_goals
   go_wp2_with ((try simp only[xL,Exit.then]);with_reducible refine yr ?_ rfl HR.out;obtain⟨E0,E1,E2,E3⟩:=HE.out;simp[results,rU,go_sem,E0,E1,E2,E3])
 .have t1:(fc !=0)=true:=by simp[ef]
  have hc:=AA ef;have a0:=AA (show Ae k ⟨kk,e,a,b,c,nm⟩=(k,0,fc) by rw[HP.out,if_neg ef]);clear ef FZ HP;obtain⟨⟨H,N,X,D⟩,⟨⟨z0,z1,z2,z3⟩,bC⟩,HE,HR⟩:=S1.out.yH al (v:=0) (code:=fc) (a0.out) (hc.out);go_wp2_with ((try simp only[xL,Exit.then]);with_reducible refine yr ?_ rfl HR.out;obtain⟨E0,E1,E2,E3⟩:=HE.out;simp[results,rU,go_sem,E0,E1,E2,E3])
theorem VA{lo:Nat}{m:Value}{k:AO}{w:World}(h:Da lo w m iv ev cv k)(al:lo<=w.heap.size)(hk:DQ k)(call:Ac)(he:0<=call.e/\call.e<3)(R:call.k=3):
 Calls prog 173 #[.agg #[m,iv,ev,cv],.agg call.cs] w (LL lo w (Ae k call)):=by
 have bD:=SC.start h al call;have HP:=AA (Vy (k:=k) R);have FZ:=AA (λhz=>Jp (k:=k) (c:=call) (kind:=1) hz);have db:=(Ar hk).1;obtain⟨gm,a5,rfl,_⟩:=Eb.mems bD db;obtain⟨am,dr,cm,ai,ni,ci,ae,dN,ce,ac,nc,cc,em,rfl,rfl,rfl⟩:=bD.zQ;clear em;have S0:=AA bD;obtain⟨kk,e,a,b,c,nm⟩:=call;simp only[Ac.cs] at S0 HP FZ ⊢;have A:=AA hk;have CF:=AA (λW (h:Mu W (.slice (some ⟨gm,0,none⟩) 12 a5) (.slice ai ni ci) (.slice ae dN ce) (.slice ac nc cc) k)=>Ks _ _ _ _ k kk e a b c nm 1 W h hk he (.inr rfl));obtain⟨H,N,X,D⟩:=S0.out.xs;obtain⟨y0,y1,y2,y3,y4,y5⟩:=S0.out.ys6;generalize hfc:CJ k ⟨kk,e,a,b,c,nm⟩ 1=fc at*;have es:=AA db;clear h R bD hfc he hk db;generalize hW0:((w.alloc _).alloc _).alloc _=W0 at*;go_in;go_wp2_with fail;refine(CF.out _ S0.out.K).mono ?_;rintro r w1 ⟨rfl,bY⟩;have S1:=AA (S0.out.below bY);clear H N X D y0 y1 y2 y3 y4 y5 bY CF
 by_cases ef:fc=0
 .subst ef
  obtain⟨dx,g3,hm,iL,_⟩:=FZ.out rfl;have ab:=AZ.1 dx;obtain⟨z,rfl⟩:∃n:Nat,a=(n:Int):=⟨a.toNat,by omega⟩
  have cr:z<12:=by omega
  have eY:(z:Int)<12:=by omega
  have bA:=AA (show Ae k ⟨kk,e,(z:Int),b,c,nm⟩=if BZ b 0 3=false∨Dk c=false then(k,0,3) else({k with mem:=Bz k.mem z b.toNat c},0,0) by rw[HP.out];rfl);obtain⟨H,N,X,D⟩:=S1.out.xs;obtain⟨y0,y1,y2,y3,y4,y5⟩:=S1.out.ys6;clear dx g3 hm iL ab FZ HP;cases cg:BZ b 0 3
  .have a0:=AA (show Ae k ⟨kk,e,(z:Int),b,c,nm⟩=(k,0,3) by rw[bA.out,if_pos (.inl cg)])
   have gQ:=AA cg;clear cg bA;go_wp2_with fail;refine(C8 _ _ _ _).mono ?_;rintro r w2 ⟨rfl,rfl⟩;rw[gQ.out];clear H N X D y0 y1 y2 y3 y4 y5;obtain⟨⟨H,N,X,D⟩,⟨⟨z0,z1,z2,z3⟩,bC⟩,HE,HR⟩:=S1.out.yH al (v:=0) (code:=3) (a0.out) (by decide);go_wp2_with ((try simp only[xL,Exit.then]);with_reducible refine yr ?_ rfl HR.out;obtain⟨E0,E1,E2,E3⟩:=HE.out;simp[results,uR,go_sem,E0,E1,E2,E3])
  .cases hA:Dk c
   .have a0:=AA (show Ae k ⟨kk,e,(z:Int),b,c,nm⟩=(k,0,3) by rw[bA.out,if_pos (.inr hA)])
    have gQ:=AA cg;have kP:=AA (show BZ c 0 9999=false from hA);clear cg bA hA;go_wp2_with fail;refine(C8 _ _ _ _).mono ?_;rintro r w2 ⟨rfl,rfl⟩;rw[gQ.out];go_wp2_with fail;refine(C8 _ _ _ _).mono ?_;rintro r w2 ⟨rfl,rfl⟩;rw[kP.out];clear H N X D y0 y1 y2 y3 y4 y5;obtain⟨⟨H,N,X,D⟩,⟨⟨z0,z1,z2,z3⟩,bC⟩,HE,HR⟩:=S1.out.yH al (v:=0) (code:=3) (a0.out) (by decide);go_wp2_with ((try simp only[xL,Exit.then]);with_reducible refine yr ?_ rfl HR.out;obtain⟨E0,E1,E2,E3⟩:=HE.out;simp[results,uR,go_sem,E0,E1,E2,E3])
   .have a0:=AA (show Ae k ⟨kk,e,(z:Int),b,c,nm⟩=({k with mem:=Bz k.mem z b.toNat c},0,0) by rw[bA.out,if_neg (by simp[cg,hA])])
    have bb:=AZ.1 cg;obtain⟨bn,rfl⟩:∃n:Nat,b=(n:Int):=⟨b.toNat,by omega⟩
    have eB:bn<4:=by omega
    have ki:(bn:Int)<4:=by omega
    have gQ:=AA cg;have kP:=AA (show BZ c 0 9999=true from hA);obtain⟨gw,cN,x3,eW,gF,_⟩:=Eb.mrow S1.out es.out cr;obtain⟨bl,bk,_,_⟩:=S1.out.lts;have dt:gm<w1.heap.size:=yA _ _ x3;clear cg hA bb bA;go_wp2_with fail;refine(C8 _ _ _ _).mono ?_;rintro r w2 ⟨rfl,rfl⟩;rw[gQ.out];go_wp2_with fail;refine(C8 _ _ _ _).mono ?_;rintro r w2 ⟨rfl,rfl⟩;rw[kP.out];go_wp2_with fail;refine Aa 10 40 [.p w.heap.size 0,.s gm 12 a5,.p (w.heap.size+1) 2,.i ((z:Int)),.p gm z,.s gw 4 cN,.p (w.heap.size+1) 3,.i ((bn:Int)),.p (w.heap.size+1) 4,.i c] (λ_ _ _=>True) ?_ ?_
    .intro i hi o Y a O V J L HL A
     have bp:=bc L bl y2;have bK:=bc L bl y3;have cy:=bc L bl y4
     match i,hi with
     |0,_|2,_|6,_|8,_=>exact sP Y A V J
     |1,_=>exact sL Y A V J (hl:=F9 (bc L bk H))
     |3,_|7,_|9,_=>exact sL Y A V J (hl:=FT ‹_›)
     |4,_=>exact sI Y A V J (hr:=by clear J V A;go_simp)
     |5,_=>exact sL Y A V J (hl:=KU (bc L dt x3))
    .intro E O hR L
     have q5:(E 5)=.slice (some ⟨gw,0,none⟩) 4 cN:=BS hR 5;have q7:(E 7)=.int .i64 bn:=BS hR 7;have q9:(E 9)=.int .i64 c:=BS hR 9;clear hR;simp only[Ak,Ah,yC,yy,yz,yx,q5,q7,q9];simp;clear q5 q7 q9;have S2:=AA (S1.out.below L);obtain⟨kv,fd,D2,_,_,hC,Fr,_,_,_,hS⟩:=Eb.mrow S2.out es.out cr;have eD:=D2.symm.trans ((L.cell (p:=⟨gm,z,none⟩) dt).trans x3);cases eD;have D3:=hC bn eB;have S3:=AA (hS bn c eB);generalize hW9:O.setCell _ _=W9 at S3;clear H N X D y0 y1 y2 y3 y4 y5 x3 D2 hS L S1 hC;obtain⟨⟨H,N,X,D⟩,⟨⟨z0,z1,z2,z3⟩,bC⟩,HE,HR⟩:=S3.out.fin al (v:=0) (code:=0) (a0.out);go_wp2_with ((try simp only[xL,Exit.then]);with_reducible refine yr ?_ rfl HR.out;obtain⟨E0,E1,E2,E3⟩:=HE.out;simp[results,uR,go_sem,E0,E1,E2,E3])
 .have t1:(fc !=0)=true:=by simp[ef]
  have hc:=AA ef;have a0:=AA (show Ae k ⟨kk,e,a,b,c,nm⟩=(k,0,fc) by rw[HP.out,if_neg ef]);clear ef FZ HP;obtain⟨⟨H,N,X,D⟩,⟨⟨z0,z1,z2,z3⟩,bC⟩,HE,HR⟩:=S1.out.yH al (v:=0) (code:=fc) (a0.out) (hc.out);go_wp2_with ((try simp only[xL,Exit.then]);with_reducible refine yr ?_ rfl HR.out;obtain⟨E0,E1,E2,E3⟩:=HE.out;simp[results,uR,go_sem,E0,E1,E2,E3])
def FG(w:World)(b:Nat)(m i e c:Value):World:=(((w.setCell ⟨b,0,none⟩ m).setCell ⟨b,1,none⟩ i).setCell ⟨b,2,none⟩ e).setCell ⟨b,3,none⟩ c
def GA(W:World)(b:Nat)(m i e c:Value)(t:Bool)(ww:World):Prop:=match t with
 |false=>Below W.heap.size W ww
 |true=>∃wz,Below W.heap.size W wz/\Below wz.heap.size (FG wz b m i e c) ww
theorem GA.grow{W:World}{b:Nat}{m i e c:Value}{dc:World}(h:GA W b m i e c t ww)(Z:Below ww.heap.size ww dc):GA W b m i e c t dc:=by
 cases t
 .exact Below.trans h (Z.mono (Below.size h))
 .obtain⟨wz,h1,R⟩:=h
  exact⟨wz,h1,R.trans (Z.mono (by have:=R.size;simpa[FG] using this))⟩
theorem GA.cell{W:World}{b:Nat}{m i e c:Value}(h:GA W b m i e c t ww){g o:Nat}(hp:g<W.heap.size)(ey:g≠b):ww.cell? ⟨g,o,none⟩=W.cell? ⟨g,o,none⟩:=by
 cases t
 .exact uu (p:=⟨g,o,none⟩) h hp
 .obtain⟨wz,h1,R⟩:=h
  have hz:g<wz.heap.size:=xW hp h1.size;have a6:wz.grownBy (FG wz b m i e c) (some b):=An (An (An (Aq wz b 0 m) 1 i) 2 e) 3 c;exact(uu (p:=⟨g,o,none⟩) R hz).trans ((GL a6 hz (λe=>ey (yF e).symm)).trans (h1.cell (p:=⟨g,o,none⟩) hp))
theorem GI{w:World}{g T:Nat}{a b c:Value}(h:w.heap[g]?=some (.cells #[a,b,c] T (0,0))):w.cell? ⟨g,0,none⟩=some a/\w.cell? ⟨g,1,none⟩=some b/\w.cell? ⟨g,2,none⟩=some c:=
 ⟨ym _ _ 0 _ _ _ h,ym _ _ 1 _ _ _ h,ym _ _ 2 _ _ _ h⟩
theorem XF{m:List (List Int)}{root a fr:Nat}{wb:Bool}(h:Bq m root a=(0,fr,wb)):fr<12:=by
 unfold Bq at h
 split at h
 .split at h
  .next R=>cases h;exact Ec R
  .cases h
 .cases h
theorem Eb.yL{T:Nat}{cs:Array Value}{h2:List Nat}{lo g b0 q:Nat}{w W W':World}{m i e c:Value}{k:AO}(h:Eb T cs h2 lo g b0 w W m i e c k)(hT:T≠114){cu:Array Value}(hB:W.heap[q]?=some (.cells cu 114 (0,0)))(hq:lo<=q)(hg:W.grownBy W' (some q)):Eb T cs h2 lo g b0 w W' m i e c k:=by
 obtain⟨hK,al,⟨E,o1⟩,o2,⟨ps,o3⟩,o4⟩:=h.yI;exact⟨⟨Kn hK hg hB (by decide),al,⟨E,o1.yL hg hB⟩,o2.yL hg hB,⟨ps,o3.yL hg hB⟩,o4.yL hg hB⟩,Ap h.yK hg (Br hB h.yK hT.symm),AM h.bel hg hq h.lo,yB h.lo hg.size,h.ty,h.kf.row hg hB (by decide),λb hr=>⟨(h.rs b hr).1,Ap (h.rs b hr).2 hg (Br hB (h.rs b hr).2 (by decide))⟩⟩
theorem Eb.place{T:Nat}{cs:Array Value}{h2:List Nat}{lo g b0 q:Nat}{w W:World}{m i e c x y an:Value}{k:AO}(h:Eb T cs h2 lo g b0 w W m i e c k)(hT:T≠114)(hB:W.heap[q]?=some (.cells #[x,y,an] 114 (0,0)))(hq:lo<=q)(u v t:Value):
 Eb T cs h2 lo g b0 w (((W.setCell ⟨q,0,none⟩ u).setCell ⟨q,1,none⟩ v).setCell ⟨q,2,none⟩ t) m i e c k/\(((W.setCell ⟨q,0,none⟩ u).setCell ⟨q,1,none⟩ v).setCell ⟨q,2,none⟩ t).heap[q]?=some (.cells #[u,v,t] 114 (0,0)):=by
 refine⟨h.yL hT hB hq (An (An (Aq W q 0 u) 1 v) 2 t),?_⟩;have h1:=yq W q 0 _ 114 u hB;have R:=yq _ q 1 _ 114 v h1;have h3:=yq _ q 2 _ 114 t R;simpa using h3
theorem Eb.place2{T:Nat}{cs:Array Value}{h2:List Nat}{lo g b0 q:Nat}{w W:World}{m i e c x y an:Value}{k:AO}(h:Eb T cs h2 lo g b0 w W m i e c k)(hT:T≠114)(hB:W.heap[q]?=some (.cells #[x,y,an] 114 (0,0)))(hq:lo<=q)(u t:Value):
 Eb T cs h2 lo g b0 w ((W.setCell ⟨q,0,none⟩ u).setCell ⟨q,2,none⟩ t) m i e c k/\((W.setCell ⟨q,0,none⟩ u).setCell ⟨q,2,none⟩ t).heap[q]?=some (.cells #[u,y,t] 114 (0,0)):=by
 refine⟨h.yL hT hB hq (An (Aq W q 0 u) 2 t),?_⟩;have h1:=yq W q 0 _ 114 u hB;have h3:=yq _ q 2 _ 114 t h1;simpa using h3
theorem LL.below{lo:Nat}{w W W':World}{res:Mh}{r:Ending}(h:LL lo w res r W)(al:lo<=W.heap.size)(Z:Below W.heap.size W W'):LL lo w res r W':=by
 obtain⟨m,i,e,c,h1,hs,R,h3,h4⟩:=h;exact⟨m,i,e,c,h1,hs,λhc=>(R hc).below Z,h3.trans (Z.mono al),λb cu hB=>(Z.block b (AW ((h4 b cu hB).trans hB))).trans (h4 b cu hB)⟩
theorem QE(v:Value)(m:List (List Int))(root a:Nat)(w:World)(h:Bk w v m)(db:Bu m=true)(hr:root<12)(ha:a<64):
 Calls prog 133 #[v,.int .i64 root,.int .i64 a] w λe w'=>e=.returned (IK m root a)/\Below w.heap.size w w':=by
 obtain⟨q,c,rfl,hc,ez,H0⟩:=h.open;have hl:=(Ai.1 db).1;unfold maxLen at ez;rw[hl] at hc ⊢;obtain⟨b,bB,b2,jL,c2,rfl,Z,x3,az,D2⟩:=H0.word db hr (show a/16<4 by omega);have D':=((AI w (.cells #[.int .i64 0,.int .i64 0,.bool false] 114)).cell (p:=⟨b,bB+root,none⟩) Z).trans x3;have qk:=((AI w (.cells #[.int .i64 0,.int .i64 0,.bool false] 114)).cell (p:=⟨b2,jL+a/16,none⟩) az).trans D2;have gu:=Hz db hr (show a/16<4 by omega);have E1:=AA (λW=>DB (As m root (a/16)) W (by omega));have hB:=AI w (.cells #[.int .i64 0,.int .i64 0,.bool false] 114);cases dT:Bm (As m root (a/16))
 .have S:=AA (show IK m root a=.tuple #[Ed,.int .i64 1] by simp[IK,Bq,dT])
  have V1:=AA (Eu dT);clear H0 x3 D2 dT gu Z az;go_in;go_wp2_with (refine(E1.out _).mono ?_;rintro e w' ⟨rfl,rfl⟩;rw[V1.out]);exact yr (v:=.tuple #[Ed,.int .i64 1]) (by simp[results,uQ,go_sem,Ed]) rfl ⟨by rw[S.out],hB⟩
 .have ht:BC (As m root (a/16))<12:=Ec dT
  have V1:=AA (Ej dT);obtain⟨b',gp,b3,jK,c3,e,jx,D3,cg,D4⟩:=H0.word db ht (show a/4%4<4 by omega);cases e;have qh:=((AI w (.cells #[.int .i64 0,.int .i64 0,.bool false] 114)).cell (p:=⟨b,bB+BC (As m root (a/16)),none⟩) Z).trans D3;have qf:=((AI w (.cells #[.int .i64 0,.int .i64 0,.bool false] 114)).cell (p:=⟨b3,jK+a/4%4,none⟩) cg).trans D4;have lC:=Hz db ht (show a/4%4<4 by omega);have E2:=AA (λW=>DB (As m (BC (As m root (a/16))) (a/4%4)) W (by omega));cases g7:Bm (As m (BC (As m root (a/16))) (a/4%4))
  .have S:=AA (show IK m root a=.tuple #[Ed,.int .i64 2] by simp[IK,Bq,dT,g7])
   have V2:=AA (Eu g7);clear H0 x3 D2 D3 D4 dT g7 gu lC Z az cg jx;go_in;go_wp2_with fail;refine(E1.out _).mono ?_;rintro e w' ⟨rfl,rfl⟩;rw[V1.out];go_wp2_with (refine(E2.out _).mono ?_;rintro e w' ⟨rfl,rfl⟩;rw[V2.out]);exact yr (v:=.tuple #[Ed,.int .i64 2]) (by simp[results,uQ,go_sem,Ed]) rfl ⟨by rw[S.out],hB⟩
  .have S:=AA (show IK m root a=.tuple #[.agg #[.int .i64 ((BC (As m (BC (As m root (a/16))) (a/4%4)):Nat):Int),.int .i64 ((a:Int)%4),.bool (Ko (As m root (a/16))&&Ko (As m (BC (As m root (a/16))) (a/4%4)))],.int .i64 0] by simp[IK,Bq,dT,g7,Kz])
   have V2:=AA (Ej g7);generalize BC (As m (BC (As m root (a/16))) (a/4%4))=fr at S V2;generalize Ko (As m (BC (As m root (a/16))) (a/4%4))=wb at S V2;generalize Ko (As m root (a/16))=wa at S V1;cases wa
   all_goals
    clear H0 x3 D2 D3 D4 dT g7 gu lC Z az cg jx;go_in;go_wp2_with fail;refine(E1.out _).mono ?_;rintro e w' ⟨rfl,rfl⟩;rw[V1.out];go_wp2_with fail;refine(E2.out _).mono ?_;rintro e w' ⟨rfl,rfl⟩;rw[V2.out];go_wp2_with fail
   .exact yr (v:=.tuple #[.agg #[.int .i64 fr,.int .i64 ((a:Int)%4),.bool false],.int .i64 0]) (by simp[results,uQ,go_sem]) rfl ⟨by rw[S.out,Bool.false_and],AI _ _⟩
   .exact yr (v:=.tuple #[.agg #[.int .i64 fr,.int .i64 ((a:Int)%4),.bool wb],.int .i64 0]) (by simp[results,uQ,go_sem]) rfl ⟨by rw[S.out,wt],AI _ _⟩
theorem MT{P:Program}{f:FuncId}{dW:Array Value}{w:World}{v:Ending}(h:Calls P f dW w λe w'=>e=v/\∃n,w'=w.drewN n):Calls P f dW w λe w'=>e=v/\Below w.heap.size w w':=by refine h.mono ?_;rintro e w' ⟨h1,n,rfl⟩;exact⟨h1,Av (yD _ _) n⟩
theorem On(m i e c:Value)(k:AO)(w:World)(h:Bk w m k.mem)(hm:Bu k.mem=true)(hI:Bb w i k.zZ)(de:BP k.zZ=true)(hE:F7 w e k.zX)(el:k.zX.length=3)(hr:∀j,j<3->(AJ k.zX j).root<12):
 Calls prog 76 #[.agg #[m,i,e,c]] w λr w'=>r=.returned (.bool ((yC 12).all (HZ k)))/\Below w.heap.size w w':=by
 obtain⟨N0,av⟩:=Dd w (.cells #[m,i,e,c] 28);replace h:=h.below av;replace hI:=BK.below hI av;obtain⟨ae,ce,rfl,_,_,fj⟩:=(hE.below av).open;have g4:=(A1.1 de).1;have C:=AA (Tn _ _ k.mem k.zZ _ h hm hI g4);obtain⟨ai,ci,rfl,_,_,eQ⟩:=BK.open A0 (by decide) hI;obtain⟨H,N,_,_⟩:=AE N0;obtain⟨am,cm,rfl,_⟩:=h.open;have Hl:=AA g4;have eP:=AA el;clear g4 el;go_in;go_wp2_with fail;generalize w.alloc _=W0 at*;have HN:=AA N0;have HH:=AA eQ;have HE:=AA fj;have Hm:=AA hm;have Hr:=AA hr;have js:=AW N0;have dp:=AA av;clear h hI hm de N0 eQ fj hE hr;refine C.out.mono ?_;rintro r w1 ⟨v',rfl,hO,bY⟩;rw[<-Sw] at hO;obtain⟨gr,dM,rfl,pF,nz⟩:=Jd hO (by rw[EA];omega);have oh:Hid (AF W0.heap.size w1 (.slice (some ⟨gr,0,none⟩) 12 dM) (Es k 0)):=AA (by have:=hO;rw[EA] at this;exact this);rw[EA];have fk:=AA bY;clear hO nz H N C bY av;go_wp2_with fail;go_loopw [4] (λs4 wr=>∃j:Nat,j<=3/\s4=.int .i64 j/\AF W0.heap.size wr (.slice (some ⟨gr,0,none⟩) 12 dM) (Es k j)/\Below W0.heap.size W0 wr) (λs4 _=>3 - (intOf s4).toNat)
 exact⟨0,yg _,rfl,oh.out,fk.out⟩
 obtain⟨j,hj,rfl,hO,br⟩:=hrel;have HO:=AA hO;have HB:=AA br;obtain⟨_,N,X,_⟩:=AE (AB HN.out br);have dO:w.heap.size<wr.heap.size:=xW js br.size
 by_cases bf:j<3
 .have dd:j<k.zX.length:=by have:=eP.out;omega
  have dm:(j:Int)<k.zX.length:=by omega
  obtain⟨b,bB,ua,uc,rfl,kj,D0,D1,RR⟩:=(HE.out.below br) j dd;clear hO br RR N kj D0
  by_cases hn:(AJ k.zX j).root<0
  .have S:=AA (XW dd hn)
   have t0:¬(0:Int)<=(AJ k.zX j).root:=by omega
   clear hn;go_wp2_with fail;go_roundw;exact⟨j+1,by omega,by go_num,by rw[S.out];exact HO.out,HB.out⟩;simp[intOf];omega
  .obtain⟨rn,hrn⟩:∃n:Nat,(AJ k.zX j).root=(n:Int):=⟨(AJ k.zX j).root.toNat,by omega⟩
   have cz:rn<12:=by have:=Hr.out j bf;omega
   have S:=AA (VV dd hrn cz);have pR:=Qe Hm.out (j:=j) eP.out cz;have eH:wr.ownsRow W0.heap.size 3 1 (.slice (some ⟨gr,0,none⟩) 12 dM) 12 ((Es k j).map (xY .i64)):=by have:=HO.out;unfold AF at this;rwa [EA] at this
   have DC:=(eH.cellAt rn (by omega)).trans (Fh (xs:=Es k j) (by rw[EA];exact cz));have jd:=AA eH;rw[hrn] at D1;have t0:(0:Int)<=(rn:Int):=by omega
   have lH:(rn:Int)<12:=by omega
   generalize nth (Es k j) rn=cn at*;obtain⟨nc,hnc⟩:∃nc:Int,cn+1=nc:=⟨_,rfl⟩
   have mj:=AA hnc;have Z:=yA _ _ D1;have a6:=yA _ _ DC;clear hn hrn eH hnc;go_wp2_with fail;refine Aa 17 58 [.s gr 12 dM,.p w.heap.size 2,.v (.slice (some ⟨b,bB,none⟩) k.zX.length ce),.i ((j:Int)),.p b (bB+j*2),.p b (bB+j*2+1),.i ((rn:Int)),.s gr 12 dM,.p w.heap.size 2,.v (.slice (some ⟨b,bB,none⟩) k.zX.length ce),.i ((j:Int)),.p b (bB+j*2),.p b (bB+j*2+1),.i ((rn:Int)),.p gr rn,.i cn,.i nc] (λ_ _ _=>True) ?_ ?_
   .intro i hi o Y a O V J L HL A
    have bt:=bc L dO X;have bp:=bc L Z D1;have bw:=bc L a6 DC
    match i,hi with
    |0,_|1,_|3,_|5,_|7,_|8,_|10,_|12,_=>exact sP Y A V J
    |2,_|9,_=>exact sL Y A V J (hl:=OL ‹_›)
    |4,_|11,_|14,_=>exact sI Y A V J (hr:=by clear J V A;go_simp)
    |6,_|13,_|15,_=>exact sL Y A V J (hl:=FT ‹_›)
    |16,_=>clear bt bp bw;obtain rfl:=yF Y;have gg:(a.tmps[40]?.getD undef)=.int .i64 cn:=Ba J 15;clear J V;refine yE ?_;go_simp;exact A.out _ _ (by show xY .i64 (wR.wrap (cn+1))=.int .i64 nc;rw[xA _ (by omega),mj.out]) (yD _ _)
    |_+17,hq=>omega
   .intro E O hR L
    have q0:(E 0)=.slice (some ⟨gr,0,none⟩) 12 dM:=BS hR 0;have q6:(E 6)=.int .i64 rn:=BS hR 6;have fm:(E 16)=.int .i64 nc:=BS hR 16;clear hR;simp only[Ak,Ah,yC,yy,yz,yx,q0,q6,fm];simp;clear q0 q6 fm;have O3:=Bx jd.out L;have Fr:=O3.frozenAt rn;have C2:=(L.cell (p:=⟨gr,rn,none⟩) a6).trans DC;have S2:=AA (O3.stored rn (.int .i64 nc));have j7:=AA (yk O3 gr rfl).1;have ed:=AA (HB.out.trans (L.mono HB.out.size));clear D1 DC L O3 X;go_wp2_with fail;go_roundw
    case rel=>refine⟨j+1,by omega,by go_num,?_,AM ed.out S2.out.2 j7.out ed.out.size⟩;rw[S.out,mj.out];unfold AF;rw[List.length_set,EA,List.map_set];exact S2.out.1
    case measure=>simp[intOf];omega
 .obtain rfl:j=3:=by omega
  have dm:¬((3:Nat):Int)<k.zX.length:=by have:=eP.out;omega
  have nP:¬(3:Int)<k.zX.length:=by have:=eP.out;omega
  obtain⟨w2,rfl⟩:∃w2:World,w2=wr:=⟨_,rfl⟩
  clear hO br N;go_wp2_with fail;clear X;go_loopw [5] (λs5 wr=>∃f:Nat,f<=12/\s5=.int .i64 f/\(∀j,j<f->HZ k j=true)/\AF W0.heap.size wr (.slice (some ⟨gr,0,none⟩) 12 dM) (Es k 3)/\Below W0.heap.size W0 wr) (λs5 _=>12 - (intOf s5).toNat)
  exact⟨0,yg _,rfl,λj hj=>absurd hj (xN _),HO.out,HB.out⟩
  clear HO HB;obtain⟨f,hf,rfl,ay,hO,br⟩:=hrel;have bm:=AA ay;have HO:=AA hO;have HB:=AA br;clear ay
  by_cases fO:f<12
  .have lN:(f:Int)<12:=by omega
   have pP:(f:Int)<k.zZ.length:=by have:=Hl.out;omega
   obtain⟨_,N,_,_⟩:=AE (AB HN.out br);have dT:w.heap.size<wr.heap.size:=xW js br.size;obtain⟨bi,cP,rfl,gJ,_,_,D2⟩:=(HH.out.below br).zP (show f<k.zZ.length by rw[Hl.out];exact fO);have iS:=yA _ _ D2;have eH:wr.ownsRow W0.heap.size 3 1 (.slice (some ⟨gr,0,none⟩) 12 dM) 12 ((Es k 3).map (xY .i64)):=by have:=hO;unfold AF at this;rwa [EA] at this
   have DC:=(eH.cellAt f (by omega)).trans (Fh (xs:=Es k 3) (by rw[EA];exact fO));have a6:=yA _ _ DC;have RL:=Qd (k:=k) eP.out fO;clear hO br eH gJ dO;have dO:=dT;go_wp2_with fail;refine Aa 10 58 [.p w.heap.size 1,.v (.slice (some ⟨bi,cP,none⟩) k.zZ.length ci),.i ((f:Int)),.p bi (cP+f*3),.p bi (cP+f*3+2),.i ((zS k.zZ f).r),.s gr 12 dM,.i ((f:Int)),.p gr f,.i (nth (Es k 3) f)] (λ_ _ _=>True) ?_ ?_
   .intro i hi o Y a O V J L HL A
    have bp:=bc L iS D2;have bw:=bc L a6 DC
    match i,hi with
    |0,_|2,_|4,_|6,_|7,_=>exact sP Y A V J
    |1,_=>exact sL Y A V J (hl:=GY (bc L dO N))
    |3,_|8,_=>exact sI Y A V J (hr:=by clear J V A;go_simp)
    |5,_|9,_=>exact sL Y A V J (hl:=FT ‹_›)
   .intro E O hR L
    have q5:(E 5)=.int .i64 ((zS k.zZ f).r):=BS hR 5;have q9:(E 9)=.int .i64 (nth (Es k 3) f):=BS hR 9;clear hR;simp only[Ak,Ah,yC,yy,yz,yx,q5,q9];simp;clear q5 q9;have dz:=HB.out.trans (L.mono HB.out.size);have pd:=AA (AF.below HO.out L);clear L N D2 DC;cases ey:((zS k.zZ f).r !=nth (Es k 3) f)
    .have S:=AA (show HZ k f=true by rw[RL];simpa using ey)
     clear RL;go_wp2_with fail;go_roundw;exact⟨f+1,by omega,by go_num,Al bm.out S.out,pd.out,dz⟩;simp[intOf];omega
    .have S:=AA (show(yC 12).all (HZ k)=false from wP.2 ⟨f,xS.2 fO,by rw[RL];simpa using ey⟩)
     clear RL;go_wp2_with fail;go_ret;exact⟨AH S.out.symm,dp.out.trans (dz.mono dp.out.size)⟩
  .have ek:f=12:=by omega
   have ay:=bm.out;rw[ek] at ay;have S:=AA (show(yC 12).all (HZ k)=true from xZ.2 λj hj=>ay j (xS.1 hj));clear bm ay;go_wp2_with fail;go_ret;exact⟨AH S.out.symm,dp.out.trans (br.mono dp.out.size)⟩
theorem Kp{l:List Eh}{j:Nat}(h:j<l.length):l[j]?=some (AJ l j):=by unfold AJ;exact A2 h
theorem Om(m i e c:Value)(k:AO)(w:World)(h:Bk w m k.mem)(hm:Bu k.mem=true)(hI:Bb w i k.zZ)(de:BP k.zZ=true)(hE:F7 w e k.zX)(iw:∀j,j<k.zX.length->Db (AJ k.zX j).zT):
 Calls prog 74 #[.agg #[m,i,e,c]] w λr w'=>r=.returned (.bool (JH k))/\Below w.heap.size w w':=by
 obtain⟨N0,av⟩:=Dd w (.cells #[m,i,e,c] 28);replace h:=h.below av;replace hI:=BK.below hI av;obtain⟨ae,ce,rfl,nZ,iQ,fj⟩:=(hE.below av).open;unfold maxLen at iQ;have g4:=(A1.1 de).1;have lE:=Cg de;have HI:=AA hI;have HR:=AA h;obtain⟨ai,ci,rfl,_,_,eQ⟩:=BK.open A0 (by decide) hI;obtain⟨am,cm,rfl,_⟩:=h.open;have ES:JH k=(k.zX.all (ED k)&&decide (k.zX.length=3)):=rfl;rw[ES];have Hl:=AA g4;clear g4;go_in;go_wp2_with fail;generalize w.alloc _=W0 at*;have HN:=AA N0;have HH:=AA eQ;have HE:=AA fj;have Hm:=AA hm;have Hs:=AA iw;have mg:=AA lE;have js:=AW N0;have dp:=AA av;clear h hI hm de N0 eQ fj hE iw lE av ES;go_loopw [3] (λs3 wr=>∃j:Nat,j<=k.zX.length/\s3=.int .i64 j/\(∀j',j'<j->ED k (AJ k.zX j')=true)/\Below W0.heap.size W0 wr) (λs3 _=>k.zX.length - (intOf s3).toNat)
 exact⟨0,yg _,rfl,λj hj=>absurd hj (xN _),yD _ _⟩
 obtain⟨j,hj,rfl,ay,br⟩:=hrel;have bm:=AA ay;clear ay;obtain⟨_,_,X,_⟩:=AE (AB HN.out br)
 by_cases bf:j<k.zX.length
 .have dm:(j:Int)<k.zX.length:=by omega
  obtain⟨b,bB,ua,uc,rfl,fx,D0,D1,RR⟩:=(HE.out.below br) j bf;obtain⟨x1,eB⟩:=Dd wr (.cells #[.slice ua (AJ k.zX j).zT.length uc,.int .i64 (AJ k.zX j).root] 74);go_wp2_with fail;generalize wr.alloc _=wa at*;have fA:=br.trans (eB.mono br.size);have y0:wa.cell? ⟨wr.heap.size,0,none⟩=some (.slice ua (AJ k.zX j).zT.length uc):=ym _ _ 0 _ _ _ x1;have y1:wa.cell? ⟨wr.heap.size,1,none⟩=some (.int .i64 (AJ k.zX j).root):=ym _ _ 1 _ _ _ x1;have fP:=AW x1;have dO:=xW js fA.size;obtain⟨H,N,_,_⟩:=AE (AB HN.out fA);have dl:=AA fA;have kR:=AA (BK.below RR eB);clear D0 D1 x1 eB br fA RR X fx;have ie:=λW (hW:Below wa.heap.size wa W)=>MT (GV _ (AJ k.zX j).zT W (BK.below kR.out hW) (Hs.out j bf))
  have eu:ED k (AJ k.zX j)=(BW (AJ k.zX j).zT&&(decide ((AJ k.zX j).root= -1)||(BZ (AJ k.zX j).root 0 11&&decide ((zS k.zZ (AJ k.zX j).root.toNat).k=3)))&&BM k.zZ (Be k.mem (AJ k.zX j).root) (AJ k.zX j).zT):=rfl;cases e5:BW (AJ k.zX j).zT
  .rw[e5] at ie eu
   have CR:=AA ie;have cF:ED k (AJ k.zX j)=false:=by rw[eu];rfl
   clear ie e5 eu;have S:=AA (show k.zX.all (ED k)=false from JG (Kp bf) (cF));go_wp2_with fail;refine Aa 36 59 [.p wr.heap.size 0,.v (.slice ua (AJ k.zX j).zT.length uc),.b false,.b true,.b true,.u,.u,.u,.u,.b true,.b true,.u,.u,.u,.u,.u,.u,.u,.u,.u,.u,.u,.u,.u,.b true,.b true,.u,.u,.u,.u,.u,.u,.u,.u,.u,.u] (λ_ _ _=>True) ?_ ?_
   .intro i hi o Y a O V J L HL A
    match i,hi with
    |0,_|3,_|4,_|9,_|10,_|24,_|25,_=>exact sP Y A V J
    |1,_=>exact sL Y A V J (hl:=Li (bc L fP y0))
    |2,_=>exact sD Y A V J (CR.out _ L)
    |5,_|6,_|7,_|8,_|11,_|12,_|13,_|14,_|15,_|16,_|17,_|18,_|19,_|20,_|21,_|22,_|23,_|26,_|27,_|28,_|29,_|30,_|31,_|32,_|33,_|34,_|35,_=>exact sB Y A J
    |_+36,hq=>omega
   .intro E O hR L
    have ew:(E 25)=.bool true:=BS hR 25;clear hR;simp only[Ak,Ah,yC,yy,yz,yx,ew];simp;clear ew;have dz:=dl.out.trans (L.mono dl.out.size);clear L H N y0 y1;go_wp2_with fail;go_ret;exact⟨AH (by rw[S.out];rfl),dp.out.trans (dz.mono dp.out.size)⟩
  .rw[e5] at ie eu
   have CR:=AA ie;clear ie e5;have fF:=λW (hW:Below wa.heap.size wa W)=>BJ (C8 (AJ k.zX j).root (-1) 11 W)
   cases e6:BZ (AJ k.zX j).root (-1) 11
   .rw[e6] at fF
    have CF:=AA fF;have cF:ED k (AJ k.zX j)=false:=by
     rw[eu];have:¬(-1<=(AJ k.zX j).root/\(AJ k.zX j).root<=11):=λh=>by rw[AZ.2 h] at e6;cases e6
     have h1:decide ((AJ k.zX j).root= -1)=false:=decide_eq_false (by omega);have R:BZ (AJ k.zX j).root 0 11=false:=by cases hx:BZ (AJ k.zX j).root 0 11;rfl;exact absurd (AZ.1 hx) (by omega)
     rw[h1,R];rfl
    clear fF e6 eu;have S:=AA (show k.zX.all (ED k)=false from JG (Kp bf) (cF));go_wp2_with fail;refine Aa 36 59 [.p wr.heap.size 0,.v (.slice ua (AJ k.zX j).zT.length uc),.b true,.b false,.b false,.p wr.heap.size 1,.i ((AJ k.zX j).root),.b false,.b true,.b true,.b true,.u,.u,.u,.u,.u,.u,.u,.u,.u,.u,.u,.u,.u,.b true,.b true,.u,.u,.u,.u,.u,.u,.u,.u,.u,.u] (λ_ _ _=>True) ?_ ?_
    .intro i hi o Y a O V J L HL A
     match i,hi with
     |0,_|3,_|4,_|5,_|8,_|9,_|10,_|24,_|25,_=>exact sP Y A V J
     |1,_=>exact sL Y A V J (hl:=Li (bc L fP y0))
     |2,_=>exact sD Y A V J (CR.out _ L)
     |6,_=>exact sL Y A V J (hl:=FT (bc L fP y1))
     |7,_=>exact sD Y A V J (CF.out _ L)
     |11,_|12,_|13,_|14,_|15,_|16,_|17,_|18,_|19,_|20,_|21,_|22,_|23,_|26,_|27,_|28,_|29,_|30,_|31,_|32,_|33,_|34,_|35,_=>exact sB Y A J
     |_+36,hq=>omega
    .intro E O hR L
     have ew:(E 25)=.bool true:=BS hR 25;clear hR;simp only[Ak,Ah,yC,yy,yz,yx,ew];simp;clear ew;have dz:=dl.out.trans (L.mono dl.out.size);clear L H N y0 y1;go_wp2_with fail;go_ret;exact⟨AH (by rw[S.out];rfl),dp.out.trans (dz.mono dp.out.size)⟩
   .have lZ:=AZ.1 e6
    rw[e6] at fF;clear e6
    by_cases e7:(AJ k.zX j).root= -1
    .rw[e7] at fF y1 eu
     have CF:=AA fF;have RI:=HI.out;have CX:=AA (λW (hW:Below wa.heap.size wa W)=>JT _ k.mem (-1) W ((HR.out.below dl.out).below hW) Hm.out (by decide));have fV:=λW (hW:Below wa.heap.size wa W) v2 (R:Ax W v2 (Az (Er k.mem (-1))))=>GN _ v2 _ k.zZ (Er k.mem (-1)) (AJ k.zX j).zT W (BK.below (BK.below HI.out dl.out) hW) R (BK.below kR.out hW) (λf hf=>by have:=zw (root:= -1) (by decide) f ((GP (by decide) f).1 hf);rw[Hl.out];exact this) mg.out (Hs.out j bf)
     rw[GH (GP (by decide))] at fV;have gT:ED k (AJ k.zX j)=BM k.zZ (Be k.mem (-1)) (AJ k.zX j).zT:=by rw[eu];simp
     generalize BM k.zZ (Be k.mem (-1)) (AJ k.zX j).zT=bb at fV gT;have CA:=AA fV;have EO:=AA gT;clear fF fV eu gT lZ e7 RI;go_wp2_with fail;refine BR 36 59 [.p wr.heap.size 0,.v (.slice ua (AJ k.zX j).zT.length uc),.b true,.b false,.b false,.p wr.heap.size 1,.i (-1),.b true,.b false,.b false,.b false,.p wr.heap.size 1,.i (-1),.b false,.b false,.u,.u,.u,.u,.u,.u,.u,.u,.b false,.b false,.b false,.p w.heap.size 1,.v (.slice ai k.zZ.length ci),.p w.heap.size 0,.v (.slice am k.mem.length cm),.p wr.heap.size 1,.i (-1),.z,.p wr.heap.size 0,.v (.slice ua (AJ k.zX j).zT.length uc),.b bb] (λix vv ww=>match ix with
      |32=>AF wa.heap.size ww vv (Az (Er k.mem (-1)))
      |_=>True) ?_ ?_ ?_
     .intro i hi o Y a O V J L HL A
      have bt:=bc L fP y0;have bp:=bc L fP y1;have bw:=bc L dO N;have bK:=bc L dO H
      match i,hi with
      |0,_|3,_|4,_|5,_|8,_|9,_|10,_|11,_|14,_|23,_|24,_|25,_|26,_|28,_|30,_|33,_=>exact sP Y A V J
      |1,_|34,_=>exact sL Y A V J (hl:=Li ‹_›)
      |2,_=>exact sD Y A V J (CR.out _ L)
      |6,_|12,_|31,_=>exact sL Y A V J (hl:=FT ‹_›)
      |7,_=>exact sD Y A V J (CF.out _ L)
      |15,_|16,_|17,_|18,_|19,_|20,_|21,_|22,_=>exact sB Y A J
      |27,_=>exact sL Y A V J (hl:=GY ‹_›)
      |29,_=>exact sL Y A V J (hl:=F9 ‹_›)
      |32,_=>exact sC Y A V J (CX.out _ L) (by rintro e w_ ⟨v',rfl,hO,az⟩;exact⟨_,rfl,(BU hO L.size),az⟩)
      |13,_=>clear bt bp bw bK;obtain rfl:=yF Y;have eL:(a.tmps[29]?.getD undef)=.int .i64 (-1):=Ba J 12;have dv:(a.tmps[27]?.getD undef)=.bool false:=Ba J 10;clear J V;refine AX.yes rfl rfl dv ?_;go_simp;exact A.out _ _ rfl (yD _ _)
      |35,_=>clear bt bp bw bK;obtain rfl:=yF Y;have ot:(a.tmps[44]?.getD undef)=.slice ai k.zZ.length ci:=Ba J 27;have iY:AF wa.heap.size O (a.tmps[49]?.getD undef) (Az (Er k.mem (-1))):=Ba J 32;have os:(a.tmps[51]?.getD undef)=.slice ua (AJ k.zX j).zT.length uc:=Ba J 34;have iZ:(a.tmps[42]?.getD undef)=.bool false:=Ba J 25;clear J V;generalize e49:a.tmps[49]?.getD undef=v2 at iY;have lg:=CA.out O L v2 (AF.rd iY);refine AX.yes rfl rfl iZ ?_;go_simp;refine lg.mono ?_;rintro e w_ ⟨rfl,az⟩;exact A.out _ _ rfl az
      |_+36,hq=>omega
     .intro i hi vv wz dc bs hz
      match i,hi with
      |32,_=>exact(AF.below hz bs)
      |0,_|1,_|2,_|3,_|4,_|5,_|6,_|7,_|8,_|9,_|10,_|11,_|12,_|13,_|14,_|15,_|16,_|17,_|18,_|19,_|20,_|21,_|22,_|23,_|24,_|25,_|26,_|27,_|28,_|29,_|30,_|31,_|33,_|34,_|35,_=>exact hz
      |_+36,hq=>omega
     .intro E O hR L
      have ew:(E 25)=.bool false:=BS hR 25;have ii:(E 35)=.bool bb:=BS hR 35;clear hR;simp only[Ak,Ah,yC,yy,yz,yx,ew,ii];simp;clear ew ii;have dz:=dl.out.trans (L.mono dl.out.size);clear L H N y0 y1;cases bb
      .have S:=AA (show k.zX.all (ED k)=false from JG (Kp bf) (EO.out))
       go_wp2_with fail;go_ret;exact⟨AH (by rw[S.out];rfl),dp.out.trans (dz.mono dp.out.size)⟩
      .go_wp2_with fail
       go_roundw;exact⟨j+1,by omega,by go_num,Al bm.out EO.out,dz⟩;simp[intOf];omega
    .obtain⟨r,hr⟩:∃n:Nat,(AJ k.zX j).root=(n:Int):=⟨(AJ k.zX j).root.toNat,by omega⟩
     have cz:r<12:=by omega
     have jq:(r:Int)<12:=by omega
     have ny:(r:Int)<k.zZ.length:=by have:=Hl.out;omega
     have pG:(0:Int)<=(r:Int):=by omega
     rw[hr] at fF y1 eu;have CF:=AA fF;obtain⟨bi,cP,rfl,gJ,kz,_,_⟩:=(HH.out.below dl.out).zP (show r<k.zZ.length by rw[Hl.out];exact cz);have iS:=yA _ _ kz;have dx:BZ (r:Int) 0 11=true:=AZ.2 (by omega);have iF:decide ((r:Int)= -1)=false:=decide_eq_false (by omega);rw[dx,iF,yd] at eu;clear fF lZ e7 gJ dx iF
     by_cases e8:(zS k.zZ r).k=3
     .have t8:((zS k.zZ r).k !=3)=false:=by simp[e8]
      have CX:=AA (λW (hW:Below wa.heap.size wa W)=>JT _ k.mem (r:Int) W ((HR.out.below dl.out).below hW) Hm.out jq);have fV:=λW (hW:Below wa.heap.size wa W) v2 (R:Ax W v2 (Az (Er k.mem (r:Int))))=>GN _ v2 _ k.zZ (Er k.mem (r:Int)) (AJ k.zX j).zT W (BK.below (BK.below HI.out dl.out) hW) R (BK.below kR.out hW) (λf hf=>by have:=zw (root:=(r:Int)) jq f ((GP jq f).1 hf);rw[Hl.out];exact this) mg.out (Hs.out j bf)
      rw[GH (GP jq)] at fV;have gT:ED k (AJ k.zX j)=BM k.zZ (Be k.mem (r:Int)) (AJ k.zX j).zT:=by rw[eu,e8];simp
      generalize BM k.zZ (Be k.mem (r:Int)) (AJ k.zX j).zT=bb at fV gT;have CA:=AA fV;have EO:=AA gT;clear fV eu gT e8 hr;go_wp2_with fail;refine BR 36 59 [.p wr.heap.size 0,.v (.slice ua (AJ k.zX j).zT.length uc),.b true,.b false,.b false,.p wr.heap.size 1,.i ((r:Int)),.b true,.b false,.b false,.b false,.p wr.heap.size 1,.i ((r:Int)),.b true,.b true,.p w.heap.size 1,.v (.slice (some ⟨bi,cP,none⟩) k.zZ.length ci),.p wr.heap.size 1,.i ((r:Int)),.p bi (cP+r*3),.p bi (cP+r*3),.i ((zS k.zZ r).k),.b false,.b false,.b false,.b false,.p w.heap.size 1,.v (.slice (some ⟨bi,cP,none⟩) k.zZ.length ci),.p w.heap.size 0,.v (.slice am k.mem.length cm),.p wr.heap.size 1,.i ((r:Int)),.z,.p wr.heap.size 0,.v (.slice ua (AJ k.zX j).zT.length uc),.b bb] (λix vv ww=>match ix with
       |32=>AF wa.heap.size ww vv (Az (Er k.mem ((r:Int))))
       |_=>True) ?_ ?_ ?_
      .intro i hi o Y a O V J L HL A
       have bt:=bc L fP y0;have bp:=bc L fP y1;have bw:=bc L dO N;have bK:=bc L iS kz;have cy:=bc L dO H
       match i,hi with
       |0,_|3,_|4,_|5,_|8,_|9,_|10,_|11,_|14,_|15,_|17,_|20,_|23,_|24,_|25,_|26,_|28,_|30,_|33,_=>exact sP Y A V J
       |1,_|34,_=>exact sL Y A V J (hl:=Li ‹_›)
       |2,_=>exact sD Y A V J (CR.out _ L)
       |6,_|12,_|18,_|21,_|31,_=>exact sL Y A V J (hl:=FT ‹_›)
       |7,_=>exact sD Y A V J (CF.out _ L)
       |16,_|27,_=>exact sL Y A V J (hl:=GY ‹_›)
       |19,_=>exact sI Y A V J (hr:=by clear J V A;go_simp)
       |29,_=>exact sL Y A V J (hl:=F9 ‹_›)
       |32,_=>exact sC Y A V J (CX.out _ L) (by rintro e w_ ⟨v',rfl,hO,az⟩;exact⟨_,rfl,(BU hO L.size),az⟩)
       |13,_=>clear bt bp bw bK cy;obtain rfl:=yF Y;have eL:(a.tmps[29]?.getD undef)=.int .i64 r:=Ba J 12;have dv:(a.tmps[27]?.getD undef)=.bool false:=Ba J 10;clear J V;refine AX.yes rfl rfl dv ?_;go_simp;exact A.out _ _ rfl (yD _ _)
       |22,_=>clear bt bp bw bK cy;obtain rfl:=yF Y;have ov:(a.tmps[38]?.getD undef)=.int .i64 ((zS k.zZ r).k):=Ba J 21;have kH:(a.tmps[31]?.getD undef)=.bool true:=Ba J 14;clear J V;refine AX.yes rfl rfl kH ?_;go_simp;exact A.out _ _ rfl (yD _ _)
       |35,_=>clear bt bp bw bK cy;obtain rfl:=yF Y;have ot:(a.tmps[44]?.getD undef)=.slice (some ⟨bi,cP,none⟩) k.zZ.length ci:=Ba J 27;have iY:AF wa.heap.size O (a.tmps[49]?.getD undef) (Az (Er k.mem ((r:Int)))):=Ba J 32;have os:(a.tmps[51]?.getD undef)=.slice ua (AJ k.zX j).zT.length uc:=Ba J 34;have iZ:(a.tmps[42]?.getD undef)=.bool false:=Ba J 25;clear J V;generalize e49:a.tmps[49]?.getD undef=v2 at iY;have lg:=CA.out O L v2 (AF.rd iY);refine AX.yes rfl rfl iZ ?_;go_simp;refine lg.mono ?_;rintro e w_ ⟨rfl,az⟩;exact A.out _ _ rfl az
       |_+36,hq=>omega
      .intro i hi vv wz dc bs hz
       match i,hi with
       |32,_=>exact(AF.below hz bs)
       |0,_|1,_|2,_|3,_|4,_|5,_|6,_|7,_|8,_|9,_|10,_|11,_|12,_|13,_|14,_|15,_|16,_|17,_|18,_|19,_|20,_|21,_|22,_|23,_|24,_|25,_|26,_|27,_|28,_|29,_|30,_|31,_|33,_|34,_|35,_=>exact hz
       |_+36,hq=>omega
      .intro E O hR L
       have ew:(E 25)=.bool false:=BS hR 25;have ii:(E 35)=.bool bb:=BS hR 35;clear hR;simp only[Ak,Ah,yC,yy,yz,yx,ew,ii];simp;clear ew ii;have dz:=dl.out.trans (L.mono dl.out.size);clear L H N y0 y1;cases bb
       .have S:=AA (show k.zX.all (ED k)=false from JG (Kp bf) (EO.out))
        go_wp2_with fail;go_ret;exact⟨AH (by rw[S.out];rfl),dp.out.trans (dz.mono dp.out.size)⟩
       .go_wp2_with fail
        go_roundw;exact⟨j+1,by omega,by go_num,Al bm.out EO.out,dz⟩;simp[intOf];omega
     .have t8:((zS k.zZ r).k !=3)=true:=by simp[e8]
      have cF:ED k (AJ k.zX j)=false:=by rw[eu];simp[e8]
      clear eu e8 hr;have S:=AA (show k.zX.all (ED k)=false from JG (Kp bf) (cF));go_wp2_with fail;refine Aa 36 59 [.p wr.heap.size 0,.v (.slice ua (AJ k.zX j).zT.length uc),.b true,.b false,.b false,.p wr.heap.size 1,.i ((r:Int)),.b true,.b false,.b false,.b false,.p wr.heap.size 1,.i ((r:Int)),.b true,.b true,.p w.heap.size 1,.v (.slice (some ⟨bi,cP,none⟩) k.zZ.length ci),.p wr.heap.size 1,.i ((r:Int)),.p bi (cP+r*3),.p bi (cP+r*3),.i ((zS k.zZ r).k),.b true,.b true,.b true,.b true,.u,.u,.u,.u,.u,.u,.u,.u,.u,.u] (λ_ _ _=>True) ?_ ?_
      .intro i hi o Y a O V J L HL A
       have bt:=bc L fP y0;have bp:=bc L fP y1;have bw:=bc L dO N;have bK:=bc L iS kz
       match i,hi with
       |0,_|3,_|4,_|5,_|8,_|9,_|10,_|11,_|14,_|15,_|17,_|20,_|23,_|24,_|25,_=>exact sP Y A V J
       |1,_=>exact sL Y A V J (hl:=Li ‹_›)
       |2,_=>exact sD Y A V J (CR.out _ L)
       |6,_|12,_|18,_|21,_=>exact sL Y A V J (hl:=FT ‹_›)
       |7,_=>exact sD Y A V J (CF.out _ L)
       |16,_=>exact sL Y A V J (hl:=GY ‹_›)
       |19,_=>exact sI Y A V J (hr:=by clear J V A;go_simp)
       |26,_|27,_|28,_|29,_|30,_|31,_|32,_|33,_|34,_|35,_=>exact sB Y A J
       |13,_=>clear bt bp bw bK;obtain rfl:=yF Y;have eL:(a.tmps[29]?.getD undef)=.int .i64 r:=Ba J 12;have dv:(a.tmps[27]?.getD undef)=.bool false:=Ba J 10;clear J V;refine AX.yes rfl rfl dv ?_;go_simp;exact A.out _ _ rfl (yD _ _)
       |22,_=>clear bt bp bw bK;obtain rfl:=yF Y;have ov:(a.tmps[38]?.getD undef)=.int .i64 ((zS k.zZ r).k):=Ba J 21;have kH:(a.tmps[31]?.getD undef)=.bool true:=Ba J 14;clear J V;refine AX.yes rfl rfl kH ?_;go_simp;exact A.out _ _ rfl (yD _ _)
       |_+36,hq=>omega
      .intro E O hR L
       have ew:(E 25)=.bool true:=BS hR 25;clear hR;simp only[Ak,Ah,yC,yy,yz,yx,ew];simp;clear ew;have dz:=dl.out.trans (L.mono dl.out.size);clear L H N y0 y1;go_wp2_with fail;go_ret;exact⟨AH (by rw[S.out];rfl),dp.out.trans (dz.mono dp.out.size)⟩
 .have ek:j=k.zX.length:=by omega
  have ay:=bm.out;rw[ek] at ay;have S:=AA (show k.zX.all (ED k)=true from J6 (f:=AJ k.zX) (λk hk=>Kp hk) ay);have dm:¬(j:Int)<k.zX.length:=by omega
  clear bm ay;go_wp2_with fail;go_ret;exact⟨AH (by rw[S.out,wt];by_cases h3:k.zX.length=3<;>simp[h3]<;>omega),dp.out.trans (br.mono dp.out.size)⟩
theorem Tp(m i e c:Value)(k:AO)(w:World)(h:Bk w m k.mem)(hm:Bu k.mem=true)(hE:F7 w e k.zX)(el:k.zX.length=3)(hC:DJ w c k.zW)(g9:BT k.zW=true)(hr:∀j,j<3->(AJ k.zX j).root<12):
 Calls prog 77 #[.agg #[m,i,e,c]] w λr w'=>r=.returned (.bool (k.zW.all (Ct k)))/\Below w.heap.size w w':=by
 obtain⟨N0,av⟩:=Dd w (.cells #[m,i,e,c] 28);replace h:=h.below av;replace hC:=BK.below hC av;obtain⟨ae,ce,rfl,nZ,iQ,fj⟩:=(hE.below av).open;obtain⟨ac,cc,rfl,kh,n6,mF⟩:=BK.open CZ (by decide) hC;have H1:=AA h;obtain⟨am,cm,rfl,_⟩:=h.open;have T1:=AA hm;have T3:=AA g9;have T4:=AA el;have Hr:=AA hr;have KT:=AA (λj (hj:j<k.zW.length) (hx:Ct k (AT k.zW j)=false)=>show k.zW.all (Ct k)=false from JG (FB hj) hx);clear hm g9 el hr hE hC h;go_in;go_wp2_with fail;generalize w.alloc _=W0 at*;have HN:=AA N0;have HE:=AA fj;have H4:=AA mF;have qd:=AA (AW N0);have bN:=AA av;clear N0 fj mF av;go_loopw [3] (λi wr=>∃j:Nat,j<=k.zW.length/\i=.int .i64 j/\(∀j',j'<j->Ct k (AT k.zW j')=true)/\Below W0.heap.size W0 wr) (λi _=>k.zW.length - (intOf i).toNat)
 exact⟨0,yg _,rfl,λj hj=>absurd hj (xN _),yD _ _⟩
 obtain⟨j,hj,rfl,ay,br⟩:=hrel;have bm:=AA ay;clear ay;obtain⟨H,_,X,D⟩:=AE (AB HN.out br)
 by_cases bf:j<k.zW.length
 .obtain⟨bi,cP,rfl,iS,D0,D1,D2,D3⟩:=(H4.out.below br).zL bf
  have g9:Bl (AT k.zW j)=true:=by have h1:=T3.out;unfold BT at h1;simp only[yu,xZ] at h1;have R:=h1.1 j (xS.2 bf);unfold Cy at R;simp only[yu] at R;exact R.1
  unfold Bl at g9;simp only[yu,AZ] at g9;obtain⟨⟨⟨e0,e2⟩,p0,p2⟩,f0,f2⟩:=g9;obtain⟨en,df⟩:∃n:Nat,(AT k.zW j).e=(n:Int):=⟨(AT k.zW j).e.toNat,by omega⟩
  obtain⟨pn,hpn⟩:∃n:Nat,(AT k.zW j).p=(n:Int):=⟨(AT k.zW j).p.toNat,by omega⟩
  obtain⟨fn,fv⟩:∃n:Nat,(AT k.zW j).f=(n:Int):=⟨(AT k.zW j).f.toNat,by omega⟩
  have TO:=AA (show Ct k (AT k.zW j)=(decide (0<=(AJ k.zX en).root)&&decide (Bq k.mem (AJ k.zX en).root.toNat (4*pn)=(0,fn,(AT k.zW j).w))) by unfold Ct;rw[df,hpn,fv];rfl);have ke:en<3:=by omega
  have lI:pn<16:=by omega
  rw[df] at D0;rw[hpn] at D1;rw[fv] at D2;generalize gF:(AT k.zW j).w=cw at*;obtain⟨x1,eB⟩:=Dd wr (.cells #[.int .i64 en,.int .i64 pn,.int .i64 fn,.bool cw] 112);have nJ:(j:Int)<k.zW.length:=by omega
  have ju:k.zW.length<=4:=by have h1:=T3.out;unfold BT at h1;simp only[yu,decide_eq_true_eq] at h1;exact h1.2
  have pO:(j:Int)<4:=by omega
  have fA:=br.trans (eB.mono br.size);obtain⟨b,bB,ua,uc,rfl,fx,E0,E1,RR⟩:=HE.out en (by have:=T4.out;omega);replace E1:=(fA.cell (p:=⟨b,bB+en*2+1,none⟩) fx).trans E1;have lp:=(AE (AB HN.out fA)).1;have lk:=(AE (AB HN.out fA)).2.2.1;obtain⟨y0,y1,y2,y3⟩:=AE x1;have oq:(en:Int)<k.zX.length:=by have:=T4.out;omega
  have dl:=AA fA;have eI:=Hr.out en ke;clear E0 RR eB br fA x1 e0 e2 p0 p2 f0 f2 df hpn fv
  by_cases eU:(AJ k.zX en).root<0
  .have S:=AA (KT.out j bf (by rw[TO.out];simp;omega))
   have dz:=dl.out;go_wp2_with fail;go_ret;exact⟨AH S.out.symm,bN.out.trans (dz.mono bN.out.size)⟩
  .obtain⟨rn,hrn⟩:∃n:Nat,(AJ k.zX en).root=(n:Int):=⟨(AJ k.zX en).root.toNat,by omega⟩
   have iB:rn<12:=by omega
   have eR:=λW (hW:Below W0.heap.size W0 W)=>QE _ k.mem rn (4*pn) W (H1.out.below hW) T1.out iB (by omega)
   have lK:wr.heap.size<(wr.alloc (.cells #[.int .i64 en,.int .i64 pn,.int .i64 fn,.bool cw] 112)).heap.size:=by simp
   rw[hrn] at E1 TO eU;unfold IK at eR;rw[show((4*pn:Nat):Int)=4*(pn:Int) by omega] at eR;simp only[yd] at TO;obtain⟨code,fr,wb,hwp⟩:∃code fr wb,Bq k.mem rn (4*pn)=(code,fr,wb):=⟨_,_,_,rfl⟩
   simp only[hwp] at eR TO;clear hwp hrn eI;have jA:=AA (show Ct k (AT k.zW j)=(decide (code=0)&&(decide (fr=fn)&&decide (wb=cw))) by
    rw[TO.out];have:(0:Int)<=(rn:Int):=by omega
    simp[this])
   by_cases eA:code=0
   .subst eA
    rw[if_pos rfl] at eR;unfold Kz at eR;rw[show((4*pn%4:Nat):Int)=0 by omega] at eR;have CW:=AA eR;clear eR;go_wp2_with fail;refine(CW.out _ dl.out).mono ?_;rintro e w2 ⟨rfl,az⟩;have eo:=dl.out.trans (az.mono dl.out.size);replace y2:=(az.cell (p:=⟨wr.heap.size,2,none⟩) lK).trans y2;replace y3:=(az.cell (p:=⟨wr.heap.size,3,none⟩) lK).trans y3;clear H X D lp lk E1 y0 y1 az;have dz:=eo.trans ((AI w2 (.cells #[.int .i64 fr,.int .i64 0,.bool wb] 114)).mono eo.size);replace y2:=((AI w2 (.cells #[.int .i64 fr,.int .i64 0,.bool wb] 114)).cell (yA w2 _ y2)).trans y2;replace y3:=((AI w2 (.cells #[.int .i64 fr,.int .i64 0,.bool wb] 114)).cell (yA w2 _ y3)).trans y3;have HG:=AA dz;clear eo dz eU
    by_cases du:fr=fn
    .have t1:((fr:Int) !=(fn:Int))=false:=by simp[du]
     by_cases ir:wb=cw
     .have S:=AA (show Ct k (AT k.zW j)=true by rw[jA.out];simp[du,ir])
      subst ir;clear du;cases wb
      all_goals
       go_wp2_with fail;go_roundw;exact⟨j+1,by omega,by go_num,Al bm.out S.out,HG.out⟩;simp[intOf];omega
     .have S:=AA (KT.out j bf (by rw[jA.out];simp[ir]))
      have hq:=AA ir;clear du ir;cases wb<;>cases cw
      .exact absurd rfl hq.out
      .go_wp2_with fail
       go_ret;exact⟨AH S.out.symm,bN.out.trans (HG.out.mono bN.out.size)⟩
      .go_wp2_with fail
       go_ret;exact⟨AH S.out.symm,bN.out.trans (HG.out.mono bN.out.size)⟩
      .exact absurd rfl hq.out
    .have t1:((fr:Int) !=(fn:Int))=true:=by simp;omega
     have S:=AA (KT.out j bf (by rw[jA.out];simp[du]));clear du y3;go_wp2_with fail;go_ret;exact⟨AH S.out.symm,bN.out.trans (HG.out.mono bN.out.size)⟩
   .rw[if_neg eA] at eR
    unfold Ed at eR;have CW:=AA eR;have t1:(code !=0)=true:=by simp[eA]
    have S:=AA (KT.out j bf (by rw[jA.out];simp[eA]));clear eR eA;go_wp2_with (refine(CW.out _ dl.out).mono ?_;rintro e w2 ⟨rfl,az⟩;have eo:=dl.out.trans (az.mono dl.out.size);have HG:=AA (eo.trans ((AI w2 (.cells #[.int .i64 0,.int .i64 0,.bool false] 114)).mono eo.size));clear H X D lp lk E1 y0 y1 y2 y3 az eo eU);go_ret;exact⟨AH S.out.symm,bN.out.trans (HG.out.mono bN.out.size)⟩
 .have ek:j=k.zW.length:=by omega
  have ay:=bm.out;rw[ek] at ay;have S:=AA (show k.zW.all (Ct k)=true from J6 (f:=AT k.zW) (λk hk=>FB hk) ay);have nJ:¬(j:Int)<k.zW.length:=by omega
  clear bm ay;go_wp2_with fail;go_ret;exact⟨AH S.out.symm,bN.out.trans (br.mono bN.out.size)⟩
theorem Kc(m i e c:Value)(k:AO)(w:World)(h:Mu w m i e c k)(hs:Dn k):
 Calls prog 36 #[.agg #[m,i,e,c]] w λr w'=>r=.returned (.bool (Cr k))/\Below w.heap.size w w':=by
 obtain⟨N0,av⟩:=Dd w (.cells #[m,i,e,c] 28);replace h:=h.below av;have A:=AA h;have Hs:=AA hs;obtain⟨H,N,X,D⟩:=AE N0;have KO:=AA (show Cr k=(Bu k.mem&&BP k.zZ&&BT k.zW&&JH k&&(yC 12).all (Dh k)&&(yC 12).all (HZ k)&&k.zW.all (Ct k)) from rfl);clear h hs;go_in;go_wp2_with fail;generalize w.alloc _=W0 at*;have HN:=AA N0;have bN:=AA av;have Z:Below W0.heap.size W0 W0:=yD _ _;clear N0 av;cases e1:Bu k.mem
 .have S:=AA (show Cr k=false by rw[KO.out];simp[e1])
  have C:=IX m k.mem _ (A.out.1.below Z);rw[e1] at C;clear e1;go_wp2_with (refine C.mono ?_;rintro r w_ ⟨rfl,bu⟩;clear H N X D);go_ret;exact⟨AH S.out.symm,bN.out.trans ((Z.trans (bu.mono Z.size)).mono bN.out.size)⟩
 have C:=IX m k.mem _ (A.out.1.below Z);rw[e1] at C;have T1:=AA e1;rw[e1] at KO;clear e1;go_wp2_with fail;refine C.mono ?_;rintro r w_ ⟨rfl,bu⟩;replace Z:=Z.trans (bu.mono Z.size);clear bu C H N X D;obtain⟨H,N,X,D⟩:=AE (AB HN.out Z);cases e2:BP k.zZ
 .have S:=AA (show Cr k=false by rw[KO.out];simp[e2])
  have C:=DZ i k.zZ _ (BK.below A.out.2.1 Z) Hs.out.1;rw[e2] at C;clear e2;go_wp2_with (refine C.mono ?_;rintro r w_ ⟨rfl,bu⟩;clear H N X D);go_ret;exact⟨AH S.out.symm,bN.out.trans ((Z.trans (bu.mono Z.size)).mono bN.out.size)⟩
 have C:=DZ i k.zZ _ (BK.below A.out.2.1 Z) Hs.out.1;rw[e2] at C;have T2:=AA e2;rw[e2] at KO;clear e2;go_wp2_with fail;refine C.mono ?_;rintro r w_ ⟨rfl,bu⟩;replace Z:=Z.trans (bu.mono Z.size);clear bu C H N X D;obtain⟨H,N,X,D⟩:=AE (AB HN.out Z);cases e3:BT k.zW
 .have S:=AA (show Cr k=false by rw[KO.out];simp[e3])
  have C:=JJ c k.zW _ (BK.below A.out.2.2.2 Z);rw[e3] at C;clear e3;go_wp2_with (refine C.mono ?_;rintro r w_ ⟨rfl,bu⟩;clear H N X D);go_ret;exact⟨AH S.out.symm,bN.out.trans ((Z.trans (bu.mono Z.size)).mono bN.out.size)⟩
 have C:=JJ c k.zW _ (BK.below A.out.2.2.2 Z);rw[e3] at C;have T3:=AA e3;rw[e3] at KO;clear e3;go_wp2_with fail;refine C.mono ?_;rintro r w_ ⟨rfl,bu⟩;replace Z:=Z.trans (bu.mono Z.size);clear bu C H N X D;obtain⟨H,N,X,D⟩:=AE (AB HN.out Z);cases e4:JH k
 .have S:=AA (show Cr k=false by rw[KO.out];simp[e4])
  have C:=Om m i e c k _ (A.out.1.below Z) T1.out (BK.below A.out.2.1 Z) T2.out (A.out.2.2.1.below Z) Hs.out.2;rw[e4] at C;clear e4;go_wp2_with (refine C.mono ?_;rintro r w_ ⟨rfl,bu⟩;clear H N X D);go_ret;exact⟨AH S.out.symm,bN.out.trans ((Z.trans (bu.mono Z.size)).mono bN.out.size)⟩
 have C:=Om m i e c k _ (A.out.1.below Z) T1.out (BK.below A.out.2.1 Z) T2.out (A.out.2.2.1.below Z) Hs.out.2;rw[e4] at C;have T4:=AA e4;rw[e4] at KO;clear e4;go_wp2_with fail;refine C.mono ?_;rintro r w_ ⟨rfl,bu⟩;replace Z:=Z.trans (bu.mono Z.size);clear bu C H N X D;obtain⟨H,N,X,D⟩:=AE (AB HN.out Z);have el:Hid (k.zX.length=3):=AA (by have:=T4.out;unfold JH at this;rw[yu,decide_eq_true_eq] at this;exact this.2);have eI:Hid (∀j,j<3->(AJ k.zX j).root<12):=AA (by
  intro j hj;have h4:=T4.out;unfold JH at h4;rw[yu,xZ] at h4;have h5:=h4.1 _ (yh (Kp (show j<k.zX.length by have:=el.out;omega)));unfold ED at h5;simp only[yu,xE,decide_eq_true_eq,AZ] at h5
  rcases h5.1.2 with h|h<;>omega)
 cases e5:(yC 12).all (Dh k)
 .have S:=AA (show Cr k=false by rw[KO.out];simp[e5])
  have C:=MX m i e c k _ (A.out.1.below Z) T1.out (BK.below A.out.2.1 Z) T2.out;rw[e5] at C;clear e5;go_wp2_with (refine C.mono ?_;rintro r w_ ⟨rfl,bu⟩;clear H N X D);go_ret;exact⟨AH S.out.symm,bN.out.trans ((Z.trans (bu.mono Z.size)).mono bN.out.size)⟩
 have C:=MX m i e c k _ (A.out.1.below Z) T1.out (BK.below A.out.2.1 Z) T2.out;rw[e5] at C;have T5:=AA e5;rw[e5] at KO;clear e5;go_wp2_with fail;refine C.mono ?_;rintro r w_ ⟨rfl,bu⟩;replace Z:=Z.trans (bu.mono Z.size);clear bu C H N X D;obtain⟨H,N,X,D⟩:=AE (AB HN.out Z);cases e6:(yC 12).all (HZ k)
 .have S:=AA (show Cr k=false by rw[KO.out];simp[e6])
  have C:=On m i e c k _ (A.out.1.below Z) T1.out (BK.below A.out.2.1 Z) T2.out (A.out.2.2.1.below Z) el.out eI.out;rw[e6] at C;clear e6;go_wp2_with (refine C.mono ?_;rintro r w_ ⟨rfl,bu⟩;clear H N X D);go_ret;exact⟨AH S.out.symm,bN.out.trans ((Z.trans (bu.mono Z.size)).mono bN.out.size)⟩
 have C:=On m i e c k _ (A.out.1.below Z) T1.out (BK.below A.out.2.1 Z) T2.out (A.out.2.2.1.below Z) el.out eI.out;rw[e6] at C;have T6:=AA e6;rw[e6] at KO;clear e6;go_wp2_with fail;refine C.mono ?_;rintro r w_ ⟨rfl,bu⟩;replace Z:=Z.trans (bu.mono Z.size);clear bu C H N X D;obtain⟨H,N,X,D⟩:=AE (AB HN.out Z);have C:=Tp m i e c k _ (A.out.1.below Z) T1.out (A.out.2.2.1.below Z) el.out (BK.below A.out.2.2.2 Z) T3.out eI.out;have S:=AA (show Cr k=k.zW.all (Ct k) by rw[KO.out];simp);go_wp2_with (refine C.mono ?_;rintro r w_ ⟨rfl,bu⟩);go_ret;exact⟨AH S.out.symm,bN.out.trans ((Z.trans (bu.mono Z.size)).mono bN.out.size)⟩
theorem Rw(v1 v2:Value)(xs:List ByteArray)(w:World)(h1:BY w v1 xs)(R:BY w v2 xs):
 Calls prog 123 #[v1,v2] w λe w'=>e=.returned (.bool true)/\∃n,w'=w.drewN n:=by
 obtain⟨a1,c1,rfl,gH,dj,H1⟩:=BK.open Ho (by decide) h1;obtain⟨a2,c2,rfl,ga,di,H2⟩:=BK.open Ho (by decide) R;unfold maxLen at dj di;clear h1 R;have Z:((xs.length:Int) !=xs.length)=false:=by simp
 go_in;go_wp2_with fail;go_loopw [5] (λi wr=>∃k:Nat,k<=xs.length/\i=.int .i64 k/\∃n,wr=w.drewN n) (λi _=>xs.length - (intOf i).toNat)
 exact⟨0,yg _,rfl,0,rfl⟩
 obtain⟨k,hk,rfl,n,rfl⟩:=hrel
 by_cases bf:k<xs.length
 .have cC:(k:Int)<(xs.length:Int):=by omega
  obtain⟨b1,o1,rfl,D1⟩:=H1.str bf;obtain⟨b2,o2,rfl,D2⟩:=H2.str bf;clear H1 H2;go_wp2_with fail;go_quiet (fail);go_wp2_with fail;go_roundw;exact⟨k+1,by omega,by go_num,_,rfl⟩;simp[intOf];omega
 .have cC:¬(k:Int)<(xs.length:Int):=by omega
  go_wp2_with fail;go_ret;exact⟨rfl,_,rfl⟩
theorem Rt(v1 v2:Value)(xs:List AV)(w:World)(h1:Bb w v1 xs)(R:Bb w v2 xs):
 Calls prog 68 #[v1,v2] w λe w'=>e=.returned (.bool true)/\∃n,w'=w.drewN n:=by
 obtain⟨a1,c1,rfl,gH,dj,H1⟩:=BK.open A0 (by decide) h1;obtain⟨a2,c2,rfl,ga,di,H2⟩:=BK.open A0 (by decide) R;unfold maxLen at dj di;clear h1 R;have Z:((xs.length:Int) !=xs.length)=false:=by simp
 go_in;go_wp2_with fail;go_loopw [5] (λi wr=>∃k:Nat,k<=xs.length/\i=.int .i64 k/\∃n,wr=w.drewN n) (λi _=>xs.length - (intOf i).toNat)
 exact⟨0,yg _,rfl,0,rfl⟩
 obtain⟨k,hk,rfl,n,rfl⟩:=hrel
 by_cases bf:k<xs.length
 .have cC:(k:Int)<(xs.length:Int):=by omega
  obtain⟨b1,o1,rfl,_,k9,k8,mI⟩:=H1.zP bf;obtain⟨b2,o2,rfl,_,k7,kZ,mH⟩:=H2.zP bf;clear H1 H2;go_wp2_with fail;go_quiet (fail);go_wp2_with fail;go_roundw;exact⟨k+1,by omega,by go_num,_,rfl⟩;simp[intOf];omega
 .have cC:¬(k:Int)<(xs.length:Int):=by omega
  go_wp2_with fail;go_ret;exact⟨rfl,_,rfl⟩
theorem Rs(v1 v2:Value)(xs:List Ad)(w:World)(h1:DJ w v1 xs)(R:DJ w v2 xs):
 Calls prog 70 #[v1,v2] w λe w'=>e=.returned (.bool true)/\∃n,w'=w.drewN n:=by
 obtain⟨a1,c1,rfl,gH,dj,H1⟩:=BK.open CZ (by decide) h1;obtain⟨a2,c2,rfl,ga,di,H2⟩:=BK.open CZ (by decide) R;unfold maxLen at dj di;clear h1 R;have Z:((xs.length:Int) !=xs.length)=false:=by simp
 go_in;go_wp2_with fail;go_loopw [5] (λi wr=>∃k:Nat,k<=xs.length/\i=.int .i64 k/\∃n,wr=w.drewN n) (λi _=>xs.length - (intOf i).toNat)
 exact⟨0,yg _,rfl,0,rfl⟩
 obtain⟨k,hk,rfl,n,rfl⟩:=hrel
 by_cases bf:k<xs.length
 .have cC:(k:Int)<(xs.length:Int):=by omega
  obtain⟨b1,o1,rfl,_,k9,k8,mI,ql⟩:=H1.zL bf;obtain⟨b2,o2,rfl,_,k7,kZ,mH,qj⟩:=H2.zL bf;clear H1 H2;go_wp2_with fail;go_quiet (fail);go_wp2_with fail;go_roundw;exact⟨k+1,by omega,by go_num,_,rfl⟩;simp[intOf];omega
 .have cC:¬(k:Int)<(xs.length:Int):=by omega
  go_wp2_with fail;go_ret;exact⟨rfl,_,rfl⟩
theorem TM.zq{w:World}{a:Option Addr}{xs:List Bo}(h:TM 3 DG w a xs){k:Nat}(hk:k<xs.length):∃b bB,a=some ⟨b,bB,none⟩/\b<w.heap.size/\w.cell? ⟨b,bB+k*3,none⟩=some (.int .i64 (AC xs k).w)/\w.cell? ⟨b,bB+k*3+1,none⟩=some (.int .i64 (AC xs k).a)/\w.cell? ⟨b,bB+k*3+2,none⟩=some (.bool (AC xs k).u):=by obtain⟨b,bB,rfl,fx,hc⟩:=h k _ (show xs[k]?=some (AC xs k) from A2 hk);exact⟨b,bB,rfl,fx,by simpa using hc 0 _ rfl,hc 1 _ rfl,hc 2 _ rfl⟩
theorem Rv(v1 v2:Value)(xs:List Bo)(w:World)(h1:BK 3 DG w v1 xs)(R:BK 3 DG w v2 xs):
 Calls prog 35 #[v1,v2] w λe w'=>e=.returned (.bool true)/\∃n,w'=w.drewN n:=by
 obtain⟨a1,c1,rfl,gH,dj,H1⟩:=BK.open En (by decide) h1;obtain⟨a2,c2,rfl,ga,di,H2⟩:=BK.open En (by decide) R;unfold maxLen at dj di;clear h1 R;have Z:((xs.length:Int) !=xs.length)=false:=by simp
 go_in;go_wp2_with fail;go_loopw [5] (λi wr=>∃k:Nat,k<=xs.length/\i=.int .i64 k/\∃n,wr=w.drewN n) (λi _=>xs.length - (intOf i).toNat)
 exact⟨0,yg _,rfl,0,rfl⟩
 obtain⟨k,hk,rfl,n,rfl⟩:=hrel
 by_cases bf:k<xs.length
 .have cC:(k:Int)<(xs.length:Int):=by omega
  obtain⟨b1,o1,rfl,_,k9,k8,mI⟩:=H1.zq bf;obtain⟨b2,o2,rfl,_,k7,kZ,mH⟩:=H2.zq bf;clear H1 H2;go_wp2_with fail;go_quiet (fail);go_wp2_with fail;go_roundw;exact⟨k+1,by omega,by go_num,_,rfl⟩;simp[intOf];omega
 .have cC:¬(k:Int)<(xs.length:Int):=by omega
  go_wp2_with fail;go_ret;exact⟨rfl,_,rfl⟩
theorem QZ{P:Program}{f:FuncId}{dW:Array Value}{w:World}{n:Nat}(h:∀m,Calls P f dW (w.drewN m) λe w'=>e=.returned (.bool true)/\∃j,w'=(w.drewN m).drewN j):∀x,Calls P f dW (w.drewN (n+x)) λe mN=>e=.returned (.bool true)/\∃j,mN=w.drewN (n+j):=by intro x;refine(h (n+x)).mono ?_;rintro e w' ⟨rfl,j,rfl⟩;exact⟨rfl,x+j,by rw[La,Nat.add_assoc]⟩
theorem Mc(v1 v2:Value)(xs:List Int)(w:World)(h1:Ax w v1 xs)(R:Ax w v2 xs):
 Calls prog 19 #[v1,v2] w λe w'=>e=.returned (.bool true)/\∃n,w'=w.drewN n:=by
 refine(LA v1 v2 xs xs w h1 R).mono ?_;rintro e w' ⟨rfl,h⟩;exact⟨by simp,h⟩
theorem Lr(v1 v2:Value)(xs:List (List Int))(w:World)(h1:Bk w v1 xs)(R:Bk w v2 xs):
 Calls prog 34 #[v1,v2] w λe w'=>e=.returned (.bool true)/\∃n,w'=w.drewN n:=by
 obtain⟨a1,c1,rfl,gH,dj,H1⟩:=h1.open;obtain⟨a2,c2,rfl,ga,di,H2⟩:=R.open;unfold maxLen at dj di;clear h1 R;have Z:((xs.length:Int) !=xs.length)=false:=by simp
 go_in;go_wp2_with fail;go_loopw [5] (λi wr=>∃k:Nat,k<=xs.length/\i=.int .i64 k/\∃n,wr=w.drewN n) (λi _=>xs.length - (intOf i).toNat)
 exact⟨0,yg _,rfl,0,rfl⟩
 obtain⟨k,hk,rfl,n,rfl⟩:=hrel
 by_cases bf:k<xs.length
 .have cC:(k:Int)<(xs.length:Int):=by omega
  obtain⟨b1,o1,u1,rfl,_,D1,R1⟩:=H1 k bf;obtain⟨b2,o2,u2,rfl,_,D2,R2⟩:=H2 k bf;have HQ:=AA (QZ (w:=w) (n:=n) λm=>Mc u1 u2 (AG xs k) (w.drewN m) (R1.below (Av (yD _ _) m)) (R2.below (Av (yD _ _) m)));clear H1 H2 R1 R2;go_wp2_with fail;go_quiet ((go_at_call 19;exact HQ.out _));go_wp2_with fail;go_roundw;exact⟨k+1,by omega,by go_num,_,rfl⟩;simp[intOf];omega
 .have cC:¬(k:Int)<(xs.length:Int):=by omega
  go_wp2_with fail;go_ret;exact⟨rfl,_,rfl⟩
theorem UO(v1 v2:Value)(xs:List Eh)(w:World)(h1:F7 w v1 xs)(R:F7 w v2 xs):
 Calls prog 69 #[v1,v2] w λe w'=>e=.returned (.bool true)/\∃n,w'=w.drewN n:=by
 obtain⟨a1,c1,rfl,gH,dj,H1⟩:=h1.open;obtain⟨a2,c2,rfl,ga,di,H2⟩:=R.open;unfold maxLen at dj di;clear h1 R;have Z:((xs.length:Int) !=xs.length)=false:=by simp
 go_in;go_wp2_with fail;go_loopw [5] (λi wr=>∃k:Nat,k<=xs.length/\i=.int .i64 k/\∃n,wr=w.drewN n) (λi _=>xs.length - (intOf i).toNat)
 exact⟨0,yg _,rfl,0,rfl⟩
 obtain⟨k,hk,rfl,n,rfl⟩:=hrel
 by_cases bf:k<xs.length
 .have cC:(k:Int)<(xs.length:Int):=by omega
  obtain⟨b1,o1,pw,pu,rfl,_,k9,k8,R1⟩:=H1 k bf;obtain⟨b2,o2,pv,pt,rfl,_,k7,kZ,R2⟩:=H2 k bf;have HQ:=AA (QZ (w:=w) (n:=n) λm=>Rw _ _ (AJ xs k).zT (w.drewN m) (BK.below R1 (Av (yD _ _) m)) (BK.below R2 (Av (yD _ _) m)));clear H1 H2 R1 R2;go_wp2_with fail;go_quiet ((go_at_call 123;exact HQ.out _));go_wp2_with fail;go_roundw;exact⟨k+1,by omega,by go_num,_,rfl⟩;simp[intOf];omega
 .have cC:¬(k:Int)<(xs.length:Int):=by omega
  go_wp2_with fail;go_ret;exact⟨rfl,_,rfl⟩
theorem Gq{P:Program}{f:FuncId}{dW:Array Value}{w:World}{v:Ending}(h:Calls P f dW w λe w'=>e=v/\∃n,w'=w.drewN n):Calls P f dW w λe w'=>e=v/\Below w.heap.size w w':=MT h
theorem Qn(m i e c m' i' e' c':Value)(k:AO)(w:World)(h1:Mu w m i e c k)(R:Mu w m' i' e' c' k):
 Calls prog 33 #[.agg #[m,i,e,c],.agg #[m',i',e',c']] w λr w'=>r=.returned (.bool true)/\Below w.heap.size w w':=by
 obtain⟨N0,N1,av,ds⟩:=Jz w (.cells #[m,i,e,c] 28) (.cells #[m',i',e',c'] 28);have H1:=AA (h1.below av);have H2:=AA (R.below av);clear h1 R;go_in;go_wp2_with fail;generalize(w.alloc _).alloc _=W0 at*;have HN:=AA (xU N0 N1);have bN:=AA av;obtain⟨H,N,X,D⟩:=AE N0;obtain⟨y0,y1,y2,y3⟩:=AE N1;clear N0 N1 av ds;have Z:Below W0.heap.size W0 W0:=yD _ _;go_wp2_with fail;refine(Gq (Lr m m' k.mem _ (H1.out.1.below Z) (H2.out.1.below Z))).mono ?_;rintro r w_ ⟨rfl,bu⟩;replace Z:=Z.trans (bu.mono Z.size);clear bu H N X D y0 y1 y2 y3;obtain⟨H,N,X,D⟩:=AE (AB HN.out.1 Z);obtain⟨y0,y1,y2,y3⟩:=AE (AB HN.out.2 Z);go_wp2_with fail;refine(Gq (Rt i i' k.zZ _ (BK.below H1.out.2.1 Z) (BK.below H2.out.2.1 Z))).mono ?_;rintro r w_ ⟨rfl,bu⟩;replace Z:=Z.trans (bu.mono Z.size);clear bu H N X D y0 y1 y2 y3;obtain⟨H,N,X,D⟩:=AE (AB HN.out.1 Z);obtain⟨y0,y1,y2,y3⟩:=AE (AB HN.out.2 Z);go_wp2_with fail;refine(Gq (UO e e' k.zX _ (H1.out.2.2.1.below Z) (H2.out.2.2.1.below Z))).mono ?_;rintro r w_ ⟨rfl,bu⟩;replace Z:=Z.trans (bu.mono Z.size);clear bu H N X D y0 y1 y2 y3;obtain⟨H,N,X,D⟩:=AE (AB HN.out.1 Z);obtain⟨y0,y1,y2,y3⟩:=AE (AB HN.out.2 Z);go_wp2_with (refine(Gq (Rs c c' k.zW _ (BK.below H1.out.2.2.2 Z) (BK.below H2.out.2.2.2 Z))).mono ?_;rintro r w_ ⟨rfl,bu⟩;replace Z:=Z.trans (bu.mono Z.size);clear bu H N X D y0 y1 y2 y3;obtain⟨H,N,X,D⟩:=AE (AB HN.out.1 Z);obtain⟨y0,y1,y2,y3⟩:=AE (AB HN.out.2 Z));go_ret;exact⟨rfl,bN.out.trans (Z.mono bN.out.size)⟩
theorem EG(m i e c s l q m' i' e' c' s' l' q':Value)(P:AR)(w:World)(h1:Jy w m i e c s l q P)(R:Jy w m' i' e' c' s' l' q' P):
 Calls prog 13 #[AN m i e c s l q P.zR P.zU,AN m' i' e' c' s' l' q' P.zR P.zU] w λr w'=>r=.returned (.bool true)/\Below w.heap.size w w':=by
 unfold AN;obtain⟨N0,N1,av,ds⟩:=Jz w (.cells #[m,i,e,c,s,l,q,.int .i64 P.zR,.int .i64 P.zU] 32) (.cells #[m',i',e',c',s',l',q',.int .i64 P.zR,.int .i64 P.zU] 32);have H1:=AA (h1.below av);have H2:=AA (R.below av);clear h1 R;go_in;go_wp2_with fail;generalize(w.alloc _).alloc _=W0 at*;have HN:=AA (xU N0 N1);have bN:=AA av;obtain⟨H,N,X,D,x4,x5,x6,x7,x8⟩:=AD N0;obtain⟨y0,y1,y2,y3,y4,y5,y6,y7,y8⟩:=AD N1;clear N0 N1 av ds;have Z:Below W0.heap.size W0 W0:=yD _ _;go_wp2_with fail;refine(Qn m i e c m' i' e' c' P.zV _ (H1.out.1.below Z) (H2.out.1.below Z)).mono ?_;rintro r w_ ⟨rfl,bu⟩;replace Z:=Z.trans (bu.mono Z.size);clear bu H N X D x4 x5 x6 x7 x8 y0 y1 y2 y3 y4 y5 y6 y7 y8;obtain⟨H,N,X,D,x4,x5,x6,x7,x8⟩:=AD (AB HN.out.1 Z);obtain⟨y0,y1,y2,y3,y4,y5,y6,y7,y8⟩:=AD (AB HN.out.2 Z);go_wp2_with fail;refine(Gq (Lr s s' P.swap _ (H1.out.2.1.below Z) (H2.out.2.1.below Z))).mono ?_;rintro r w_ ⟨rfl,bu⟩;replace Z:=Z.trans (bu.mono Z.size);clear bu H N X D x4 x5 x6 x7 x8 y0 y1 y2 y3 y4 y5 y6 y7 y8;obtain⟨H,N,X,D,x4,x5,x6,x7,x8⟩:=AD (AB HN.out.1 Z);obtain⟨y0,y1,y2,y3,y4,y5,y6,y7,y8⟩:=AD (AB HN.out.2 Z);go_wp2_with fail;refine(Gq (Mc l l' P.low _ (H1.out.2.2.1.below Z) (H2.out.2.2.1.below Z))).mono ?_;rintro r w_ ⟨rfl,bu⟩;replace Z:=Z.trans (bu.mono Z.size);clear bu H N X D x4 x5 x6 x7 x8 y0 y1 y2 y3 y4 y5 y6 y7 y8;obtain⟨H,N,X,D,x4,x5,x6,x7,x8⟩:=AD (AB HN.out.1 Z);obtain⟨y0,y1,y2,y3,y4,y5,y6,y7,y8⟩:=AD (AB HN.out.2 Z);go_wp2_with (refine(Gq (Rv q q' P.zY _ (BK.below H1.out.2.2.2 Z) (BK.below H2.out.2.2.2 Z))).mono ?_;rintro r w_ ⟨rfl,bu⟩;replace Z:=Z.trans (bu.mono Z.size);clear bu H N X D x4 x5 x6 x7 x8 y0 y1 y2 y3 y4 y5 y6 y7 y8;obtain⟨H,N,X,D,x4,x5,x6,x7,x8⟩:=AD (AB HN.out.1 Z);obtain⟨y0,y1,y2,y3,y4,y5,y6,y7,y8⟩:=AD (AB HN.out.2 Z));go_ret;exact⟨rfl,bN.out.trans (Z.mono bN.out.size)⟩
def Sc(p:AR):Bool:=decide (p.zU<=(Aj p.zY 1:Int))||decide (Am p.zV.zZ<0)
theorem WG{zZ:List AV}:Am zZ<0↔zZ.countP (λx=>decide (x.k=0))=0:=by
 unfold Am;rw[List.countP_eq_zero];constructor
 .intro h x hx hk
  rw[if_pos (vP.2 ⟨x,hx,hk⟩)] at h;omega
 .intro h
  rw[if_neg]
  .decide
  .intro ha
   obtain⟨x,hx,hk⟩:=vP.1 ha;exact h x hx hk
def MJ(r:List Int):Bool:=r.isEmpty||Ds r
theorem TH{s:List (List Int)}:FM s=(s.all MJ&&decide (s.length=16)):=rfl
theorem IG(v:Value)(s:List (List Int))(w:World)(h:Bk w v s):Calls prog 37 #[v] w λe w'=>e=.returned (.bool (FM s))/\Below w.heap.size w w':=by
 obtain⟨ao,c,rfl,hc,ez,x0⟩:=h.open;unfold maxLen at ez;have HH:=AA x0;clear h x0;go_in;go_wp2_with fail;go_loopw [3] (λix wr=>∃k:Nat,k<=s.length/\ix=.int .i64 k/\(∀j,j<k->MJ (AG s j)=true)/\Below w.heap.size w wr) (λix _=>s.length - (intOf ix).toNat)
 exact⟨0,yg _,rfl,λj hj=>absurd hj (xN _),yD _ _⟩
 obtain⟨k,hk,rfl,ay,Z⟩:=hrel;have bm:=AA ay;clear ay
 by_cases bf:k<s.length
 .have cC:(k:Int)<(s.length:Int):=by omega
  obtain⟨b,bB,u,rfl,fx,x3,hr⟩:=(HH.out.below Z) k bf;have C:=Lf u _ wr hr;obtain⟨au,cu,rfl,_,_,_⟩:=hr.open
  by_cases he:(AG s k).length=0
  .have t0:¬(0:Int)<(AG s k).length:=by omega
   have S:=AA (show MJ (AG s k)=true by unfold MJ;rw[tR.2 (xM he)];rfl);clear C hr he;go_wp2_with fail;go_roundw;exact⟨k+1,by omega,by go_num,Al bm.out S.out,Z⟩;simp[intOf];omega
  .have t0:(0:Int)<(AG s k).length:=by omega
   have vs:MJ (AG s k)=Ds (AG s k):=by
    unfold MJ;have:(AG s k).isEmpty=false:=by cases hx:AG s k;rw[hx] at he;exact absurd rfl he;rfl
    rw[this,Bool.false_or]
   have C:=AA C;cases R:Ds (AG s k)
   .have S:=AA (show FM s=false by rw[TH,JG (KD bf) (vs.trans R)];rfl)
    have T:=AA R;clear hr he vs R;go_wp2_with (refine C.out.mono ?_;rintro e w2 ⟨rfl,b2⟩;rw[T.out]);go_ret;exact⟨AH S.out.symm,Z.trans (b2.mono Z.size)⟩
   .have S:=AA (vs.trans R)
    have T:=AA R;clear hr he vs R;go_wp2_with fail;refine C.out.mono ?_;rintro e w2 ⟨rfl,b2⟩;rw[T.out];go_wp2_with fail;go_roundw;exact⟨k+1,by omega,by go_num,Al bm.out S.out,Z.trans (b2.mono Z.size)⟩;simp[intOf];omega
 .have ek:k=s.length:=by omega
  have ay:=bm.out;rw[ek] at ay;have S:=AA (show FM s=((s.length:Int)==16) by
   rw[TH,J6 (λk hk=>KD hk) ay,wt]
   by_cases h3:s.length=16<;>simp[h3]<;>omega)
  have cC:¬(k:Int)<(s.length:Int):=by omega
  clear bm ay;go_wp2_with fail;go_ret;exact⟨AH S.out.symm,Z⟩
theorem NH(m i e c:Value)(k:AO)(w:World)(hE:F7 w e k.zX)(el:k.zX.length=3)(iw:∀j,j<k.zX.length->Db (AJ k.zX j).zT):
 Calls prog 38 #[.agg #[m,i,e,c]] w λr w'=>r=.returned (.bool (Gm k))/\Below w.heap.size w w':=by
 obtain⟨N0,av⟩:=Dd w (.cells #[m,i,e,c] 28);obtain⟨ae,ce,rfl,_,_,fj⟩:=(hE.below av).open;have AL:Gm k=(By (AJ k.zX 0).zT gA&&!By (AJ k.zX 1).zT gA&&!By (AJ k.zX 2).zT gA):=rfl;have CM:=AA (λv j (hj:j<3) W (hW:BY W v (AJ k.zX j).zT)=>Kr v (AJ k.zX j).zT gA W hW (iw j (by omega)) (by decide));unfold gA at CM;have eP:=AA el;clear el iw hE;go_in;go_wp2_with fail;generalize w.alloc _=W0 at*;have HN:=AA N0;have HE:=AA fj;have bN:=AA av;have HA:=AA AL;clear N0 fj av AL;go_loopw [3] (λix wr=>∃j:Nat,1<=j/\j<=3/\ix=.int .i64 j/\(∀j',1<=j'->j'<j->By (AJ k.zX j').zT gA=false)/\Below W0.heap.size W0 wr) (λix _=>3 - (intOf ix).toNat)
 exact⟨1,by omega,by omega,rfl,λj h1 R=>by omega,yD _ _⟩
 obtain⟨j,nR,hj,rfl,ay,Z⟩:=hrel;have bm:=AA ay;clear ay;obtain⟨_,_,X,_⟩:=AE (AB HN.out Z)
 by_cases bf:j<3
 .have dd:(j:Int)<k.zX.length:=by have:=eP.out;omega
  obtain⟨b,bB,ua,uc,rfl,fx,D0,_,RR⟩:=(HE.out.below Z) j (by have:=eP.out;omega);have C:=CM.out _ j bf wr RR;cases hm:By (AJ k.zX j).zT ⟨#[97]⟩
  .rw[hm] at C
   have S:=AA (show By (AJ k.zX j).zT gA=false from hm);clear hm RR;go_wp2_with fail;refine C.mono ?_;rintro r w2 ⟨rfl,b2⟩;go_wp2_with fail;go_roundw
   case rel=>exact⟨j+1,by omega,by omega,by go_num,λj' h1 R=>by
    rcases Nat.lt_succ_iff_lt_or_eq.1 R with h|rfl
    .exact bm.out j' h1 h
    .exact S.out,Z.trans (b2.mono Z.size)⟩
   case measure=>simp[intOf];omega
  .rw[hm] at C
   have S:=AA (show Gm k=false by
    have nI:By (AJ k.zX j).zT gA=true:=hm;rw[HA.out];have:j=1∨j=2:=by omega
    rcases this with rfl|rfl<;>rw[nI]<;>simp)
   clear hm RR;go_wp2_with (refine C.mono ?_;rintro r w2 ⟨rfl,b2⟩);go_ret;exact⟨AH S.out.symm,bN.out.trans ((Z.trans (b2.mono Z.size)).mono bN.out.size)⟩
 .obtain rfl:j=3:=by omega
  obtain⟨b,bB,ua,uc,rfl,fx,D0,_,RR⟩:=(HE.out.below Z) 0 (by have:=eP.out;omega);have C:=CM.out _ 0 (by omega) wr RR;have dd:¬((3:Nat):Int)<k.zX.length:=by have:=eP.out;omega
  have nO:¬(3:Int)<k.zX.length:=by have:=eP.out;omega
  have pV:(0:Int)<k.zX.length:=by have:=eP.out;omega
  have S:=AA (show Gm k=By (AJ k.zX 0).zT ⟨#[97]⟩ by rw[HA.out,bm.out 1 (by omega) (by omega),bm.out 2 (by omega) (by omega)];simp[gA])
  have e0:bB+0*2=bB:=by omega
  rw[e0] at D0;clear RR bm;go_wp2_with (refine C.mono ?_;rintro r w2 ⟨rfl,b2⟩);go_ret;exact⟨AH S.out.symm,bN.out.trans ((Z.trans (b2.mono Z.size)).mono bN.out.size)⟩
theorem Uq{l:List Bo}{k:Nat}{wh:Int}(hk:k<l.length):Aj (l.take (k+1)) wh=Aj (l.take k) wh+(if(AC l k).w=wh then 1 else 0):=by
 unfold Aj;rw[DA (x:=AC l k) (A2 hk),sx]
 congr 1
 simp only[wZ,rT,OK,decide_eq_true_eq,vt]
theorem Xo{l:List Bo}{wh:Int}:Aj l wh<=l.length:=by unfold Aj;exact vW
theorem NI(mv iv ev cv sv lv qv:Value)(P:AR)(wh:Int)(w:World)(h:BK 3 DG w qv P.zY)(hl:P.zY.length<=1048576):
 Calls prog 43 #[AN mv iv ev cv sv lv qv P.zR P.zU,.int .i64 wh] w λr w'=>r=.returned (.int .i64 (Aj P.zY wh:Nat))/\Below w.heap.size w w':=by
 unfold AN;obtain⟨N0,av⟩:=Dd w (.cells #[mv,iv,ev,cv,sv,lv,qv,.int .i64 P.zR,.int .i64 P.zU] 32);obtain⟨aq,cq,rfl,_,_,mz⟩:=BK.open En (by decide) (BK.below h av);obtain⟨_,_,_,_,_,_,x6,_,_⟩:=AD N0;clear h;go_in;go_wp2_with fail;generalize w.alloc _=W0 at*;have HQ:=AA mz;clear mz N0;go_loopw [5,6] (λn ix wr=>∃k:Nat,k<=P.zY.length/\ix=.int .i64 k/\n=.int .i64 (Aj (P.zY.take k) wh:Nat)/\W0=wr) (λn ix _=>P.zY.length - (intOf ix).toNat)
 exact⟨0,yg _,rfl,rfl,rfl⟩
 obtain⟨k,hk,rfl,rfl,rfl⟩:=hrel
 by_cases bf:k<P.zY.length
 .have j5:(k:Int)<P.zY.length:=by omega
  obtain⟨b,bB,rfl,_,D0,_,_⟩:=HQ.out.zq bf;have S:=Uq (wh:=wh) bf;have ju:=Xo (l:=P.zY.take k) (wh:=wh);rw[xT] at ju
  by_cases hw:(AC P.zY k).w=wh
  .rw[if_pos hw] at S
   have t0:((AC P.zY k).w==wh)=true:=by simp[hw]
   have S:=AA S;generalize Aj (P.zY.take k) wh=n0 at*;clear hw;go_wp2_with fail;go_roundw;exact⟨k+1,by omega,by go_num,by rw[S.out];go_num,by first|rfl|trivial⟩;simp[intOf];omega
  .rw[if_neg hw] at S
   have t0:((AC P.zY k).w==wh)=false:=by simp[hw]
   have S:=AA S;clear hw;go_wp2_with fail;go_roundw;exact⟨k+1,by omega,by go_num,by rw[S.out,xK],by first|rfl|trivial⟩;simp[intOf];omega
 .obtain rfl:k=P.zY.length:=by omega
  have j5:¬(P.zY.length:Int)<P.zY.length:=by omega
  rw[xo];go_wp2_with fail;go_ret;exact⟨rfl,av⟩
theorem WF{l:List AV}{k:Nat}(hk:k<l.length):(l.take (k+1)).countP (λx=>decide (x.k=0))=(l.take k).countP (λx=>decide (x.k=0))+(if(zS l k).k=0 then 1 else 0):=by
 rw[DA (Cq hk),sx]
 congr 1
 simp only[wZ,rT,decide_eq_true_eq,vt]
theorem Qj(v:Value)(l:List AV)(w:World)(h:Bb w v l)(de:BP l=true):
 Calls prog 89 #[v] w λr w'=>r=.returned (.int .i64 (l.countP (λx=>decide (x.k=0)):Nat))/\Below w.heap.size w w':=by
 have CV:=DZ v l w h (Cg de);rw[de] at CV;obtain⟨ai,ci,rfl,_,_,H0⟩:=BK.open A0 (by decide) h;have j3:=(A1.1 de).1;have pM:(l.length:Int)<=12:=by omega
 have HH:=AA H0;have CV:=AA CV;clear h H0 de j3;go_in;go_wp2_with fail;go_loopw [3,4] (λn ix wr=>∃k:Nat,k<=l.length/\ix=.int .i64 k/\n=.int .i64 ((l.take k).countP (λx=>decide (x.k=0)):Nat)/\w=wr) (λn ix _=>l.length - (intOf ix).toNat)
 exact⟨0,yg _,rfl,rfl,rfl⟩
 obtain⟨k,hk,rfl,rfl,rfl⟩:=hrel
 by_cases bf:k<l.length
 .have j5:(k:Int)<l.length:=by omega
  obtain⟨b,bB,rfl,_,D0,_,_⟩:=HH.out.zP bf;have S:=WF bf;have ju:=vW (p:=λx:AV=>decide (x.k=0)) (l:=l.take k);rw[xT] at ju
  by_cases hw:(zS l k).k=0
  .rw[if_pos hw] at S
   have t0:((zS l k).k==0)=true:=by simp[hw]
   have S:=AA S;generalize List.countP _ (l.take k)=n0 at*;clear hw;go_wp2_with fail;go_roundw;exact⟨k+1,by omega,by go_num,by rw[S.out];go_num,by first|rfl|trivial⟩;simp[intOf];omega
  .rw[if_neg hw] at S
   have t0:((zS l k).k==0)=false:=by simp[hw]
   have S:=AA S;clear hw;go_wp2_with fail;go_roundw;exact⟨k+1,by omega,by go_num,by rw[S.out,xK],by first|rfl|trivial⟩;simp[intOf];omega
 .obtain rfl:k=l.length:=by omega
  have j5:¬(l.length:Int)<l.length:=by omega
  rw[xo];go_wp2_with (refine CV.out.mono ?_;rintro r w2 ⟨rfl,b2⟩);go_ret;exact⟨rfl,b2⟩
theorem U0{s:List (List Int)}{k:Nat}(hk:k<s.length)(h:∀j,j<k->(AG s j).isEmpty=false)(hp:(AG s k).isEmpty=true):Bd s=(k:Int):=by
 have g:∀j (hj:j<s.length),s[j]=AG s j:=λj hj=>by have:=KD hj;rw[yw hj] at this;exact yF this
 unfold Bd;rw[if_pos (OF (KD hk) hp)];have:s.findIdx List.isEmpty=k:=by
  rw[List.findIdx_eq hk];exact⟨by rw[g k hk];exact hp,λj hj=>by rw[g j (by omega)];exact h j hj⟩
 rw[this]
theorem Tk{s:List (List Int)}(h:∀j,j<s.length->(AG s j).isEmpty=false):Bd s= -1:=by
 unfold Bd;rw[if_neg];rw[LW (λk hk=>KD hk) h];simp
theorem VD(v:Value)(s:List (List Int))(w:World)(h:Bk w v s):Calls prog 196 #[v] w λe w'=>e=.returned (.int .i64 (Bd s))/\Below w.heap.size w w':=by
 obtain⟨ao,c,rfl,hc,ez,x0⟩:=h.open;unfold maxLen at ez;have HH:=AA x0;clear h x0;go_in;go_wp2_with fail;go_loopw [3] (λix wr=>∃k:Nat,k<=s.length/\ix=.int .i64 k/\(∀j,j<k->(AG s j).isEmpty=false)/\Below w.heap.size w wr) (λix _=>s.length - (intOf ix).toNat)
 exact⟨0,yg _,rfl,λj hj=>absurd hj (xN _),yD _ _⟩
 obtain⟨k,hk,rfl,ay,Z⟩:=hrel;have bm:=AA ay;clear ay
 by_cases bf:k<s.length
 .have cC:(k:Int)<(s.length:Int):=by omega
  obtain⟨b,bB,u,rfl,fx,x3,hr⟩:=(HH.out.below Z) k bf;obtain⟨au,cu,rfl,_,_,_⟩:=hr.open;cases hp:(AG s k).isEmpty
  .have t0:(((AG s k).length:Int)==0)=false:=by rw[<-hp];cases hx:AG s k<;>simp<;>omega
   have Hp:=AA hp;clear hp;go_wp2_with fail;go_roundw;exact⟨k+1,by omega,by go_num,Al bm.out Hp.out,Z⟩;simp[intOf];omega
  .have t0:(((AG s k).length:Int)==0)=true:=by rw[<-hp];cases hx:AG s k<;>simp<;>omega
   have S:=AA (U0 bf bm.out hp);have Hp:=AA hp;clear hp;go_wp2_with fail;go_ret;exact⟨Ch S.out.symm,Z⟩
 .have ek:k=s.length:=by omega
  have ay:=bm.out;rw[ek] at ay;have S:=AA (Tk ay);clear bm ay;go_wp2_with fail;go_ret;exact⟨Ch S.out.symm,Z⟩
theorem V0{k:AO}{c:Ac}(h:c.k=1):Ae k c=JO k c:=by unfold Ae;rw[if_pos h]
theorem VC{lo:Nat}{m:Value}{k:AO}{w:World}(h:Da lo w m iv ev cv k)(al:lo<=w.heap.size)(hk:DQ k)(call:Ac)(he:0<=call.e/\call.e<3)(R:call.k=1)(dZ:call.nm.size<=maxLen):
 Calls prog 171 #[.agg #[m,iv,ev,cv],.agg call.cs] w (LL lo w (Ae k call)):=by
 have bD:=SC.start h al call;have P0:Ae k call=if BV call.nm=false then(k,0,3) else if By (AJ k.zX call.e.toNat).zT call.nm=false then(k,0,1) else if Am k.zZ<0 then(k,0,4) else({k with zZ:=k.zZ.set (Am k.zZ).toNat ⟨1,call.nm,0⟩,mem:=k.mem.set (Am k.zZ).toNat [0,0,0,0]},Am k.zZ,0):=V0 R
 have db:=(Ar hk).1;have de:=(Ar hk).2.1;obtain⟨gm,a5,rfl,_⟩:=Eb.mems bD db;obtain⟨am,dr,cm,ai,ni,ci,ae,dN,ce,ac,nc,cc,em,rfl,rfl,rfl⟩:=bD.zQ;clear em;have S0:=AA bD;obtain⟨kk,e,a,b,c,nm⟩:=call;simp only at he dZ;obtain⟨en,rfl⟩:∃n:Nat,e=(n:Int):=⟨e.toNat,by omega⟩
 simp only[Ac.cs,yd] at S0 P0 ⊢;have HP:=AA P0;have A:=AA hk;have CR:=AA (λW=>BJ (EX nm W dZ));have CM:=AA (λW (h:F7 W (.slice ae dN ce) k.zX)=>Jr (.slice (some ⟨gm,0,none⟩) 12 a5) (.slice ai ni ci) (.slice ae dN ce) (.slice ac nc cc) k en nm W h hk (by omega) dZ);have CF:=AA (λW (h:Bb W (.slice ai ni ci) k.zZ)=>Oj (.slice ai ni ci) k.zZ W h);obtain⟨H,N,X,D⟩:=S0.out.xs;obtain⟨y0,y1,y2,y3,y4,y5⟩:=S0.out.ys6;have es:=AA db;have oT:=AA de;generalize hrv:BV nm=rv at CR HP;generalize hmb:By (AJ k.zX en).zT nm=mb at CM HP;have oM:=AA hrv;clear h R bD he hk db de dZ P0 hrv hmb;generalize hW0:((w.alloc _).alloc _).alloc _=W0 at*;go_in;go_wp2_with fail;refine(CR.out _).mono ?_;rintro r w0 ⟨rfl,av⟩;have S0:=AA (S0.out.below av);clear H N X D y0 y1 y2 y3 y4 y5 av hW0;cases rv
 .have a0:=AA (show Ae k ⟨kk,(en:Int),a,b,c,nm⟩=(k,0,3) by rw[HP.out];rfl)
  clear HP CR CM CF;obtain⟨⟨H,N,X,D⟩,⟨⟨z0,z1,z2,z3⟩,bC⟩,HE,HR⟩:=S0.out.yH al (v:=0) (code:=3) (a0.out) (by decide);go_wp2_with ((try simp only[xL,Exit.then]);with_reducible refine yr ?_ rfl HR.out;obtain⟨E0,E1,E2,E3⟩:=HE.out;simp[results,uP,go_sem,E0,E1,E2,E3])
 .obtain⟨H,N,X,D⟩:=S0.out.xs
  obtain⟨y0,y1,y2,y3,y4,y5⟩:=S0.out.ys6;go_wp2_with fail;refine(CM.out _ S0.out.K.2.2.1).mono ?_;rintro r w1 ⟨rfl,bY⟩;have S1:=AA (S0.out.below bY);clear H N X D y0 y1 y2 y3 y4 y5 bY;cases mb
  .have a0:=AA (show Ae k ⟨kk,(en:Int),a,b,c,nm⟩=(k,0,1) by rw[HP.out];rfl)
   obtain⟨⟨H,N,X,D⟩,⟨⟨z0,z1,z2,z3⟩,bC⟩,HE,HR⟩:=S1.out.yH al (v:=0) (code:=1) (a0.out) (by decide);go_wp2_with ((try simp only[xL,Exit.then]);with_reducible refine yr ?_ rfl HR.out;obtain⟨E0,E1,E2,E3⟩:=HE.out;simp[results,uP,go_sem,E0,E1,E2,E3])
  .have bA:=AA (show Ae k ⟨kk,(en:Int),a,b,c,nm⟩=if Am k.zZ<0 then(k,0,4) else({k with zZ:=k.zZ.set (Am k.zZ).toNat ⟨1,nm,0⟩,mem:=k.mem.set (Am k.zZ).toNat [0,0,0,0]},Am k.zZ,0) by rw[HP.out];rfl)
   obtain⟨H,N,X,D⟩:=S1.out.xs;clear HP;go_wp2_with fail;refine(CF.out _ S1.out.K.2.1).mono ?_;rintro r w2 ⟨rfl,az⟩;have S2:=AA (S1.out.below az);clear H N X D az
   by_cases g8:Am k.zZ<0
   .have a0:=AA (show Ae k ⟨kk,(en:Int),a,b,c,nm⟩=(k,0,4) by rw[bA.out,if_pos g8])
    clear bA;obtain⟨⟨H,N,X,D⟩,⟨⟨z0,z1,z2,z3⟩,bC⟩,HE,HR⟩:=S2.out.yH al (v:=0) (code:=4) (a0.out) (by decide);go_wp2_with ((try simp only[xL,Exit.then]);with_reducible refine yr ?_ rfl HR.out;obtain⟨E0,E1,E2,E3⟩:=HE.out;simp[results,uP,go_sem,E0,E1,E2,E3])
   .obtain⟨nX,_,_⟩:=Fg (zZ:=k.zZ) (by omega)
    obtain⟨f,hf⟩:∃f:Nat,Am k.zZ=(f:Int):=⟨(Am k.zZ).toNat,by omega⟩
    have eK:f<12:=by have:=A.out.len;omega
    have a0:=AA (show Ae k ⟨kk,(en:Int),a,b,c,nm⟩=({k with zZ:=k.zZ.set f ⟨1,nm,0⟩,mem:=k.mem.set f [0,0,0,0]},(f:Int),0) by rw[bA.out,if_neg g8,hf];rfl);have CT:=AA (λW hi=>Ql (.slice ai ni ci) k.zZ nm f W hi oT.out oM.out hf eK);obtain⟨H,N,X,D⟩:=S2.out.xs;obtain⟨y0,y1,y2,y3,y4,y5⟩:=S2.out.ys6;rw[hf];clear bA hf g8 nX;go_wp2_with fail;refine(CT.out _ S2.out.K.2.1).mono ?_;rintro r w3 ⟨v',rfl,hO,cg⟩;clear H N X D y0 y1 y2 y3 y4 y5;have S3:=AA (S2.out.zm cg hO);have iX:=AK (S2.out.below cg).yI.1;have lm:=(S2.out.below cg).xs.2.1;obtain⟨a9,c9,e9,_,_⟩:=hO.rd.shape;generalize wO _=n9 at e9;subst e9;clear hO cg;generalize hW9:w3.setCell _ _=W9 at S3;obtain⟨H,N,X,D⟩:=S3.out.xs;have bk:=S3.out.lts.2.1;have lN:(f:Int)<12:=by omega
    have iG:=(Ai.1 es.out).1;go_wp2_with fail;refine BR 4 49 [.p w.heap.size 0,.s gm 12 a5,.i ((f:Int)),.z] (λix vv ww=>match ix with
     |3=>AF W9.heap.size ww vv [0,0,0,0]
     |_=>True) ?_ ?_ ?_
    .intro i hi o Y a O V J L HL A
     match i,hi with
     |0,_|2,_=>exact sP Y A V J
     |1,_=>exact sL Y A V J (hl:=F9 (bc L bk H))
     |3,_=>obtain rfl:=yF Y;clear J V;obtain⟨i0,f9,gt,ex,fp⟩:=info_parts Tryz.zI;obtain⟨w9,cp,h3,h4⟩:=run_make_full (P:=prog) O O.heap.size 29 3 i0 _ 1 underlying29 f9 gt ex .i64 .i64 4 (by rw[fp];decide) (by decide) (yv _);have h5:=Below.zu h4;rw[VL (.int .i64 0) rfl 4] at h3;have iz:(Instr.makeSlice 29 (.int .i64 4) (.int .i64 4)).run prog O=.ok (.slice (some ⟨O.heap.size,0,none⟩) 4 4) w9:=cp;clear f9 gt ex fp cp;refine yE ?_;go_simp;exact A.out _ _ (BU h3 L.size) h5
    .intro i hi vv wz dc bs hz
     match i,hi with
     |3,_=>exact(AF.below hz bs)
     |0,_|1,_|2,_=>exact hz
    .intro E O hR L
     have q1:(E 1)=.slice (some ⟨gm,0,none⟩) 12 a5:=BS hR 1;have q2:(E 2)=.int .i64 f:=BS hR 2;have q3:AF W9.heap.size O (E 3) [0,0,0,0]:=BS hR 3;clear hR;simp only[Ak,Ah,yC,yy,yz,yx,q1,q2];simp;generalize E 3=z3 at q3 ⊢;clear q1 q2;have S4:=AA (S3.out.newRow iG.symm L q3 (by rw[iG];exact eK));obtain⟨pW,l0,kv,fd,pq,e2,_,_,D2,_⟩:=(S3.out.below L).yI.zd es.out eK;cases e2;have Fr:=AK (A6 ((S3.out.below L).yI.2.2.1.choose_spec.1) gm rfl).choose_spec;obtain⟨a9,c9,e9,_,_⟩:=q3.rd.open;rw[show([0,0,0,0]:List Int).length=4 from rfl] at e9;subst e9;generalize hW10:O.setCell _ _=W10 at S4;clear H N X D q3 L bk;obtain⟨⟨H,N,X,D⟩,⟨⟨z0,z1,z2,z3⟩,bC⟩,HE,HR⟩:=S4.out.fin al (v:=(f:Int)) (code:=0) (a0.out);go_wp2_with ((try simp only[xL,Exit.then]);with_reducible refine yr ?_ rfl HR.out;obtain⟨E0,E1,E2,E3⟩:=HE.out;simp[results,uP,go_sem,E0,E1,E2,E3])
theorem YO{m:List (List Int)}{xs:List AV}{f:Nat}{kind:Int}:(IF m xs f kind ss).2=0∨(IF m xs f kind ss).2=1∨(IF m xs f kind ss).2=2:=by
 unfold IF
 repeat' split
 all_goals simp
theorem Vd{m:List (List Int)}{xs:List AV}{f:Nat}:(Dz m xs f).2=0∨(Dz m xs f).2=1∨(Dz m xs f).2=2:=by
 unfold Dz
 repeat' split
 all_goals simp
theorem WT{lo:Nat}{k:AO}{w:World}(h:Da lo w mv iv ev cv k)(al:lo<=w.heap.size)(hk:DQ k)(call:Ac)(he:0<=call.e/\call.e<3)(R:call.k=4∨call.k=5):
 Calls prog 174 #[.agg #[mv,iv,ev,cv],.agg call.cs] w (LL lo w (Ae k call)):=by
 have bD:=SC.start h al call;have P0:=Xl (k:=k) R;obtain⟨gi,ar,e8,dS,_⟩:=bD.zZ (by rw[hk.len];omega);rw[hk.len] at e8;obtain⟨am,dr,cm,ai,ni,ci,ae,dN,ce,ac,nc,cc,em,ei,ee,ec⟩:=bD.zQ;subst e8;clear ei;have S0:=AA bD;obtain⟨kk,e,a,b,c,nm⟩:=call;simp only at he R;obtain⟨en,rfl⟩:∃n:Nat,e=(n:Int):=⟨e.toNat,by omega⟩
 have df:en<3:=by omega
 simp only[Ac.cs] at S0 P0 ⊢;obtain⟨rfl,rfl,rfl⟩:=xU em (xU ee ec);have HP:=AA P0;have A:=AA hk;have Hl:=AA hk.len;obtain⟨bad,cF⟩:∃b',decide (BZ a 0 11=false∨(zS k.zZ a.toNat).k=0∨(kk=4/\Bh b=false))=b':=⟨_,rfl⟩
 have HB:=AA cF;obtain⟨H,N,X,D⟩:=S0.out.xs;obtain⟨y0,y1,y2,y3,y4,y5⟩:=S0.out.ys6;clear h bD he hk P0 R cF;go_in;go_upto_region 1 with fail;go_cut [33] (λna O=>na=.bool bad/\SC lo w.heap.size ⟨kk,(en:Int),a,b,c,nm⟩ w O (.slice am dr cm) (.slice (some ⟨gi,0,none⟩) 12 ar) (.slice ae dN ce) (.slice ac nc cc) k)
 case first=>
  go_wp2_with fail;refine(BJ (EI _ _)).mono ?_;rintro r w1 ⟨rfl,bY⟩;have S1:=AA (S0.out.below bY);clear H N X D y0 y1 y2 y3 y4 y5 bY;cases e1:BZ a 0 11
  .have E1:=AA e1
   clear e1;go_wp2_with fail;go_meet
   case rel=>exact⟨by rw[<-HB.out];simp[E1.out],S1.out⟩
  have ab:=AZ.1 e1;have E1:=AA e1;clear e1;obtain⟨z,rfl⟩:∃n:Nat,a=(n:Int):=⟨a.toNat,by omega⟩
  have eY:(z:Int)<12:=by omega
  obtain⟨H,N,X,D⟩:=S1.out.xs;obtain⟨y0,y1,y2,y3,y4,y5⟩:=S1.out.ys6;obtain⟨D0,_,_⟩:=S1.out.zS (f:=z) (by rw[Hl.out];omega);have HB:=AA (show decide (BZ (z:Int) 0 11=false∨(zS k.zZ z).k=0∨(kk=4/\Bh b=false))=bad from HB.out);generalize(zS k.zZ z).k=kd at*
  by_cases e0:kd=0
  .subst e0
   go_wp2_with fail;go_meet
   case rel=>exact⟨by rw[<-HB.out];simp,S1.out⟩
  have t0:(kd==0)=false:=by simp[e0]
  have E0:=AA e0;clear e0;cases tk:(kk==4)
  .have TK:=AA (show kk≠4 by simpa using tk)
   go_wp2_with fail;go_meet
   case rel=>exact⟨by rw[<-HB.out];simp[E1.out,E0.out,TK.out],S1.out⟩
  have TK:=AA (show kk=4 by simpa using tk);go_wp2_with fail;refine(BJ (Fj _ _)).mono ?_;rintro r w2 ⟨rfl,az⟩;have S2:=AA (S1.out.below az);clear H N X D y0 y1 y2 y3 y4 y5 D0 az;go_wp2_with fail;go_meet
  case rel=>exact⟨by rw[<-HB.out];cases hw:Bh b<;>simp[E1.out,E0.out,TK.out],S2.out⟩
 case rest=>
 obtain⟨rfl,hS⟩:=hcut;have S2:=AA hS;obtain⟨w2,rfl⟩:∃w2,w2=wc:=⟨_,rfl⟩
 clear H N X D y0 y1 y2 y3 y4 y5 hS S0;cases bad
 rotate_left
 .have a0:=AA (HP.out.trans (if_pos (of_decide_eq_true HB.out)))
  clear HP HB;obtain⟨⟨H,N,X,D⟩,⟨⟨z0,z1,z2,z3⟩,bC⟩,HE,HR⟩:=S2.out.yH al (v:=0) (code:=3) (a0.out) (by decide);go_wp2_with ((try simp only[xL,Exit.then]);with_reducible refine yr ?_ rfl HR.out;obtain⟨E0,E1,E2,E3⟩:=HE.out;simp[results,uO,go_sem,E0,E1,E2,E3])
 have fZ:=of_decide_eq_false HB.out;have jr:=HP.out.trans (if_neg fZ);have ab:=AZ.1 (show BZ a 0 11=true by cases e1:BZ a 0 11;(· exact absurd (.inl e1) fZ);(· rfl));obtain⟨z,rfl⟩:∃n:Nat,a=(n:Int):=⟨a.toNat,by omega⟩
 have cr:z<12:=by omega
 have eY:(z:Int)<12:=by omega
 have gz:kk=4->Bh b=true:=λx=>by cases e:Bh b;(· exact absurd (.inr (.inr ⟨x,e⟩)) fZ);(· rfl)
 have HG:=AA (Cg (Ar A.out).2.1 _ (yh (Cq (show z<k.zZ.length by rw[Hl.out];exact cr))));have CP:=AA (λW (h:Mu W (.slice am dr cm) (.slice (some ⟨gi,0,none⟩) 12 ar) (.slice ae dN ce) (.slice ac nc cc) k)=>Re _ _ _ _ k kk b c en z nm W h A.out df cr gz);replace jr:Ae k ⟨kk,(en:Int),(z:Int),b,c,nm⟩=if By (AJ k.zX en).zT (zS k.zZ z).g=false then(k,0,1) else ET k (if kk=4 then IF k.mem k.zZ z b (AJ k.zX en).zT else Dz k.mem k.zZ z):=jr
 have bA:=AA jr;have HC:=AA (show(if kk=4 then IF k.mem k.zZ z b (AJ k.zX en).zT else Dz k.mem k.zZ z).2=0∨(if kk=4 then IF k.mem k.zZ z b (AJ k.zX en).zT else Dz k.mem k.zZ z).2=1∨(if kk=4 then IF k.mem k.zZ z b (AJ k.zX en).zT else Dz k.mem k.zZ z).2=2 by
  split
  .exact YO
  .exact Vd)
 generalize(if kk=4 then IF k.mem k.zZ z b (AJ k.zX en).zT else Dz k.mem k.zZ z)=res at CP bA HC;clear HP HB fZ ab gz jr;obtain⟨H,N,X,D⟩:=S2.out.xs;obtain⟨y0,y1,y2,y3,y4,y5⟩:=S2.out.ys6;obtain⟨_,D1,_⟩:=S2.out.zS (f:=z) (by rw[Hl.out];exact cr);obtain⟨bl,bk,_,_⟩:=S2.out.lts;have j8:=S2.out.zl;have CM:=AA (λW (h:F7 W (.slice ae dN ce) k.zX)=>Jr (.slice am dr cm) (.slice (some ⟨gi,0,none⟩) 12 ar) (.slice ae dN ce) (.slice ac nc cc) k en (zS k.zZ z).g W h A.out df HG.out);generalize(zS k.zZ z).g=gd at D1 CM bA;generalize By (AJ k.zX en).zT gd=mb at CM bA;go_wp2_with fail;refine Aa 10 64 [.a #[.slice am dr cm,.slice (some ⟨gi,0,none⟩) 12 ar,.slice ae dN ce,.slice ac nc cc],.p (w.heap.size+1) 1,.i ((en:Int)),.p w.heap.size 1,.s gi 12 ar,.p (w.heap.size+1) 2,.i ((z:Int)),.p gi (z*3),.p gi (z*3+1),.t gd] (λ_ _ _=>True) ?_ ?_
 .intro i hi o Y a O V J L HL A
  have bt:=bc L bk H;have bp:=bc L bk N;have bw:=bc L bk X;have bK:=bc L bk D;have cy:=bc L bl y1;have cT:=bc L bl y2;have gW:=bc L j8 D1
  match i,hi with
  |0,_=>exact sL Y A V J (hl:=OM ‹_› ‹_› ‹_› ‹_›)
  |1,_|3,_|5,_|8,_=>exact sP Y A V J
  |2,_|6,_=>exact sL Y A V J (hl:=FT ‹_›)
  |4,_=>exact sL Y A V J (hl:=GY ‹_›)
  |7,_=>exact sI Y A V J (hr:=by clear J V A;go_simp)
  |9,_=>exact sL Y A V J (hl:=ZP ‹_›)
 .intro E O hR L
  have q0:(E 0)=.agg #[.slice am dr cm,.slice (some ⟨gi,0,none⟩) 12 ar,.slice ae dN ce,.slice ac nc cc]:=BS hR 0;have q2:(E 2)=.int .i64 en:=BS hR 2;have q9:(E 9)=.string gd:=BS hR 9;clear hR;simp only[Ak,Ah,yC,yy,yz,yx,q0,q2,q9];simp;clear q0 q2 q9;have S3:=AA (S2.out.below L);clear H N X D y0 y1 y2 y3 y4 y5 D1 L;go_wp2_with fail;refine(CM.out _ S3.out.K.2.2.1).mono ?_;rintro r w4 ⟨rfl,ep⟩;have S4:=AA (S3.out.below ep);clear ep;cases mb
  .have a0:=AA (show Ae k ⟨kk,(en:Int),(z:Int),b,c,nm⟩=(k,0,1) by rw[bA.out];rfl)
   obtain⟨⟨H,N,X,D⟩,⟨⟨z0,z1,z2,z3⟩,bC⟩,HE,HR⟩:=S4.out.yH al (v:=0) (code:=1) (a0.out) (by decide);go_wp2_with ((try simp only[xL,Exit.then]);with_reducible refine yr ?_ rfl HR.out;obtain⟨E0,E1,E2,E3⟩:=HE.out;simp[results,uO,go_sem,E0,E1,E2,E3])
  .obtain⟨H,N,X,D⟩:=S4.out.xs
   obtain⟨y0,y1,y2,y3,y4,y5⟩:=S4.out.ys6;obtain⟨ri,rc⟩:=res;have a0:=AA (show Ae k ⟨kk,(en:Int),(z:Int),b,c,nm⟩=ET k (ri,rc) by rw[bA.out];rfl);go_wp2_with fail;refine(CP.out _ S4.out.K).mono ?_;rintro r w5 ⟨v',rfl,hO,dg⟩;simp only at hO ⊢;clear H N X D y0 y1 y2 y3 y4 y5 bA
   rcases HC.out with e|e|e<;>subst e
   .have S5:=AA (S4.out.zm dg hO)
    have iX:=AK (S4.out.below dg).yI.1;have lm:=(S4.out.below dg).xs.2.1;obtain⟨a9,c9,e9,_,_⟩:=hO.rd.shape;generalize wO _=n9 at e9;subst e9;clear hO dg;generalize hW9:w5.setCell _ _=W9 at S5;obtain⟨⟨H,N,X,D⟩,⟨⟨z0,z1,z2,z3⟩,bC⟩,HE,HR⟩:=S5.out.fin al (v:=0) (code:=0) (a0.out);go_wp2_with ((try simp only[xL,Exit.then]);with_reducible refine yr ?_ rfl HR.out;obtain⟨E0,E1,E2,E3⟩:=HE.out;simp[results,uO,go_sem,E0,E1,E2,E3])
   all_goals
    have S5:=AA (S4.out.below dg);obtain⟨a9,c9,e9,_,_⟩:=hO.rd.shape;generalize wO _=n9 at e9;subst e9;clear hO dg;obtain⟨⟨H,N,X,D⟩,⟨⟨z0,z1,z2,z3⟩,bC⟩,HE,HR⟩:=S5.out.yH al (v:=0) (code:=_) (a0.out) (by first|exact(by decide:NU 1≠0)|exact(by decide:NU 2≠0));go_wp2_with ((try simp only[xL,Exit.then]);with_reducible refine yr ?_ rfl HR.out;obtain⟨E0,E1,E2,E3⟩:=HE.out;simp[results,uO,NU,go_sem,E0,E1,E2,E3])
theorem ah{k:AO}(h:DQ k){o:Int}:(IJ k.zZ o).length=12/\∀n<12,0 - 1<=(zS (IJ k.zZ o) n).r/\(zS (IJ k.zZ o) n).r<=47:=by
 unfold IJ
 split
 .refine⟨DF.trans h.len,λn hn=>?_⟩
  have r1:=h.yP hn;rw[Fi]
  split
  .next hx=>
   rw[hx.1] at r1
   show 0 - 1<=(zS k.zZ _).r+ -1/\(zS k.zZ _).r+ -1<=47
   omega
  .omega
 .exact⟨h.len,λn hn=>by have r1:=h.yP hn;omega⟩
theorem VB{lo:Nat}{k:AO}{w:World}(h:Da lo w mv iv ev cv k)(al:lo<=w.heap.size)(hk:DQ k)(call:Ac)(he:0<=call.e/\call.e<3)(R:call.k=7):
 Calls prog 176 #[.agg #[mv,iv,ev,cv],.agg call.cs] w (LL lo w (Ae k call)):=by
 have bD:=SC.start h al call;have P0:=(Vz (k:=k) R).trans Zk;obtain⟨ge,a7,e9,_,_⟩:=bD.zX (by rw[hk.zN];omega);rw[hk.zN] at e9;obtain⟨gi,ar,e8,_,_⟩:=bD.zZ (by rw[hk.len];omega);rw[hk.len] at e8;obtain⟨am,dr,cm,ai,ni,ci,ae,dN,ce,ac,nc,cc,em,ei,ee,ec⟩:=bD.zQ;subst e8 e9 em ec;clear ei ee;have S0:=AA bD;obtain⟨kk,e,ra,b,c,nm⟩:=call;simp only at he R;subst R;obtain⟨en,rfl⟩:∃n:Nat,e=(n:Int):=⟨e.toNat,by omega⟩
 have df:en<3:=by omega
 have gE:(en:Int)<3:=by omega
 simp only[Ac.cs,yd] at S0 P0 ⊢;obtain⟨rt,eI⟩:∃r,(AJ k.zX en).root=r:=⟨_,rfl⟩
 rw[eI] at P0;have mi:=AA eI;have HP:=AA P0;have A:=AA hk;obtain⟨bad,cF⟩:∃b,decide (ra≠ -1/\(BZ ra 0 11=false∨(zS k.zZ ra.toNat).k≠3))=b:=⟨_,rfl⟩
 have HB:=AA cF;obtain⟨H,N,X,D⟩:=S0.out.xs;obtain⟨y0,y1,y2,y3,y4,y5⟩:=S0.out.ys6;clear h bD he hk eI cF P0;go_in;go_upto_region 1 with fail;go_cut [26] (λnb O=>nb=.bool bad/\SC lo w.heap.size ⟨7,(en:Int),ra,b,c,nm⟩ w O (.slice am dr cm) (.slice (some ⟨gi,0,none⟩) 12 ar) (.slice (some ⟨ge,0,none⟩) 3 a7) (.slice ac nc cc) k)
 case first=>
  by_cases e1:ra= -1
  .have t1:(ra != -1)=false:=by simp[e1]
   have E1:=AA e1;clear e1;go_wp2_with fail;go_meet
   case rel=>exact⟨by rw[<-HB.out];simp[E1.out],S0.out⟩
  .have t1:(ra != -1)=true:=by simp[e1]
   have E1:=AA e1;clear e1;go_wp2_with fail;refine(BJ (EI _ _)).mono ?_;rintro r w1 ⟨rfl,bY⟩;have S1:=AA (S0.out.below bY);clear H N X D y0 y1 y2 y3 y4 y5;cases e2:BZ ra 0 11
   .go_wp2_with fail
    go_meet
    case rel=>exact⟨by rw[<-HB.out];simp[E1.out,e2],S1.out⟩
   .have ab:=AZ.1 e2
    have E2:=AA e2;clear e2;obtain⟨z,rfl⟩:∃n:Nat,ra=(n:Int):=⟨ra.toNat,by omega⟩
    have eY:(z:Int)<12:=by omega
    obtain⟨H,N,X,D⟩:=S1.out.xs;obtain⟨y0,y1,y2,y3,y4,y5⟩:=S1.out.ys6;obtain⟨d0,_,_⟩:=S1.out.zS (f:=z) (by rw[A.out.len];omega);go_wp2_with fail;go_meet
    case rel=>exact⟨by rw[<-HB.out];by_cases h3:(zS k.zZ z).k=3<;>simp[E1.out,E2.out,h3],S1.out⟩
 case rest=>
 obtain⟨rfl,hS⟩:=hcut;have S2:=AA hS;obtain⟨w2,rfl⟩:∃w2,w2=wc:=⟨_,rfl⟩
 clear H N X D y0 y1 y2 y3 y4 y5 hS S0;cases bad
 .have bA:=AA (HP.out.trans (if_neg (of_decide_eq_false HB.out)))
  have Ha:=AA (show(ra= -1∨0<=ra)/\ra<12 by
   have:=of_decide_eq_false HB.out
   by_cases e1:ra= -1
   .omega
   .cases e2:BZ ra 0 11
    .exact absurd ⟨e1,.inl e2⟩ this
    .have:=AZ.1 e2
     omega)
  clear HP HB;obtain⟨H,N,X,D⟩:=S2.out.xs;obtain⟨y0,y1,y2,y3,y4,y5⟩:=S2.out.ys6;obtain⟨bl,bk,_,_⟩:=S2.out.lts;have eX:=S2.out.yU;obtain⟨ua,uc,D0,D1,h2⟩:=S2.out.env (j:=en) (by rw[A.out.zN];exact df);have RM:=S2.out.K.1;have RI:=S2.out.K.2.1;have CX:=AA (λW (hW:Below w2.heap.size w2 W)=>JT _ k.mem ra W (RM.below hW) (Ar A.out).1 Ha.out.2);have CA:=AA (λW (hW:Below w2.heap.size w2 W) v2 (R:Ax W v2 (Az (Er k.mem ra)))=>by have:=GN _ v2 _ k.zZ (Er k.mem ra) (AJ k.zX en).zT W (BK.below RI hW) R (BK.below h2 hW) (λf hf=>by have:=zw Ha.out.2 f ((GP Ha.out.2 f).1 hf);have:=A.out.len;omega) (Cg (Ar A.out).2.1) (IV A.out df);rw[GH (GP Ha.out.2)] at this;exact this);generalize BM k.zZ (Be k.mem ra) (AJ k.zX en).zT=bb at CA bA;clear RM RI h2;go_wp2_with fail;refine BR 14 98 [.p w.heap.size 1,.s gi 12 ar,.p w.heap.size 0,.v (.slice am dr cm),.p (w.heap.size+1) 2,.i ra,.z,.p w.heap.size 2,.s ge 3 a7,.p (w.heap.size+1) 1,.i ((en:Int)),.p ge (en*2),.p ge (en*2),.v (.slice ua (AJ k.zX en).zT.length uc)] (λix vv ww=>match ix with
   |6=>AF w2.heap.size ww vv (Az (Er k.mem (ra)))
   |_=>True) ?_ ?_ ?_
  .intro i hi o Y a O V J L HL A
   have bw:=bc L bl y2;have cy:=bc L bl y1
   match i,hi with
   |0,_|2,_|4,_|7,_|9,_|12,_=>exact sP Y A V J
   |1,_=>exact sL Y A V J (hl:=GY (bc L bk N))
   |3,_=>exact sL Y A V J (hl:=F9 (bc L bk H))
   |5,_|10,_=>exact sL Y A V J (hl:=FT ‹_›)
   |6,_=>exact sC Y A V J (CX.out _ L) (by rintro e w_ ⟨v',rfl,hO,az⟩;exact⟨_,rfl,(BU hO L.size),az⟩)
   |8,_=>exact sL Y A V J (hl:=OL (bc L bk X))
   |11,_=>exact sI Y A V J (hr:=by clear J V A;go_simp)
   |13,_=>exact sL Y A V J (hl:=Li (bc L eX D0))
  .intro i hi vv wz dc bs hz
   match i,hi with
   |6,_=>exact(AF.below hz bs)
   |0,_|1,_|2,_|3,_|4,_|5,_|7,_|8,_|9,_|10,_|11,_|12,_|13,_=>exact hz
  .intro E O hR L
   have q1:(E 1)=.slice (some ⟨gi,0,none⟩) 12 ar:=BS hR 1;have q6:AF w2.heap.size O (E 6) (Az (Er k.mem (ra))):=BS hR 6;have dw:(E 13)=.slice ua (AJ k.zX en).zT.length uc:=BS hR 13;clear hR;simp only[Ak,Ah,yC,yy,yz,yx,q1,dw];simp;generalize E 6=z6 at q6 ⊢;clear q1 dw;have S3:=AA (S2.out.below L);obtain⟨a8,c8,e8,_⟩:=q6.rd.open;have HQ:=AA q6.rd;generalize wO _=n8 at e8;subst e8;have eE:=AA L;clear H N X D y0 y1 y2 y3 y4 y5 D0 D1 L q6;go_wp2_with fail;refine(CA.out _ eE.out _ HQ.out).mono ?_;rintro r w4 ⟨rfl,ep⟩;have S4:=AA (S3.out.below ep);clear ep eE HQ CA;cases bb
   .have a0:=AA (bA.out.trans (if_pos rfl))
    obtain⟨⟨H,N,X,D⟩,⟨⟨z0,z1,z2,z3⟩,bC⟩,HE,HR⟩:=S4.out.yH al (v:=0) (code:=1) (a0.out) (by decide);go_wp2_with ((try simp only[xL,Exit.then]);with_reducible refine yr ?_ rfl HR.out;obtain⟨E0,E1,E2,E3⟩:=HE.out;simp[results,tS,go_sem,E0,E1,E2,E3])
   have a0:=AA (bA.out.trans (if_neg (by decide)));clear bA;obtain⟨H,N,X,D⟩:=S4.out.xs;obtain⟨y0,y1,y2,y3,y4,y5⟩:=S4.out.ys6;obtain⟨_,_,_,D1,_⟩:=S4.out.env (j:=en) (by rw[A.out.zN];exact df);rw[mi.out] at D1;go_upto_if 53 with fail;clear H N X D y0 y1 y2 y3 y4 y5 D1;go_cut [] (λO=>SC lo w.heap.size ⟨7,(en:Int),ra,b,c,nm⟩ w O (.slice am dr cm) (.slice (some ⟨gi,0,none⟩) 12 ar) (.slice (some ⟨ge,0,none⟩) 3 a7) (.slice ac nc cc) {k with zZ:=IJ k.zZ rt})
   case first=>
    by_cases Y:rt<0
    .have t5:¬(0:Int)<=rt:=by omega
     go_wp2_with fail;go_meet
     case rel=>exact(by unfold IJ;rw[if_neg (by omega)];exact S4.out)
    .obtain⟨rn,rfl⟩:∃n:Nat,rt=(n:Int):=⟨rt.toNat,by omega⟩
     have cz:rn<12:=by have:=zA A.out df;rw[mi.out] at this;omega
     have t5:(0:Int)<=(rn:Int):=by omega
     clear Y;obtain⟨H,N,X,D⟩:=S4.out.xs;obtain⟨y0,y1,y2,y3,y4,y5⟩:=S4.out.ys6;obtain⟨bl,bk,_,_⟩:=S4.out.lts;have dS:=S4.out.zl;obtain⟨_,_,d2⟩:=S4.out.zS (f:=rn) (by show rn<(k.zZ).length;have:=A.out.len;omega)
     try simp only at d2
     have eh:=A.out.yP cz;generalize hrv:(zS (k.zZ) rn).r=rv at d2 eh;obtain⟨nr,hnr⟩:∃nr,rv - 1=nr:=⟨_,rfl⟩
     have fi:=AA hnr;clear hnr;have gK:(rn:Int)<12:=by omega
     go_wp2_with fail;refine Aa 10 98 [.p w.heap.size 1,.s gi 12 ar,.i ((rn:Int)),.p w.heap.size 1,.s gi 12 ar,.i ((rn:Int)),.p gi (rn*3),.p gi (rn*3+2),.i rv,.i nr] (λ_ _ _=>True) ?_ ?_
     .intro i hi o Y a O V J L HL A
      have bt:=bc L bk N;have bp:=bc L dS d2
      match i,hi with
      |0,_|2,_|3,_|5,_|7,_=>exact sP Y A V J
      |1,_|4,_=>exact sL Y A V J (hl:=GY ‹_›)
      |6,_=>exact sI Y A V J (hr:=by clear J V A;go_simp)
      |8,_=>exact sL Y A V J (hl:=FT ‹_›)
      |9,_=>clear bt bp;obtain rfl:=yF Y;have d8:(a.tmps[62]?.getD undef)=.int .i64 rv:=Ba J 8;clear J V;refine yE ?_;go_simp;exact A.out _ _ (by show xY .i64 (wR.wrap (rv - 1))=.int .i64 nr;rw[xA _ (by omega),fi.out]) (yD _ _)
     .intro E O hR L
      have q1:(E 1)=.slice (some ⟨gi,0,none⟩) 12 ar:=BS hR 1;have q2:(E 2)=.int .i64 rn:=BS hR 2;have q9:(E 9)=.int .i64 nr:=BS hR 9;clear hR;simp only[Ak,Ah,yC,yy,yz,yx,q1,q2,q9];simp;clear q1 q2 q9;have SB:=AA (S4.out.below L);obtain⟨_,_,eZ⟩:=SB.out.zS (f:=rn) (by show rn<(k.zZ).length;have:=A.out.len;omega);have Fr:=SB.out.fzi (rn*3+2);have S5:=SB.out.info (by show 12=(k.zZ).length;have:=A.out.len;omega) (f:=rn) (by show rn<(k.zZ).length;have:=A.out.len;omega) (-1)
      try simp only at S5 eZ
      rw[hrv] at S5 eZ;rw[show rv+ -1=nr by have:=fi.out;omega] at S5;replace S5:=AA S5;generalize hW5:O.setCell _ _=W5 at S5;clear H N X D y0 y1 y2 y3 y4 y5 d2 L SB;go_wp2_with fail;go_meet
      case rel=>exact(by unfold IJ;rw[if_pos (by omega),yd];exact S5.out)
   case rest=>
   have hX:=ah (o:=rt) A.out;generalize IJ k.zZ rt=x2 at*;obtain⟨pT,lO⟩:=hX;have S5:=AA hcut;obtain⟨W5,rfl⟩:∃W5,W5=wc:=⟨_,rfl⟩
   clear hcut S4;obtain⟨y0,y1,y2,y3,y4,y5⟩:=S5.out.ys6;go_upto_if 68 with fail;clear y0 y1 y2 y3 y4 y5;go_cut [] (λO=>SC lo w.heap.size ⟨7,(en:Int),ra,b,c,nm⟩ w O (.slice am dr cm) (.slice (some ⟨gi,0,none⟩) 12 ar) (.slice (some ⟨ge,0,none⟩) 3 a7) (.slice ac nc cc) {k with zZ:=Na x2 ra})
   case first=>
    by_cases Y:ra<0
    .have t7:¬(0:Int)<=ra:=by omega
     go_wp2_with fail;go_meet
     case rel=>exact(by unfold Na;rw[if_neg (by omega)];exact S5.out)
    .obtain⟨z,rfl⟩:∃n:Nat,ra=(n:Int):=⟨ra.toNat,by omega⟩
     have cr:z<12:=by have:=Ha.out.2;omega
     have t7:(0:Int)<=(z:Int):=by omega
     clear Y;obtain⟨H,N,X,D⟩:=S5.out.xs;obtain⟨y0,y1,y2,y3,y4,y5⟩:=S5.out.ys6;obtain⟨bl,bk,_,_⟩:=S5.out.lts;have dS:=S5.out.zl;obtain⟨_,_,d2⟩:=S5.out.zS (f:=z) (by show z<(x2).length;have:=A.out.len;omega)
     try simp only at d2
     have eh:=lO z cr;generalize hrv:(zS (x2) z).r=rv at d2 eh;obtain⟨nr,hnr⟩:∃nr,rv+1=nr:=⟨_,rfl⟩
     have fi:=AA hnr;clear hnr;have gK:(z:Int)<12:=by omega
     go_wp2_with fail;refine Aa 12 98 [.p w.heap.size 1,.s gi 12 ar,.p (w.heap.size+1) 2,.i ((z:Int)),.p w.heap.size 1,.s gi 12 ar,.p (w.heap.size+1) 2,.i ((z:Int)),.p gi (z*3),.p gi (z*3+2),.i rv,.i nr] (λ_ _ _=>True) ?_ ?_
     .intro i hi o Y a O V J L HL A
      have bt:=bc L bk N;have bp:=bc L bl y2;have bw:=bc L dS d2
      match i,hi with
      |0,_|2,_|4,_|6,_|9,_=>exact sP Y A V J
      |1,_|5,_=>exact sL Y A V J (hl:=GY ‹_›)
      |3,_|7,_|10,_=>exact sL Y A V J (hl:=FT ‹_›)
      |8,_=>exact sI Y A V J (hr:=by clear J V A;go_simp)
      |11,_=>clear bt bp bw;obtain rfl:=yF Y;have dv:(a.tmps[79]?.getD undef)=.int .i64 rv:=Ba J 10;clear J V;refine yE ?_;go_simp;exact A.out _ _ (by show xY .i64 (wR.wrap (rv+1))=.int .i64 nr;rw[xA _ (by omega),fi.out]) (yD _ _)
     .intro E O hR L
      have q1:(E 1)=.slice (some ⟨gi,0,none⟩) 12 ar:=BS hR 1;have q3:(E 3)=.int .i64 z:=BS hR 3;have eG:(E 11)=.int .i64 nr:=BS hR 11;clear hR;simp only[Ak,Ah,yC,yy,yz,yx,q1,q3,eG];simp;clear q1 q3 eG;have SB:=AA (S5.out.below L);obtain⟨_,_,eZ⟩:=SB.out.zS (f:=z) (by show z<(x2).length;have:=A.out.len;omega);have Fr:=SB.out.fzi (z*3+2);have S6:=SB.out.info (by show 12=(x2).length;have:=A.out.len;omega) (f:=z) (by show z<(x2).length;have:=A.out.len;omega) (1)
      try simp only at S6 eZ
      rw[hrv] at S6 eZ;rw[show rv+1=nr by have:=fi.out;omega] at S6;replace S6:=AA S6;generalize hW6:O.setCell _ _=W6 at S6;clear H N X D y0 y1 y2 y3 y4 y5 d2 L SB;go_wp2_with fail;go_meet
      case rel=>exact(by unfold Na;rw[if_pos (by omega),yd];exact S6.out)
   case rest=>
   have S6:=AA hcut;obtain⟨W6,rfl⟩:∃W6,W6=wc:=⟨_,rfl⟩
   clear hcut S5 lO;obtain⟨H,N,X,D⟩:=S6.out.xs;obtain⟨y0,y1,y2,y3,y4,y5⟩:=S6.out.ys6;obtain⟨_,_,D0,D1,_⟩:=S6.out.env (j:=en) (by show en<k.zX.length;rw[A.out.zN];exact df);have Fe:=S6.out.fze (en*2+1);have T1:=AA (S6.out.root A.out.zN.symm (by show en<k.zX.length;rw[A.out.zN];exact df) ra);generalize hW7:W6.setCell _ _=W7 at T1;have CD:=AA (λW (h:DJ W (.slice ac nc cc) k.zW)=>QF (.slice ac nc cc) k.zW (en:Int) W h (by have:=QB A.out;omega));have jh:=T1.out.xs.2.2.2;obtain⟨_,yo,_⟩:=T1.out.ys6;go_wp2_with fail;refine(CD.out _ T1.out.K.2.2.2).mono ?_;rintro r w8 ⟨v',rfl,hO,jw⟩;have T2:=AA (T1.out.zW jw hO);have iX:=AK (T1.out.below jw).yI.1;have mL:=(T1.out.below jw).xs.2.2.2;clear H N X D y0 y1 y2 y3 y4 y5 jh yo D0 D1 Fe hW7;obtain⟨a9,c9,e9,_,_⟩:=hO.rd.shape;generalize wO _=n9 at e9;subst e9;clear hO jw;generalize hW10:w8.setCell _ _=W10 at T2;obtain⟨⟨H,N,X,D⟩,⟨⟨z0,z1,z2,z3⟩,bC⟩,HE,HR⟩:=T2.out.fin al (v:=0) (code:=0) (a0.out);go_wp2_with ((try simp only[xL,Exit.then]);with_reducible refine yr ?_ rfl HR.out;obtain⟨E0,E1,E2,E3⟩:=HE.out;simp[results,tS,go_sem,E0,E1,E2,E3])
 .have a0:=AA (HP.out.trans (if_pos (of_decide_eq_true HB.out)))
  clear HP HB;obtain⟨⟨H,N,X,D⟩,⟨⟨z0,z1,z2,z3⟩,bC⟩,HE,HR⟩:=S2.out.yH al (v:=0) (code:=3) (a0.out) (by decide);go_wp2_with ((try simp only[xL,Exit.then]);with_reducible refine yr ?_ rfl HR.out;obtain⟨E0,E1,E2,E3⟩:=HE.out;simp[results,tS,go_sem,E0,E1,E2,E3])
theorem aC{s:ByteArray}(h1:BW ss=true)(R:BV s=true):Gy ss s=if(decide (OI ss s<ss.length)&&decide (Di ss (OI ss s)=s))=true then(ss,true) else if ss.length=6 then(ss,false) else(EH ss (OI ss s) s,true):=by
 unfold Gy;rw[h1,R,<-aF h1]
 show Cs ss s=_
 unfold Cs;rw[Yt];rfl
theorem Og{k:Nat}{s:ByteArray}:EH ss k s=(ss.take k++[s])++ss.drop k:=by simp[EH]
theorem NX{w:World}{g T:Nat}{x:Value}(h:w.heap[g]?=some (.cells #[x] T (0,0))):Rd w (.slice (some ⟨g,0,none⟩) 1 1) 1 1 [x]:=by
 have h0:=ym _ _ 0 _ _ _ h;refine⟨_,_,rfl,yv _,by simp[maxLen],rfl,nofun,λ_=>⟨g,0,rfl,λj hj=>?_⟩⟩;rw[vt]
 match j,hj with
 |0,_=>exact h0
 |_+1,hj=>exact absurd hj (by omega)
theorem VZ{w:World}{a:Option Addr}{c:Nat}(h:BY w (.slice a ss.length c) ss)(a':Option Addr)(ha:a'=none->a=none):BY w (.slice a' 0 (c - ss.length)) (ss.drop ss.length):=by
 obtain⟨ao,c',hv,jY,ez,hl,eJ,hc⟩:=h;simp only[xH] at hv;obtain⟨rfl,_,rfl⟩:=hv;rw[List.drop_length];exact⟨_,_,rfl,yg _,by omega,rfl,λh=>by have:=eJ (ha h);omega,λh=>absurd h (tz 0)⟩
theorem Lq(v:Value)(ss:List ByteArray)(s:ByteArray)(w:World)(h:BY w v ss)(hs:Db ss)(hz:s.size<=maxLen):Calls prog 193 #[v,.string s] w (Z1 w (Gy ss s)):=by
 have C1:=AA (UG (GV v ss w h hs));have C2:=AA (λW=>BJ (EX s W hz));obtain⟨pa,c,rfl,hc,ez,x0⟩:=BK.open Ho (by decide) h;have HR:=AA (λW (hW:Below w.heap.size w W)=>BK.below h hW);have HH:=AA x0;unfold maxLen at ez;clear h hs hz x0;generalize hrv:BW ss=rv at C1;generalize hsv:BV s=sv at C2;have HV:=AA (xU hrv hsv);clear hrv hsv;cases rv
 .have P:=AA (show Gy ss s=([],false) by unfold Gy;rw[HV.out.1];rfl)
  go_in;go_wp2_with (refine C1.out.mono ?_;rintro r w1 ⟨rfl,b1⟩);go_ret2;exact⟨_,by rw[P.out];rfl,by rw[P.out];exact AQ.lower (CU BD _ _ _) b1.size,b1.alloc b1.size _⟩
 .cases sv
  .have P:=AA (show Gy ss s=([],false) by unfold Gy;rw[HV.out.1,HV.out.2];rfl)
   go_in;go_wp2_with fail;refine C1.out.mono ?_;rintro r w1 ⟨rfl,b1⟩;go_wp2_with (refine(C2.out _).mono ?_;rintro r w2 ⟨rfl,b2⟩;have b3:=b1.trans (b2.mono b1.size);clear b1 b2);go_ret2;exact⟨_,by rw[P.out];rfl,by rw[P.out];exact AQ.lower (CU BD _ _ _) b3.size,b3.alloc b3.size _⟩
  .have pN:=(Gb.1 HV.out.1).2.2
   have HP:=AA (aC (ss:=ss) (s:=s) HV.out.1 HV.out.2);go_in;go_wp2_with fail;refine C1.out.mono ?_;rintro r w1 ⟨rfl,b1⟩;go_wp2_with fail;refine(C2.out _).mono ?_;rintro r w2 ⟨rfl,b2⟩;have b3:=b1.trans (b2.mono b1.size);clear b1 b2 C1 C2;go_wp2_with fail;go_loopw [6] (λix wr=>∃k:Nat,k<=ss.length/\ix=.int .i64 k/\(∀j,j<k->Rk (Di ss j) s=true)/\Below w.heap.size w wr) (λix _=>ss.length - (intOf ix).toNat)
   exact⟨0,yg _,rfl,λj hj=>absurd hj (xN _),b3⟩
   obtain⟨k,hk,rfl,ay,Z⟩:=hrel;have bm:=AA ay;have HB:=AA Z;clear ay b3
   by_cases bf:k<ss.length
   .have cC:(k:Int)<(ss.length:Int):=by omega
    obtain⟨b,bB,rfl,x3⟩:=(HH.out.below Z).str bf;cases ht:Op.bytesLess (Di ss k).toList s.toList
    .have fU:=AA (show OI ss s=k from Tf hk bm.out (λ_=>ht))
     have Ht:=AA ht;clear Z
     by_cases he:Di ss k=s
     .have te:((Di ss k).toList==s.toList)=true:=by rw[he];simp
      have P:=AA (show Gy ss s=(ss,true) by rw[HP.out,fU.out,if_pos (by simp[bf,he])]);clear he HP;go_wp2_with (at_builtin;go_must (refine Fb (cs:=BD) rfl rfl 9 (.string ⟨#[]⟩) 1 16 underlying72 Tryz.zJ rfl (by decide) rfl (CU BD _ _ _) rfl (HR.out _ (HB.out.trans ((AI _ _).mono HB.out.size))) (HY _) (by omega) (by decide) (by simp) ?_;intro v' w9 hO dk));have HO:=AA hO;obtain⟨a9,c9,e9,_,_⟩:=hO.rd.shape;generalize wO _=n9 at e9;subst e9;have dy:=AA ((HB.out.trans ((AI _ _).mono HB.out.size)).trans (dk.mono HB.out.size));clear hO dk;go_wp2_with fail;go_ret2;exact⟨_,by rw[P.out];rfl,by rw[P.out];exact HO.out.lower HB.out.size,dy.out⟩
     .have te:((Di ss k).toList==s.toList)=false:=by
       rw[beq_eq_false_iff_ne];exact λe=>he (ByteArray.ext (Array.toList_inj.mp (by rw[<-Lib.toList_data,<-Lib.toList_data];exact e)))
      have bA:=AA (show Gy ss s=if ss.length=6 then(ss,false) else(EH ss k s,true) by rw[HP.out,fU.out,if_neg (by simp[he])]);clear he HP
      by_cases h6:ss.length=6
      .have P:=AA (show Gy ss s=(ss,false) by rw[bA.out,if_pos h6])
       have kt:(6:Int)<=(ss.length:Int):=by omega
       clear h6;go_wp2_with (at_builtin;go_must (refine Fb (cs:=BD) rfl rfl 9 (.string ⟨#[]⟩) 1 16 underlying72 Tryz.zJ rfl (by decide) rfl (CU BD _ _ _) rfl (HR.out _ (HB.out.trans ((AI _ _).mono HB.out.size))) (HY _) (by omega) (by decide) (by simp) ?_;intro v' w9 hO dk));have HO:=AA hO;obtain⟨a9,c9,e9,_,_⟩:=hO.rd.shape;generalize wO _=n9 at e9;subst e9;have dy:=AA ((HB.out.trans ((AI _ _).mono HB.out.size)).trans (dk.mono HB.out.size));clear hO dk;go_wp2_with fail;go_ret2;exact⟨_,by rw[P.out];rfl,by rw[P.out];exact HO.out.lower HB.out.size,dy.out⟩
      .have P:=AA (show Gy ss s=(EH ss k s,true) by rw[bA.out,if_neg h6])
       have kt:¬(6:Int)<=(ss.length:Int):=by omega
       have nM:k<=c:=by omega
       clear h6;go_wp2_with fail;refine Co 14 63 (λix=>ix==7||ix==11) [.z,.v (.slice (some ⟨b,bB,none⟩) ss.length c),.i ((k:Int)),.z,.z,.t s,.z,.z,.v (.slice (some ⟨b,bB,none⟩) ss.length c),.i ((k:Int)),.z,.z,.z,.b true] (λll ix vv ww=>match ix with
        |0=>(ll 4=false->LH wr.heap.size 9 ww vv)
        |3=>(∀W',Below wr.heap.size wr W'->BY W' vv (ss.take k))
        |4=>(ll 7=false->AQ wr.heap.size 9 1 BD ww vv (ss.take k))
        |6=>(ll 7=false->∃g,vv=.slice (some ⟨g,0,none⟩) 1 1/\ww.heap[g]?=some (.cells #[.string s] 9 (0,0)))
        |7=>(ll 11=false->AQ wr.heap.size 9 1 BD ww vv (ss.take k++[s]))
        |10=>(∀W',Below wr.heap.size wr W'->BY W' vv (ss.drop k))
        |11|12=>AQ wr.heap.size 9 1 BD ww vv (EH ss k s)
        |_=>True) (λll ww=>Below wr.heap.size wr ww) ?_ ?_ ?_ ?_ ?_ ?_
       .exact Av (yD _ _) 1
       .intro j hj ll i vv wz dc hi hS fC jy bs hz
        match j,hj with
        |0,_=>exact(λhL=>LH.below (hz (Dc hL)) bs)
        |3,_|10,_=>exact hz
        |4,_|7,_=>exact(λhL=>AQ.below (hz (Dc hL)) bs)
        |6,_=>exact(λhL=>by obtain⟨g,h0,h1⟩:=hz (Dc hL);exact⟨g,h0,AB h1 bs⟩)
        |11,_|12,_=>exact(AQ.below hz bs)
        |1,_|2,_|5,_|8,_|9,_|13,_=>exact hz
       .intro ll i wz dc hi hS fC bs hg
        exact hg.trans (bs.mono hg.size)
       .intro i hi hS o Y a O V ll J K L HL A
        match i,hi,hS with
        |1,_,_|2,_,_|5,_,_|8,_,_|9,_,_|13,_,_=>exact Rb Y A V J K
        |7,_,hs|11,_,hs=>cases hs
        |0,_,_=>obtain rfl:=yF Y;clear J V;refine yE ?_;go_simp;exact A.out _ _ (λ_=>⟨_,rfl,L.size,yi _ _⟩) (AI _ _)
        |3,_,_=>obtain rfl:=yF Y;have d1:(a.tmps[52]?.getD undef)=.slice (some ⟨b,bB,none⟩) ss.length c:=Cw J K 1;have d2:(a.tmps[53]?.getD undef)=.int .i64 k:=Cw J K 2;clear J V;refine yE ?_;go_simp;exact A.out _ _ (λW' hW=>TG (HR.out W' (HB.out.trans (hW.mono HB.out.size))) rfl (by omega)) (yD _ _)
        |4,_,_=>obtain rfl:=yF Y;have d0:(ll 4=false->LH wr.heap.size 9 O (a.tmps[51]?.getD undef)):=Cw J K 0;have d3:(∀W',Below wr.heap.size wr W'->BY W' (a.tmps[54]?.getD undef) (ss.take k)):=Cw J K 3;have u7:=A9 K 7;clear J V;refine yE ?_;obtain⟨g_,kK,kJ,kI⟩:=d0 K.out.1;obtain⟨v7,w4,cp,r1,r2,_⟩:=Dg (lo:=wr.heap.size) (w:=O) (t:=72) (ty:=72) 9 _ 1 16 underlying72 Tryz.zJ rfl (by decide) kI kJ (d3 _ L) (HY _) (by rw[xT];omega);refine Cm rfl (Bp kK) (Bp rfl) cp ?_;exact A.out _ _ (λ_=>r1) r2
        |6,_,_=>obtain rfl:=yF Y;have d5:(a.tmps[56]?.getD undef)=.string s:=Cw J K 5;have u7:=A9 K 7;clear J V;refine yE ?_;go_simp;exact A.out _ _ (λ_=>⟨_,rfl,yi _ _⟩) (AI _ _)
        |10,_,_=>obtain rfl:=yF Y;have d8:(a.tmps[59]?.getD undef)=.slice (some ⟨b,bB,none⟩) ss.length c:=Cw J K 8;have d9:(a.tmps[60]?.getD undef)=.int .i64 k:=Cw J K 9;have fl:=A9 K 11;clear J V;refine yE ?_;go_simp;rw[show(if c=k then some (⟨b,bB,none⟩:Addr) else some ⟨b,bB+k,none⟩)=some ⟨b,if c=k then bB else bB+k,none⟩ by split<;>rfl];exact A.out _ _ (λW' hW=>Yb (HR.out W' (HB.out.trans (hW.mono HB.out.size))) rfl (by omega) b _ (λh=>⟨rfl,if_neg (by omega)⟩)) (yD _ _)
        |12,_,_=>obtain rfl:=yF Y;have fb:AQ wr.heap.size 9 1 BD O (a.tmps[62]?.getD undef) (EH ss k s):=Cw J K 11;have u7:ll 7=true:=K.out.2.1 7 (by kernel_rfl);have fl:ll 11=true:=K.out.2.1 11 (by kernel_rfl);clear J V;refine yE ?_;go_simp;exact A.out _ _ fb (yD _ _)
       .intro i hi hS o Y a O V ll J K L HL A
        match i,hi,hS with
        |0,_,hs|1,_,hs|2,_,hs|3,_,hs|4,_,hs|5,_,hs|6,_,hs|8,_,hs|9,_,hs|10,_,hs|12,_,hs|13,_,hs=>cases hs
        |7,_,_=>
         obtain rfl:=yF Y;have d4:(ll 7=false->AQ wr.heap.size 9 1 BD O (a.tmps[55]?.getD undef) (ss.take k)):=Cw J K 4;have d6:(ll 7=false->∃g,(a.tmps[57]?.getD undef)=.slice (some ⟨g,0,none⟩) 1 1/\O.heap[g]?=some (.cells #[.string s] 9 (0,0))):=Cw J K 6;have fl:=A9 K 11;clear J V;refine yE ?_;have D4:=d4 K.out.1;obtain⟨g6,e6,B6⟩:=d6 K.out.1;obtain⟨v7,w4,cp,r1,_,r3⟩:=KE (lo:=wr.heap.size) (w:=O) (t:=72) 72 9 _ 1 16 underlying72 Tryz.zJ rfl (by decide) D4 (NX B6) (by simp[xG]) (by rw[xT];unfold maxLen;omega) (by rw[xT];omega) L.size;refine Cm rfl (Bp rfl) (Bp e6) cp ?_;have gj:AQ wr.heap.size 9 1 BD w4 v7 (ss.take k++[s]):=by unfold AQ;rw[Bf,EZ,yj];exact r1
         exact A.out _ _ (λ_=>gj) (L.trans r3) (λj dm dQ dd hu=>match j,dQ with
          |1,_|2,_|3,_|5,_|8,_|9,_|10,_|13,_=>hu
          |0,_=>(λh=>absurd ((Dc h).symm.trans (K.out.2.1 4 (by kernel_rfl))) (by decide))
          |4,_|6,_=>(λh=>absurd h (by rw[FN];decide))
          |7,_=>absurd rfl dm
          |11,_=>absurd (fl.symm.trans dd) (by decide)
          |12,_=>absurd (fl.symm.trans (K.out.2.2 12 11 dd (by kernel_rfl))) (by decide))
        |11,_,_=>
         obtain rfl:=yF Y;have d7:(ll 11=false->AQ wr.heap.size 9 1 BD O (a.tmps[58]?.getD undef) (ss.take k++[s])):=Cw J K 7;have dv:(∀W',Below wr.heap.size wr W'->BY W' (a.tmps[61]?.getD undef) (ss.drop k)):=Cw J K 10;have u7:ll 7=true:=K.out.2.1 7 (by kernel_rfl);clear J V;refine yE ?_;have D7:=d7 K.out.1;obtain⟨v7,w4,cp,r1,_,r3⟩:=KE (lo:=wr.heap.size) (w:=O) (t:=72) 72 9 _ 1 16 underlying72 Tryz.zJ rfl (by decide) D7 (dv _ L) (HY _) (by simp only[yj,xT,wT];unfold maxLen;simp;omega) (by simp only[yj,xT,wT];simp;omega) L.size;refine Cm rfl (Bp rfl) (Bp rfl) cp ?_;have gj:AQ wr.heap.size 9 1 BD w4 v7 (EH ss k s):=by unfold AQ;rw[Og,Bf,yj];exact r1
         exact A.out _ _ gj (L.trans r3) (λj dm dQ dd hu=>match j,dQ with
          |1,_|2,_|3,_|5,_|8,_|9,_|10,_|13,_=>hu
          |0,_=>(λh=>absurd ((Dc h).symm.trans (K.out.2.2 7 4 u7 (by kernel_rfl))) (by decide))
          |4,_|6,_=>(λh=>absurd ((Dc h).symm.trans (u7)) (by decide))
          |7,_=>(λh=>absurd h (by rw[FN];decide))
          |11,_=>absurd rfl dm
          |12,_=>absurd (K.out.1.symm.trans (K.out.2.2 12 11 dd (by kernel_rfl))) (by decide))
       .intro E O ll cl hR L
        have dh:AQ wr.heap.size 9 1 BD O (E 12) (EH ss k s):=BS hR 12;have dw:(E 13)=.bool true:=BS hR 13;clear hR;simp only[Cn,BQ,yC,yy,yz,yx,dw];simp;generalize E 12=z12 at dh ⊢;clear dw;have HO:=AA dh;have dy:=AA (HB.out.trans (L.mono HB.out.size));go_wp2_with fail;go_ret2;exact⟨_,by rw[P.out];rfl,by rw[P.out];exact HO.out.lower HB.out.size,dy.out⟩
    .have Ht:=AA (show Rk (Di ss k) s=true from ht)
     go_wp2_with fail;go_roundw;exact⟨k+1,by omega,by go_num,Al bm.out Ht.out,Z⟩;simp[intOf];omega
   .obtain rfl:k=ss.length:=by omega
    have fU:=AA (show OI ss s=ss.length from Tf hk bm.out (λh=>absurd h (by omega)));have bA:=AA (show Gy ss s=if ss.length=6 then(ss,false) else(EH ss ss.length s,true) by rw[HP.out,fU.out,if_neg (by simp)]);clear HP
    by_cases h6:ss.length=6
    .have P:=AA (show Gy ss s=(ss,false) by rw[bA.out,if_pos h6])
     have kt:(6:Int)<=(ss.length:Int):=by omega
     clear h6;go_wp2_with (at_builtin;go_must (refine Fb (cs:=BD) rfl rfl 9 (.string ⟨#[]⟩) 1 16 underlying72 Tryz.zJ rfl (by decide) rfl (CU BD _ _ _) rfl (HR.out _ (HB.out.trans ((AI _ _).mono HB.out.size))) (HY _) (by omega) (by decide) (by simp) ?_;intro v' w9 hO dk));have HO:=AA hO;obtain⟨a9,c9,e9,_,_⟩:=hO.rd.shape;generalize wO _=n9 at e9;subst e9;have dy:=AA ((HB.out.trans ((AI _ _).mono HB.out.size)).trans (dk.mono HB.out.size));clear hO dk;go_wp2_with fail;go_ret2;exact⟨_,by rw[P.out];rfl,by rw[P.out];exact HO.out.lower HB.out.size,dy.out⟩
    .have P:=AA (show Gy ss s=(EH ss ss.length s,true) by rw[bA.out,if_neg h6])
     have kt:¬(6:Int)<=(ss.length:Int):=by omega
     have nM:ss.length<=c:=by omega
     clear h6;go_wp2_with fail;refine Co 14 63 (λix=>ix==7||ix==11) [.z,.v (.slice pa ss.length c),.i ((ss.length:Int)),.z,.z,.t s,.z,.z,.v (.slice pa ss.length c),.i ((ss.length:Int)),.z,.z,.z,.b true] (λll ix vv ww=>match ix with
      |0=>(ll 4=false->LH wr.heap.size 9 ww vv)
      |3=>(∀W',Below wr.heap.size wr W'->BY W' vv (ss.take ss.length))
      |4=>(ll 7=false->AQ wr.heap.size 9 1 BD ww vv (ss.take ss.length))
      |6=>(ll 7=false->∃g,vv=.slice (some ⟨g,0,none⟩) 1 1/\ww.heap[g]?=some (.cells #[.string s] 9 (0,0)))
      |7=>(ll 11=false->AQ wr.heap.size 9 1 BD ww vv (ss.take ss.length++[s]))
      |10=>(∀W',Below wr.heap.size wr W'->BY W' vv (ss.drop ss.length))
      |11|12=>AQ wr.heap.size 9 1 BD ww vv (EH ss ss.length s)
      |_=>True) (λll ww=>Below wr.heap.size wr ww) ?_ ?_ ?_ ?_ ?_ ?_
     .exact Av (yD _ _) 1
     .intro j hj ll i vv wz dc hi hS fC jy bs hz
      match j,hj with
      |0,_=>exact(λhL=>LH.below (hz (Dc hL)) bs)
      |3,_|10,_=>exact hz
      |4,_|7,_=>exact(λhL=>AQ.below (hz (Dc hL)) bs)
      |6,_=>exact(λhL=>by obtain⟨g,h0,h1⟩:=hz (Dc hL);exact⟨g,h0,AB h1 bs⟩)
      |11,_|12,_=>exact(AQ.below hz bs)
      |1,_|2,_|5,_|8,_|9,_|13,_=>exact hz
     .intro ll i wz dc hi hS fC bs hg
      exact hg.trans (bs.mono hg.size)
     .intro i hi hS o Y a O V ll J K L HL A
      match i,hi,hS with
      |1,_,_|2,_,_|5,_,_|8,_,_|9,_,_|13,_,_=>exact Rb Y A V J K
      |7,_,hs|11,_,hs=>cases hs
      |0,_,_=>obtain rfl:=yF Y;clear J V;refine yE ?_;go_simp;exact A.out _ _ (λ_=>⟨_,rfl,L.size,yi _ _⟩) (AI _ _)
      |3,_,_=>obtain rfl:=yF Y;have d1:(a.tmps[52]?.getD undef)=.slice pa ss.length c:=Cw J K 1;have d2:(a.tmps[53]?.getD undef)=.int .i64 ((ss.length:Int)):=Cw J K 2;clear J V;refine yE ?_;go_simp;exact A.out _ _ (λW' hW=>TG (HR.out W' (HB.out.trans (hW.mono HB.out.size))) rfl (by omega)) (yD _ _)
      |4,_,_=>obtain rfl:=yF Y;have d0:(ll 4=false->LH wr.heap.size 9 O (a.tmps[51]?.getD undef)):=Cw J K 0;have d3:(∀W',Below wr.heap.size wr W'->BY W' (a.tmps[54]?.getD undef) (ss.take ss.length)):=Cw J K 3;have u7:=A9 K 7;clear J V;refine yE ?_;obtain⟨g_,kK,kJ,kI⟩:=d0 K.out.1;obtain⟨v7,w4,cp,r1,r2,_⟩:=Dg (lo:=wr.heap.size) (w:=O) (t:=72) (ty:=72) 9 _ 1 16 underlying72 Tryz.zJ rfl (by decide) kI kJ (d3 _ L) (HY _) (by rw[xT];omega);refine Cm rfl (Bp kK) (Bp rfl) cp ?_;exact A.out _ _ (λ_=>r1) r2
      |6,_,_=>obtain rfl:=yF Y;have d5:(a.tmps[56]?.getD undef)=.string s:=Cw J K 5;have u7:=A9 K 7;clear J V;refine yE ?_;go_simp;exact A.out _ _ (λ_=>⟨_,rfl,yi _ _⟩) (AI _ _)
      |10,_,_=>
       obtain rfl:=yF Y;have d8:(a.tmps[59]?.getD undef)=.slice pa ss.length c:=Cw J K 8;have d9:(a.tmps[60]?.getD undef)=.int .i64 ((ss.length:Int)):=Cw J K 9;have fl:=A9 K 11;clear J V;refine yE ?_;go_simp
       rcases pa with _|ad
       .go_simp
        exact A.out _ _ (λW' hW=>VZ (HR.out W' (HB.out.trans (hW.mono HB.out.size))) none (λ_=>rfl)) (yD _ _)
       .go_simp
        exact A.out _ _ (λW' hW=>VZ (HR.out W' (HB.out.trans (hW.mono HB.out.size))) _ (λh=>by split at h<;>cases h)) (yD _ _)
      |12,_,_=>obtain rfl:=yF Y;have fb:AQ wr.heap.size 9 1 BD O (a.tmps[62]?.getD undef) (EH ss ss.length s):=Cw J K 11;have u7:ll 7=true:=K.out.2.1 7 (by kernel_rfl);have fl:ll 11=true:=K.out.2.1 11 (by kernel_rfl);clear J V;refine yE ?_;go_simp;exact A.out _ _ fb (yD _ _)
     .intro i hi hS o Y a O V ll J K L HL A
      match i,hi,hS with
      |0,_,hs|1,_,hs|2,_,hs|3,_,hs|4,_,hs|5,_,hs|6,_,hs|8,_,hs|9,_,hs|10,_,hs|12,_,hs|13,_,hs=>cases hs
      |7,_,_=>
       obtain rfl:=yF Y;have d4:(ll 7=false->AQ wr.heap.size 9 1 BD O (a.tmps[55]?.getD undef) (ss.take ss.length)):=Cw J K 4;have d6:(ll 7=false->∃g,(a.tmps[57]?.getD undef)=.slice (some ⟨g,0,none⟩) 1 1/\O.heap[g]?=some (.cells #[.string s] 9 (0,0))):=Cw J K 6;have fl:=A9 K 11;clear J V;refine yE ?_;have D4:=d4 K.out.1;obtain⟨g6,e6,B6⟩:=d6 K.out.1;obtain⟨v7,w4,cp,r1,_,r3⟩:=KE (lo:=wr.heap.size) (w:=O) (t:=72) 72 9 _ 1 16 underlying72 Tryz.zJ rfl (by decide) D4 (NX B6) (by simp[xG]) (by rw[xT];unfold maxLen;omega) (by rw[xT];omega) L.size;refine Cm rfl (Bp rfl) (Bp e6) cp ?_;have gj:AQ wr.heap.size 9 1 BD w4 v7 (ss.take ss.length++[s]):=by unfold AQ;rw[Bf,EZ,yj];exact r1
       exact A.out _ _ (λ_=>gj) (L.trans r3) (λj dm dQ dd hu=>match j,dQ with
        |1,_|2,_|3,_|5,_|8,_|9,_|10,_|13,_=>hu
        |0,_=>(λh=>absurd ((Dc h).symm.trans (K.out.2.1 4 (by kernel_rfl))) (by decide))
        |4,_|6,_=>(λh=>absurd h (by rw[FN];decide))
        |7,_=>absurd rfl dm
        |11,_=>absurd (fl.symm.trans dd) (by decide)
        |12,_=>absurd (fl.symm.trans (K.out.2.2 12 11 dd (by kernel_rfl))) (by decide))
      |11,_,_=>
       obtain rfl:=yF Y;have d7:(ll 11=false->AQ wr.heap.size 9 1 BD O (a.tmps[58]?.getD undef) (ss.take ss.length++[s])):=Cw J K 7;have dv:(∀W',Below wr.heap.size wr W'->BY W' (a.tmps[61]?.getD undef) (ss.drop ss.length)):=Cw J K 10;have u7:ll 7=true:=K.out.2.1 7 (by kernel_rfl);clear J V;refine yE ?_;have D7:=d7 K.out.1;obtain⟨v7,w4,cp,r1,_,r3⟩:=KE (lo:=wr.heap.size) (w:=O) (t:=72) 72 9 _ 1 16 underlying72 Tryz.zJ rfl (by decide) D7 (dv _ L) (HY _) (by simp only[yj,xT,wT];unfold maxLen;simp;omega) (by simp only[yj,xT,wT];simp;omega) L.size;refine Cm rfl (Bp rfl) (Bp rfl) cp ?_;have gj:AQ wr.heap.size 9 1 BD w4 v7 (EH ss ss.length s):=by unfold AQ;rw[Og,Bf,yj];exact r1
       exact A.out _ _ gj (L.trans r3) (λj dm dQ dd hu=>match j,dQ with
        |1,_|2,_|3,_|5,_|8,_|9,_|10,_|13,_=>hu
        |0,_=>(λh=>absurd ((Dc h).symm.trans (K.out.2.2 7 4 u7 (by kernel_rfl))) (by decide))
        |4,_|6,_=>(λh=>absurd ((Dc h).symm.trans (u7)) (by decide))
        |7,_=>(λh=>absurd h (by rw[FN];decide))
        |11,_=>absurd rfl dm
        |12,_=>absurd (K.out.1.symm.trans (K.out.2.2 12 11 dd (by kernel_rfl))) (by decide))
     .intro E O ll cl hR L
      have dh:AQ wr.heap.size 9 1 BD O (E 12) (EH ss ss.length s):=BS hR 12;have dw:(E 13)=.bool true:=BS hR 13;clear hR;simp only[Cn,BQ,yC,yy,yz,yx,dw];simp;generalize E 12=z12 at dh ⊢;clear dw;have HO:=AA dh;have dy:=AA (HB.out.trans (L.mono HB.out.size));go_wp2_with fail;go_ret2;exact⟨_,by rw[P.out];rfl,by rw[P.out];exact HO.out.lower HB.out.size,dy.out⟩
theorem Eb.zT{T:Nat}{cs:Array Value}{h2:List Nat}{lo g b0:Nat}{w W W':World}{m i c:Value}{k:AO}{ge n dn:Nat}(h:Eb T cs h2 lo g b0 w W m i (.slice (some ⟨ge,0,none⟩) n dn) c k)(hn:n=k.zX.length)(Z:Below W.heap.size W W'){j:Nat}(hj:j<k.zX.length){u:Value}{ss:List ByteArray}(hu:AQ W.heap.size 9 1 BD W' u ss):
 Eb T cs h2 lo g b0 w (W'.setCell ⟨ge,j*2,none⟩ u) m i (.slice (some ⟨ge,0,none⟩) n dn) c {k with zX:=At k.zX j (Bc ss)}:=by
 have S:=h.yI.zT hn h.lo Z hj hu;have h':=h.below Z;obtain⟨ps,o⟩:=h'.yI.2.2.2.2.1;obtain⟨c2,R⟩:=A6 o.1 ge rfl;exact⟨S.1,Ap h'.yK S.2.1 (Br R h'.yK h.ty.2.2.1),AM h'.bel S.2.1 S.2.2 h'.lo,yB h'.lo S.2.1.size,h.ty,h'.kf.row S.2.1 R (by decide),λb hr=>⟨(h.rs b hr).1,Ap (h'.rs b hr).2 S.2.1 (Br R (h'.rs b hr).2 (by decide))⟩⟩
theorem Rf{lo:Nat}{k:AO}{w:World}(h:Da lo w mv iv ev cv k)(al:lo<=w.heap.size)(hk:DQ k)(call:Ac)(he:0<=call.e/\call.e<3)(R:call.k=8∨call.k=9)(dZ:call.nm.size<=maxLen):
 Calls prog 177 #[.agg #[mv,iv,ev,cv],.agg call.cs] w (LL lo w (Ae k call)):=by
 have bD:=SC.start h al call;obtain⟨ge,a7,e9,_,_⟩:=bD.zX (by rw[hk.zN];omega);rw[hk.zN] at e9;obtain⟨gi,ar,e8,_,_⟩:=bD.zZ (by rw[hk.len];omega);rw[hk.len] at e8;obtain⟨am,dr,cm,ai,ni,ci,ae,dN,ce,ac,nc,cc,em,ei,ee,ec⟩:=bD.zQ;subst e8 e9 em ec;clear ei ee;have S0:=AA bD;obtain⟨kk,e,ra,b,c,nm⟩:=call;simp only at he R dZ;obtain⟨en,rfl⟩:∃n:Nat,e=(n:Int):=⟨e.toNat,by omega⟩
 have df:en<3:=by omega
 have gE:(en:Int)<3:=by omega
 simp only[Ac.cs] at S0 ⊢;have A:=AA hk;have CR:=AA (λW=>BJ (EX nm W dZ));have HN:=AA dZ;have CM:=AA (λW (h:F7 W (.slice (some ⟨ge,0,none⟩) 3 a7) k.zX)=>Jr (.slice am dr cm) (.slice (some ⟨gi,0,none⟩) 12 ar) (.slice (some ⟨ge,0,none⟩) 3 a7) (.slice ac nc cc) k en nm W h hk df dZ);obtain⟨H,N,X,D⟩:=S0.out.xs;obtain⟨y0,y1,y2,y3,y4,y5⟩:=S0.out.ys6;have HP:Hid (Ae k ⟨kk,(en:Int),ra,b,c,nm⟩=if BZ ra 0 2=false∨BV nm=false∨(kk=9/\ra=(en:Int)) then(k,0,3)
  else if By (AJ k.zX en).zT nm=false then(k,0,1)
  else if kk=8 then(if(Cs (AJ k.zX ra.toNat).zT nm).2=false then(k,0,4) else({k with zX:=At k.zX ra.toNat (Bc (Cs (AJ k.zX ra.toNat).zT nm).1)},0,0))
  else(if BM k.zZ (Be k.mem (AJ k.zX ra.toNat).root) (DK (AJ k.zX ra.toNat).zT nm)=false then(k,0,2) else({k with zX:=At k.zX ra.toNat (Bc (DK (AJ k.zX ra.toNat).zT nm))},0,0))):=by
  refine Lib.hid ?_
  rcases R with rfl|rfl
  .rw[Ul rfl]
   unfold Lc Fl;simp
  .rw[Tc rfl]
   unfold KB Fl;simp only[yd]
   by_cases a1:BZ ra 0 2=false<;>by_cases a2:BV nm=false<;>by_cases a3:ra=(en:Int)<;>simp[a1,a2,a3]
 have H2:=AA R;clear h bD he hk R dZ;generalize hW0:((w.alloc _).alloc _).alloc _=W0 at*;cases e1:BZ ra 0 2
 .have a0:=AA (show Ae k ⟨kk,(en:Int),ra,b,c,nm⟩=(k,0,3) by rw[HP.out,if_pos (.inl e1)])
  have E1:=AA e1;clear e1 HP;go_in;go_wp2_with fail;refine(BJ (Jb _ _)).mono ?_;rintro r w1 ⟨rfl,bY⟩;rw[E1.out];have S1:=AA (S0.out.below bY);clear H N X D y0 y1 y2 y3 y4 y5 bY hW0;obtain⟨⟨H,N,X,D⟩,⟨⟨z0,z1,z2,z3⟩,bC⟩,HE,HR⟩:=S1.out.yH al (v:=0) (code:=3) (a0.out) (by decide);go_wp2_with ((try simp only[xL,Exit.then]);with_reducible refine yr ?_ rfl HR.out;obtain⟨E0,E1,E2,E3⟩:=HE.out;simp[results,vZ,go_sem,E0,E1,E2,E3])
 .have E1:=AA e1
  have ab:=AZ.1 e1;obtain⟨z,rfl⟩:∃n:Nat,ra=(n:Int):=⟨ra.toNat,by omega⟩
  have cr:z<3:=by omega
  have eY:(z:Int)<3:=by omega
  generalize hrv:BV nm=rv at CR;have HV:=AA hrv;clear e1 ab hrv;cases rv
  .have a0:=AA (show Ae k ⟨kk,(en:Int),(z:Int),b,c,nm⟩=(k,0,3) by rw[HP.out,if_pos (.inr (.inl HV.out))])
   clear HP;go_in;go_wp2_with fail;refine(BJ (Jb _ _)).mono ?_;rintro r w1 ⟨rfl,bY⟩;rw[E1.out];have S1:=AA (S0.out.below bY);clear H N X D y0 y1 y2 y3 y4 y5 bY hW0;obtain⟨y0,y1,y2,y3,y4,y5⟩:=S1.out.ys6;go_wp2_with fail;refine(CR.out _).mono ?_;rintro r w2 ⟨rfl,az⟩;have S2:=AA (S1.out.below az);clear y0 y1 y2 y3 y4 y5 az;obtain⟨⟨H,N,X,D⟩,⟨⟨z0,z1,z2,z3⟩,bC⟩,HE,HR⟩:=S2.out.yH al (v:=0) (code:=3) (a0.out) (by decide);go_wp2_with ((try simp only[xL,Exit.then]);with_reducible refine yr ?_ rfl HR.out;obtain⟨E0,E1,E2,E3⟩:=HE.out;simp[results,vZ,go_sem,E0,E1,E2,E3])
  .rcases H2.out with rfl|rfl
   .have bA:=AA (show Ae k ⟨8,(en:Int),(z:Int),b,c,nm⟩=if By (AJ k.zX en).zT nm=false then(k,0,1) else if(Cs (AJ k.zX z).zT nm).2=false then(k,0,4) else({k with zX:=At k.zX z (Bc (Cs (AJ k.zX z).zT nm).1)},0,0) by rw[HP.out,if_neg (by rintro(x|x|⟨x,_⟩);(· rw[E1.out] at x;cases x);(· rw[HV.out] at x;cases x);cases x)];rfl)
    clear HP;go_in;go_wp2_with fail;refine(BJ (Jb _ _)).mono ?_;rintro r w1 ⟨rfl,bY⟩;rw[E1.out];have S1:=AA (S0.out.below bY);clear H N X D y0 y1 y2 y3 y4 y5 bY hW0;obtain⟨y0,y1,y2,y3,y4,y5⟩:=S1.out.ys6;go_wp2_with fail;refine(CR.out _).mono ?_;rintro r w2 ⟨rfl,az⟩;have S2:=AA (S1.out.below az);clear y0 y1 y2 y3 y4 y5 az;obtain⟨y0,y1,y2,y3,y4,y5⟩:=S2.out.ys6;obtain⟨H,N,X,D⟩:=S2.out.xs;generalize hmb:By (AJ k.zX en).zT nm=mb at CM bA;clear hmb;go_wp2_with fail;refine(CM.out _ S2.out.K.2.2.1).mono ?_;rintro r w4 ⟨rfl,ep⟩;have S4:=AA (S2.out.below ep);clear H N X D y0 y1 y2 y3 y4 y5 ep CM;cases mb
    .have a0:=AA (show Ae k ⟨8,(en:Int),(z:Int),b,c,nm⟩=(k,0,1) by rw[bA.out];rfl)
     obtain⟨⟨H,N,X,D⟩,⟨⟨z0,z1,z2,z3⟩,bC⟩,HE,HR⟩:=S4.out.yH al (v:=0) (code:=1) (a0.out) (by decide);go_wp2_with ((try simp only[xL,Exit.then]);with_reducible refine yr ?_ rfl HR.out;obtain⟨E0,E1,E2,E3⟩:=HE.out;simp[results,vZ,go_sem,E0,E1,E2,E3])
    .skip
     obtain⟨H,N,X,D⟩:=S4.out.xs;obtain⟨y0,y1,y2,y3,y4,y5⟩:=S4.out.ys6;obtain⟨bl,bk,_,_⟩:=S4.out.lts;have eX:=S4.out.yU;obtain⟨ua,uc,D0,D1,h2⟩:=S4.out.env (j:=z) (by rw[A.out.zN];exact cr);have CP:=AA (λW (hW:Below w4.heap.size w4 W)=>by have:=Lq _ (AJ k.zX z).zT nm W (BK.below h2 hW) (IV A.out cr) HN.out;rw[show Gy (AJ k.zX z).zT nm=Cs (AJ k.zX z).zT nm by unfold Gy;rw[show BW (AJ k.zX z).zT=true from A.out.zT z cr,HV.out];rfl] at this;exact this);have a0:=AA (show Ae k ⟨8,(en:Int),(z:Int),b,c,nm⟩=if(Cs (AJ k.zX z).zT nm).2=false then(k,0,4) else({k with zX:=At k.zX z (Bc (Cs (AJ k.zX z).zT nm).1)},0,0) by rw[bA.out];rfl);generalize Cs (AJ k.zX z).zT nm=res at CP a0;clear h2 bA;go_wp2_with fail;refine BR 14 102 [.p w.heap.size 2,.s ge 3 a7,.p (w.heap.size+1) 2,.i ((z:Int)),.p ge (z*2),.p ge (z*2),.v (.slice ua (AJ k.zX z).zT.length uc),.p (w.heap.size+1) 5,.t nm,.z,.z,.z,.b (res.2),.z] (λix vv ww=>match ix with
      |9|10=>∃v',vv=.tuple #[v',.bool res.2]/\AQ w4.heap.size 9 1 BD ww v' res.1
      |11|13=>AQ w4.heap.size 9 1 BD ww vv res.1
      |_=>True) ?_ ?_ ?_
     .intro i hi o Y a O V J L HL A
      match i,hi with
      |0,_|2,_|5,_|7,_=>exact sP Y A V J
      |1,_=>exact sL Y A V J (hl:=OL (bc L bk X))
      |3,_=>exact sL Y A V J (hl:=FT (bc L bl y2))
      |4,_=>exact sI Y A V J (hr:=by clear J V A;go_simp)
      |6,_=>exact sL Y A V J (hl:=Li (bc L eX D0))
      |8,_=>exact sL Y A V J (hl:=ZP (bc L bl y5))
      |9,_=>exact sC Y A V J (CP.out _ L) (by rintro e w_ ⟨v',rfl,hO,az⟩;exact⟨_,rfl,⟨_,rfl,hO.lower L.size⟩,az⟩)
      |10,_=>
       obtain rfl:=yF Y;have d9:∃v',(a.tmps[54]?.getD undef)=.tuple #[v',.bool res.2]/\AQ w4.heap.size 9 1 BD O v' res.1:=Ba J 9
       clear J V;refine yE ?_;go_simp;exact A.out _ _ d9 (yD _ _)
      |11,_=>
       obtain rfl:=yF Y;have dv:∃v',(a.tmps[44]?.getD undef)=.tuple #[v',.bool res.2]/\AQ w4.heap.size 9 1 BD O v' res.1:=Ba J 10
       clear J V;obtain⟨v',dv,hO⟩:=dv;refine yE ?_;go_simp;exact A.out _ _ hO (yD _ _)
      |12,_=>
       obtain rfl:=yF Y;have dv:∃v',(a.tmps[44]?.getD undef)=.tuple #[v',.bool res.2]/\AQ w4.heap.size 9 1 BD O v' res.1:=Ba J 10
       clear J V;obtain⟨v',dv,hO⟩:=dv;refine yE ?_;go_simp;exact A.out _ _ rfl (yD _ _)
      |13,_=>obtain rfl:=yF Y;have fb:AQ w4.heap.size 9 1 BD O (a.tmps[55]?.getD undef) res.1:=Ba J 11;clear J V;refine yE ?_;go_simp;exact A.out _ _ fb (yD _ _)
     .intro i hi vv wz dc bs hz
      match i,hi with
      |9,_|10,_=>exact(by obtain⟨v',h0,h1⟩:=hz;exact⟨v',h0,AQ.below h1 bs⟩)
      |11,_|13,_=>exact(AQ.below hz bs)
      |0,_|1,_|2,_|3,_|4,_|5,_|6,_|7,_|8,_|12,_=>exact hz
     .intro E O hR L
      have dh:(E 12)=.bool (res.2):=BS hR 12;have dw:AQ w4.heap.size 9 1 BD O (E 13) res.1:=BS hR 13;clear hR;simp only[Ak,Ah,yC,yy,yz,yx,dh];simp;generalize E 13=lj at dw ⊢;clear dh;have S5:=AA (S4.out.below L);have HO:=AA dw;have eE:=AA L;obtain⟨a9,c9,e9,_,_⟩:=dw.rd.shape;generalize wO _=n9 at e9;subst e9;clear H N X D y0 y1 y2 y3 y4 y5 D0 D1 dw L;obtain⟨rs,rb⟩:=res;cases rb
      focus
       have dq:=AA (show Ae k ⟨8,(en:Int),(z:Int),b,c,nm⟩=(k,0,4) by rw[a0.out];rfl)
       obtain⟨⟨H,N,X,D⟩,⟨⟨z0,z1,z2,z3⟩,bC⟩,HE,HR⟩:=S5.out.yH al (v:=0) (code:=4) (dq.out) (by decide)
      rotate_left
      focus
       have dq:=AA (show Ae k ⟨8,(en:Int),(z:Int),b,c,nm⟩=({k with zX:=At k.zX z (Bc rs)},0,0) by rw[a0.out];rfl)
       have T:=AA (S4.out.zT A.out.zN.symm eE.out (j:=z) (by rw[A.out.zN];exact cr) HO.out);obtain⟨_,_,ox,_,_⟩:=S5.out.env (j:=z) (by rw[A.out.zN];exact cr);have Fe:=S5.out.fze (z*2);have mM:=S5.out.xs.2.2.1;obtain⟨_,_,yo,_⟩:=S5.out.ys6;generalize hW9:O.setCell _ _=W9 at T;obtain⟨⟨H,N,X,D⟩,⟨⟨z0,z1,z2,z3⟩,bC⟩,HE,HR⟩:=T.out.fin al (v:=0) (code:=0) (dq.out)
      rotate_left
      all_goals
       go_wp2_with ((try simp only[xL,Exit.then]);with_reducible refine yr ?_ rfl HR.out;obtain⟨E0,E1,E2,E3⟩:=HE.out;simp[results,vZ,go_sem,E0,E1,E2,E3])
   .by_cases ee:z=en
    .have a0:=AA (show Ae k ⟨9,(en:Int),(z:Int),b,c,nm⟩=(k,0,3) by rw[HP.out,if_pos (.inr (.inr ⟨rfl,by rw[ee]⟩))])
     have te:((z:Int)==(en:Int))=true:=by rw[ee];simp
     clear HP ee;go_in;go_wp2_with fail;refine(BJ (Jb _ _)).mono ?_;rintro r w1 ⟨rfl,bY⟩;rw[E1.out];have S1:=AA (S0.out.below bY);clear H N X D y0 y1 y2 y3 y4 y5 bY hW0;obtain⟨y0,y1,y2,y3,y4,y5⟩:=S1.out.ys6;go_wp2_with fail;refine(CR.out _).mono ?_;rintro r w2 ⟨rfl,az⟩;have S2:=AA (S1.out.below az);clear y0 y1 y2 y3 y4 y5 az;obtain⟨y0,y1,y2,y3,y4,y5⟩:=S2.out.ys6;obtain⟨⟨H,N,X,D⟩,⟨⟨z0,z1,z2,z3⟩,bC⟩,HE,HR⟩:=S2.out.yH al (v:=0) (code:=3) (a0.out) (by decide);go_wp2_with ((try simp only[xL,Exit.then]);with_reducible refine yr ?_ rfl HR.out;obtain⟨E0,E1,E2,E3⟩:=HE.out;simp[results,vZ,go_sem,E0,E1,E2,E3])
    .have bA:=AA (show Ae k ⟨9,(en:Int),(z:Int),b,c,nm⟩=if By (AJ k.zX en).zT nm=false then(k,0,1) else if BM k.zZ (Be k.mem (AJ k.zX z).root) (DK (AJ k.zX z).zT nm)=false then(k,0,2) else({k with zX:=At k.zX z (Bc (DK (AJ k.zX z).zT nm))},0,0) by rw[HP.out,if_neg (by rintro(x|x|⟨_,x⟩);(· rw[E1.out] at x;cases x);(· rw[HV.out] at x;cases x);exact ee (by omega))];rfl)
     have te:((z:Int)==(en:Int))=false:=by simp;omega
     clear HP ee;go_in;go_wp2_with fail;refine(BJ (Jb _ _)).mono ?_;rintro r w1 ⟨rfl,bY⟩;rw[E1.out];have S1:=AA (S0.out.below bY);clear H N X D y0 y1 y2 y3 y4 y5 bY hW0;obtain⟨y0,y1,y2,y3,y4,y5⟩:=S1.out.ys6;go_wp2_with fail;refine(CR.out _).mono ?_;rintro r w2 ⟨rfl,az⟩;have S2:=AA (S1.out.below az);clear y0 y1 y2 y3 y4 y5 az;obtain⟨y0,y1,y2,y3,y4,y5⟩:=S2.out.ys6;obtain⟨H,N,X,D⟩:=S2.out.xs;generalize hmb:By (AJ k.zX en).zT nm=mb at CM bA;clear hmb;go_wp2_with fail;refine(CM.out _ S2.out.K.2.2.1).mono ?_;rintro r w4 ⟨rfl,ep⟩;have S4:=AA (S2.out.below ep);clear H N X D y0 y1 y2 y3 y4 y5 ep CM;cases mb
     .have a0:=AA (show Ae k ⟨9,(en:Int),(z:Int),b,c,nm⟩=(k,0,1) by rw[bA.out];rfl)
      obtain⟨⟨H,N,X,D⟩,⟨⟨z0,z1,z2,z3⟩,bC⟩,HE,HR⟩:=S4.out.yH al (v:=0) (code:=1) (a0.out) (by decide);go_wp2_with ((try simp only[xL,Exit.then]);with_reducible refine yr ?_ rfl HR.out;obtain⟨E0,E1,E2,E3⟩:=HE.out;simp[results,vZ,go_sem,E0,E1,E2,E3])
     .skip
      obtain⟨H,N,X,D⟩:=S4.out.xs;obtain⟨y0,y1,y2,y3,y4,y5⟩:=S4.out.ys6;obtain⟨bl,bk,_,_⟩:=S4.out.lts;have eX:=S4.out.yU;obtain⟨ua,uc,D0,D1,h2⟩:=S4.out.env (j:=z) (by rw[A.out.zN];exact cr);have gY:=IV A.out cr;have CD:=AA (λW (hW:Below w4.heap.size w4 W)=>U7 _ (AJ k.zX z).zT nm W (BK.below h2 hW) gY HN.out (by have:(AJ k.zX z).zT.length<=6:=(Gb.1 (A.out.zT z cr)).2.2;omega));have a0:=AA (show Ae k ⟨9,(en:Int),(z:Int),b,c,nm⟩=if BM k.zZ (Be k.mem (AJ k.zX z).root) (DK (AJ k.zX z).zT nm)=false then(k,0,2) else({k with zX:=At k.zX z (Bc (DK (AJ k.zX z).zT nm))},0,0) by rw[bA.out];rfl);have jU:Db (DK (AJ k.zX z).zT nm):=λs hs=>gY s (List.mem_filter.1 hs).1
      generalize DK (AJ k.zX z).zT nm=rs at CD a0 jU;have oK:=AA jU;clear h2 bA gY jU;go_wp2_with fail;refine Aa 9 102 [.p w.heap.size 2,.s ge 3 a7,.p (w.heap.size+1) 2,.i ((z:Int)),.p ge (z*2),.p ge (z*2),.v (.slice ua (AJ k.zX z).zT.length uc),.p (w.heap.size+1) 5,.t nm] (λ_ _ _=>True) ?_ ?_
      .intro i hi o Y a O V J L HL A
       match i,hi with
       |0,_|2,_|5,_|7,_=>exact sP Y A V J
       |1,_=>exact sL Y A V J (hl:=OL (bc L bk X))
       |3,_=>exact sL Y A V J (hl:=FT (bc L bl y2))
       |4,_=>exact sI Y A V J (hr:=by clear J V A;go_simp)
       |6,_=>exact sL Y A V J (hl:=Li (bc L eX D0))
       |8,_=>exact sL Y A V J (hl:=ZP (bc L bl y5))
      .intro E O hR L
       have q6:(E 6)=.slice ua (AJ k.zX z).zT.length uc:=BS hR 6;have q8:(E 8)=.string nm:=BS hR 8;clear hR;simp only[Ak,Ah,yC,yy,yz,yx,q6,q8];simp;clear q6 q8;have eE:=AA L;clear H N X D y0 y1 y2 y3 y4 y5 D0 D1 L bl bk eX;go_wp2_with fail;refine(CD.out _ eE.out).mono ?_;rintro r w5 ⟨v',rfl,hO,dg⟩;have fT:=AA (eE.out.trans (dg.mono eE.out.size));have S5:=AA (S4.out.below fT.out);have HO:=AA (hO.lower eE.out.size);obtain⟨a9,c9,e9,_,_⟩:=hO.rd.shape;have oZ:=AA hO.rd;generalize wO _=n9 at e9;subst e9;clear hO dg CD;obtain⟨H,N,X,D⟩:=S5.out.xs;obtain⟨y0,y1,y2,y3,y4,y5⟩:=S5.out.ys6;obtain⟨bl,bk,_,_⟩:=S5.out.lts;have eX:=S5.out.yU;obtain⟨_,_,D0,D1,_⟩:=S5.out.env (j:=z) (by rw[A.out.zN];exact cr);have cz:(AJ k.zX z).root<12:=by have:=zA A.out cr;omega
       have RM:=S5.out.K.1;have RI:=S5.out.K.2.1;have CX:=AA (λW (hW:Below w5.heap.size w5 W)=>JT _ k.mem (AJ k.zX z).root W (RM.below hW) (Ar A.out).1 cz);have CA:=AA (λW (hW:Below w5.heap.size w5 W) v2 (R:Ax W v2 (Az (Er k.mem (AJ k.zX z).root)))=>by have:=GN _ v2 _ k.zZ (Er k.mem (AJ k.zX z).root) rs W (BK.below RI hW) R (BK.below oZ.out hW) (λf hf=>by have:=zw cz f ((GP cz f).1 hf);have:=A.out.len;omega) (Cg (Ar A.out).2.1) oK.out;rw[GH (GP cz)] at this;exact this);generalize hbb:BM k.zZ (Be k.mem (AJ k.zX z).root) rs=bb at CA a0;clear hbb RM RI cz;go_wp2_with fail;refine BR 13 102 [.p w.heap.size 1,.s gi 12 ar,.p w.heap.size 0,.v (.slice am dr cm),.p w.heap.size 2,.s ge 3 a7,.p (w.heap.size+1) 2,.i ((z:Int)),.p ge (z*2),.p ge (z*2+1),.i ((AJ k.zX z).root),.z,.v (.slice a9 n9 c9)] (λix vv ww=>match ix with
        |11=>AF w5.heap.size ww vv (Az (Er k.mem (AJ k.zX z).root))
        |_=>True) ?_ ?_ ?_
       .intro i hi o Y a O V J L HL A
        have bK:=bc L bl y2;have cy:=bc L eX D1
        match i,hi with
        |0,_|2,_|4,_|6,_|9,_|12,_=>exact sP Y A V J
        |1,_=>exact sL Y A V J (hl:=GY (bc L bk N))
        |3,_=>exact sL Y A V J (hl:=F9 (bc L bk H))
        |5,_=>exact sL Y A V J (hl:=OL (bc L bk X))
        |7,_|10,_=>exact sL Y A V J (hl:=FT ‹_›)
        |8,_=>exact sI Y A V J (hr:=by clear J V A;go_simp)
        |11,_=>exact sC Y A V J (CX.out _ L) (by rintro e w_ ⟨v9,rfl,hO,az⟩;exact⟨_,rfl,(BU hO L.size),az⟩)
       .intro i hi vv wz dc bs hz
        match i,hi with
        |11,_=>exact(AF.below hz bs)
        |0,_|1,_|2,_|3,_|4,_|5,_|6,_|7,_|8,_|9,_|10,_|12,_=>exact hz
       .intro E O hR L
        have q1:(E 1)=.slice (some ⟨gi,0,none⟩) 12 ar:=BS hR 1;have eG:AF w5.heap.size O (E 11) (Az (Er k.mem (AJ k.zX z).root)):=BS hR 11;have dh:(E 12)=.slice a9 n9 c9:=BS hR 12;clear hR;simp only[Ak,Ah,yC,yy,yz,yx,q1,dh];simp;generalize E 11=z11 at eG ⊢;clear q1 dh;have HQ:=AA eG.rd;obtain⟨a8,c8,e8,_⟩:=eG.rd.open;generalize wO _=n8 at e8;subst e8;have jC:=AA L;clear H N X D y0 y1 y2 y3 y4 y5 D0 D1 L bl bk eX eG;go_wp2_with fail;refine(CA.out _ jC.out _ HQ.out).mono ?_;rintro r w7 ⟨rfl,fB⟩;have ms:=AA ((fT.out.trans (jC.out.mono fT.out.size)).trans (fB.mono (yB fT.out.size jC.out.size)));have S7:=AA (S4.out.below ms.out);have o9:=AA (AQ.below (AQ.below HO.out jC.out) fB);clear fB CA HQ;cases bb
        focus
         have dq:=AA (show Ae k ⟨9,(en:Int),(z:Int),b,c,nm⟩=(k,0,2) by rw[a0.out];rfl)
         obtain⟨⟨H,N,X,D⟩,⟨⟨z0,z1,z2,z3⟩,bC⟩,HE,HR⟩:=S7.out.yH al (v:=0) (code:=2) (dq.out) (by decide)
        rotate_left
        focus
         have dq:=AA (show Ae k ⟨9,(en:Int),(z:Int),b,c,nm⟩=({k with zX:=At k.zX z (Bc rs)},0,0) by rw[a0.out];rfl)
         have T:=AA (S4.out.zT A.out.zN.symm ms.out (j:=z) (by rw[A.out.zN];exact cr) o9.out);obtain⟨_,_,ox,_,_⟩:=S7.out.env (j:=z) (by rw[A.out.zN];exact cr);have Fe:=S7.out.fze (z*2);have mM:=S7.out.xs.2.2.1;obtain⟨_,_,yo,_⟩:=S7.out.ys6;generalize hW9:w7.setCell _ _=W9 at T;obtain⟨⟨H,N,X,D⟩,⟨⟨z0,z1,z2,z3⟩,bC⟩,HE,HR⟩:=T.out.fin al (v:=0) (code:=0) (dq.out)
        rotate_left
        all_goals
         go_wp2_with ((try simp only[xL,Exit.then]);with_reducible refine yr ?_ rfl HR.out;obtain⟨E0,E1,E2,E3⟩:=HE.out;simp[results,vZ,go_sem,E0,E1,E2,E3])
theorem WS{lo:Nat}{k:AO}{w:World}(h:Da lo w mv iv ev cv k)(al:lo<=w.heap.size)(hk:DQ k)(call:Ac)(he:0<=call.e/\call.e<3)(R:call.k=10∨call.k=11):
 Calls prog 178 #[.agg #[mv,iv,ev,cv],.agg call.cs] w (LL lo w (Ae k call)):=by
 have bD:=SC.start h al call;have P0:=(Xn (k:=k) R).trans XZ;have db:=(Ar hk).1;obtain⟨gm,a5,e7,_⟩:=Eb.mems bD db;obtain⟨ge,a7,e9,_,_⟩:=bD.zX (by rw[hk.zN];omega);rw[hk.zN] at e9;obtain⟨am,dr,cm,ai,ni,ci,ae,dN,ce,ac,nc,cc,em,ei,ee,ec⟩:=bD.zQ;subst e7 e9 ei ec;clear em ee;have S0:=AA bD;obtain⟨kk,e,ra,b,c,nm⟩:=call;simp only at he R;obtain⟨en,rfl⟩:∃n:Nat,e=(n:Int):=⟨e.toNat,by omega⟩
 have df:en<3:=by omega
 have gE:(en:Int)<3:=by omega
 simp only[Ac.cs,yd] at S0 P0 ⊢;obtain⟨H,N,X,D⟩:=S0.out.xs;obtain⟨y0,y1,y2,y3,y4,y5⟩:=S0.out.ys6;obtain⟨_,_,_,D1,_⟩:=S0.out.env (j:=en) (by rw[hk.zN];exact df);obtain⟨rt,eI⟩:∃r,(AJ k.zX en).root=r:=⟨_,rfl⟩
 rw[eI] at P0 D1;have iA:=AA eI;have HP:=AA P0;have A:=AA hk;have es:=AA db;obtain⟨bad,cF⟩:∃b',decide (BZ ra 0 63=false∨rt<0∨(kk=11/\Dk b=false))=b':=⟨_,rfl⟩
 have HB:=AA cF;clear h bD he hk P0 db eI cF R;go_in;go_upto_region 2 with fail;clear D1;go_cut [37] (λm8 O=>m8=.bool bad/\SC lo w.heap.size ⟨kk,(en:Int),ra,b,c,nm⟩ w O (.slice (some ⟨gm,0,none⟩) 12 a5) (.slice ai ni ci) (.slice (some ⟨ge,0,none⟩) 3 a7) (.slice ac nc cc) k)
 case first=>
  go_wp2_with fail;refine(BJ (Gf _ _)).mono ?_;rintro r w1 ⟨rfl,bY⟩;have S1:=AA (S0.out.below bY);clear H N X D y0 y1 y2 y3 y4 y5 bY;obtain⟨y0,y1,y2,y3,y4,y5⟩:=S1.out.ys6;cases e1:BZ ra 0 63
  .have E1:=AA e1
   clear e1;go_wp2_with fail;go_meet
   case rel=>exact⟨by rw[<-HB.out];simp[E1.out],S1.out⟩
  have E1:=AA e1;clear e1
  by_cases h0:rt<0
  .have H0:=AA h0
   go_wp2_with fail;go_meet
   case rel=>exact⟨by rw[<-HB.out];simp[H0.out],S1.out⟩
  have H0:=AA h0;cases tk:(kk==11)
  .have TK:=AA (show kk≠11 by simpa using tk)
   go_wp2_with fail;go_meet
   case rel=>exact⟨by rw[<-HB.out];simp[E1.out,H0.out,TK.out],S1.out⟩
  have TK:=AA (show kk=11 by simpa using tk);go_wp2_with fail;refine(BJ (C8 _ _ _ _)).mono ?_;rintro r w2 ⟨rfl,az⟩;have S2:=AA (S1.out.below az);clear y0 y1 y2 y3 y4 y5 az;go_wp2_with fail;go_meet
  case rel=>exact⟨by rw[<-HB.out];unfold Dk;cases hw:BZ b 0 9999<;>simp[E1.out,H0.out,TK.out,hw],S2.out⟩
 case rest=>
 obtain⟨rfl,hS⟩:=hcut;have S2:=AA hS;obtain⟨w2,rfl⟩:∃w2,w2=wc:=⟨_,rfl⟩
 clear H N X D y0 y1 y2 y3 y4 y5 hS S0;cases bad
 rotate_left
 .have a0:=AA (HP.out.trans (if_pos (of_decide_eq_true HB.out)))
  clear HP HB;obtain⟨⟨H,N,X,D⟩,⟨⟨z0,z1,z2,z3⟩,bC⟩,HE,HR⟩:=S2.out.yH al (v:=0) (code:=3) (a0.out) (by decide);go_wp2_with ((try simp only[xL,Exit.then]);with_reducible refine yr ?_ rfl HR.out;obtain⟨E0,E1,E2,E3⟩:=HE.out;simp[results,vy,go_sem,E0,E1,E2,E3])
 have fJ:=HP.out.trans (if_neg (of_decide_eq_false HB.out));have fZ:=of_decide_eq_false HB.out;have ab:=AZ.1 (show BZ ra 0 63=true by cases e1:BZ ra 0 63;(· exact absurd (.inl e1) fZ);(· rfl));obtain⟨z,rfl⟩:∃n:Nat,ra=(n:Int):=⟨ra.toNat,by omega⟩
 have cr:z<64:=by omega
 obtain⟨rn,rfl⟩:∃n:Nat,rt=(n:Int):=⟨rt.toNat,by have:¬rt<0:=λx=>fZ (.inr (.inl x));omega⟩
 have cz:rn<12:=by have:=zA A.out df;rw[iA.out] at this;omega
 simp only[yd] at fJ;have kS:=AA fJ;clear fJ HP HB fZ ab;obtain⟨H,N,X,D⟩:=S2.out.xs;obtain⟨y0,y1,y2,y3,y4,y5⟩:=S2.out.ys6;have CF:=AA (QG _ k.zW (en:Int) ((z:Int)/4) w2 S2.out.K.2.2.2);go_wp2_with fail;refine CF.out.mono ?_;rintro r w3 ⟨rfl,cg⟩;have S3:=AA (S2.out.below cg);clear H N X D y0 y1 y2 y3 y4 y5 cg CF;obtain⟨H,N,X,D⟩:=S3.out.xs;obtain⟨y0,y1,y2,y3,y4,y5⟩:=S3.out.ys6;have FC:=AA (λh=>V9 (c:=k.zW) (e:=(en:Int)) (p:=((z:Int)/4)) h);generalize hat:GC k.zW (en:Int) ((z:Int)/4)=at_ at*;have mt:=AA hat;clear hat;go_upto_if 52 with fail;obtain⟨n5,dg⟩:=Dd w3 (.cells #[.int .i64 0,.int .i64 ((z:Int)%4),.bool false] 114);have g0:=S3.out.lts.2.1;have S5:=AA (S3.out.below dg);have i7:=AA S3.out.lo;have fT:=AA dg;have ob:=dg.size;clear H N X D y0 y1 y2 y3 y4 y5 dg;generalize hW5:w3.alloc _=W5 at*;generalize hqq:w3.heap.size=q at*;have oN:=AA hqq;clear hqq;have N5:=AA n5;clear n5 hW5;have pI:q≠w.heap.size:=by omega
 have j6:w.heap.size≠q:=by omega
 go_cut [10,11] (λjj pA O=>∃(fr:Nat) (wb:Bool),fr<12/\Bq k.mem rn z=(0,fr,wb)/\(SC lo w.heap.size ⟨kk,(en:Int),(z:Int),b,c,nm⟩ w O (.slice (some ⟨gm,0,none⟩) 12 a5) (.slice ai ni ci) (.slice (some ⟨ge,0,none⟩) 3 a7) (.slice ac nc cc) k)/\O.heap[q]?=some (.cells #[.int .i64 fr,.int .i64 ((z:Int)%4),.bool wb] 114 (0,0)))
 case first=>
  obtain⟨H,N,X,D⟩:=S5.out.xs;obtain⟨y0,y1,y2,y3,y4,y5⟩:=S5.out.ys6;obtain⟨c0,c1,c2⟩:=GI N5.out;have bC:=AK N5.out
  by_cases bf:at_<0
  .have CW:=AA (QE _ k.mem rn z W5 S5.out.K.1 es.out cz cr)
   go_wp2_with fail;refine CW.out.mono ?_;rintro r w6 ⟨rfl,ko⟩;have S6:=AA (S5.out.below ko);have N6:=AA (AB N5.out ko);clear H N X D y0 y1 y2 y3 y4 y5 c0 c1 c2 bC ko CW;rw[show IK k.mem rn z=.tuple #[if(Bq k.mem rn z).1=0 then Kz (Bq k.mem rn z).2.1 z (Bq k.mem rn z).2.2 else Ed,.int .i64 (Bq k.mem rn z).1] from rfl];have oF:=AA (λfr wb (h:Bq k.mem rn z=(0,fr,wb))=>XF h);generalize fI:Bq k.mem rn z=res at*;clear fI;obtain⟨cd,fr,wb⟩:=res
   by_cases jv:cd=0
   .subst jv
    have du:=oF.out fr wb rfl;rw[if_pos rfl];unfold Kz;rw[show((z%4:Nat):Int)=(z:Int)%4 by omega];have B7:=AI w6 (.cells #[.int .i64 fr,.int .i64 ((z:Int)%4),.bool wb] 114);obtain⟨T8,n8⟩:=(S6.out.below B7).place (by decide) (AB N6.out B7) (yB i7.out (yv _)) (.int .i64 fr) (.int .i64 ((z:Int)%4)) (.bool wb);have T8:=AA T8;have N8:=AA n8;obtain⟨c0,c1,c2⟩:=GI (AB N6.out B7);have bC:=AK (AB N6.out B7);have nD:q≠w6.heap.size:=by have:=AW N6.out;omega
    have nC:w6.heap.size≠q:=λe=>nD e.symm
    clear B7 n8;go_wp2_with fail;go_meet
    case rel=>exact⟨fr,wb,du,rfl,T8.out,N8.out⟩
   .rw[if_neg jv]
    unfold Ed;have B7:=AI w6 (.cells #[.int .i64 0,.int .i64 0,.bool false] 114);have S7:=AA (S6.out.below B7);have n4:(cd !=0)=true:=by simp[jv]
    have a0:=AA (kS.out.trans (if_pos jv));clear B7;obtain⟨⟨H,N,X,D⟩,⟨⟨z0,z1,z2,z3⟩,bC⟩,HE,HR⟩:=S7.out.yH al (v:=0) (code:=3) (a0.out) (by decide);go_wp2_with ((try simp only[xL,Exit.then]);with_reducible refine yr ?_ rfl HR.out;obtain⟨E0,E1,E2,E3⟩:=HE.out;simp[results,vy,go_sem,E0,E1,E2,E3])
  .obtain⟨j,hj,ej,hs⟩:=FC.out (by omega)
   rw[show(z:Int)/4=((z/4:Nat):Int) by omega] at hs;obtain⟨fr,du,kg,fI⟩:=Uk A.out hj hs rfl;generalize(AT k.zW j).w=wb at kg fI;obtain⟨a8,c8,e8,_,_,H8⟩:=BK.open CZ (by decide) S3.out.K.2.2.2;cases e8;obtain⟨bc,im,rfl,kl,D0,D1,D2,D3⟩:=H8.zL hj;rw[kg] at D2 D3;rw[oN.out] at kl;simp only at D2 D3;have qi:=(fT.out.cell (p:=⟨bc,im+j*4+2,none⟩) kl).trans D2;have qg:=(fT.out.cell (p:=⟨bc,im+j*4+3,none⟩) kl).trans D3;obtain⟨T8,n8⟩:=S5.out.place2 (by decide) N5.out (yB i7.out (yv _)) (.int .i64 fr) (.bool wb);have T8:=AA T8;have N8:=AA n8;have dm:(j:Int)<k.zW.length:=by omega
   have n7:bc≠q:=by omega
   have nB:q≠bc:=by omega
   rw[iA.out] at fI;rw[yd] at fI;subst ej;clear hs kg D0 D1 D2 D3 n8 H8;go_wp2_with fail;go_meet
   case rel=>exact⟨fr,wb,du,fI,T8.out,N8.out⟩
 case rest=>
  obtain⟨fr,wb,du,fI,s8,n8⟩:=hcut;generalize wc=w8 at*;have S8:=AA s8;have N8:=AA n8;have fJ:=kS.out;rw[fI,if_neg (by simp),show((z:Int)%4).toNat=z%4 by omega] at fJ;simp only at fJ;clear s8 n8 kS fI;obtain⟨H,N,X,D⟩:=S8.out.xs;obtain⟨y0,y1,y2,y3,y4,y5⟩:=S8.out.ys6;obtain⟨p0,p1,p2⟩:=GI N8.out;go_upto_region 13 with fail;go_cut [87] (λm6 O=>m6=.bool ((kk==11)&&!wb)/\O=w8)
  case first=>
   cases tk:(kk==11)
   all_goals
    go_wp2_with fail;go_meet
    case rel=>exact⟨by rw[tk];rfl,rfl⟩
  case rest=>
  obtain⟨rfl,rfl⟩:=hcut;obtain⟨w8,rfl⟩:∃w8,w8=wc:=⟨_,rfl⟩
  cases az:((kk==11)&&!wb)
  rotate_left
  .have a0:=AA (fJ.trans (if_pos (by simpa using az)))
   obtain⟨⟨H,N,X,D⟩,⟨⟨z0,z1,z2,z3⟩,bC⟩,HE,HR⟩:=S8.out.yH al (v:=0) (code:=1) (a0.out) (by decide);go_wp2_with ((try simp only[xL,Exit.then]);with_reducible refine yr ?_ rfl HR.out;obtain⟨E0,E1,E2,E3⟩:=HE.out;simp[results,vy,go_sem,E0,E1,E2,E3])
  have a0:=AA (fJ.trans (if_neg (by simpa using az)));clear fJ az;go_upto_if 90 with fail;clear H N X D y0 y1 y2 y3 y4 y5 p0 p1 p2;go_cut [] (λO=>∃cv,(SC lo w.heap.size ⟨kk,(en:Int),(z:Int),b,c,nm⟩ w O (.slice (some ⟨gm,0,none⟩) 12 a5) (.slice ai ni ci) (.slice (some ⟨ge,0,none⟩) 3 a7) cv {k with zW:=Hv k.zW (en:Int) ((z:Int)/4) fr wb})/\O.heap[q]?=some (.cells #[.int .i64 fr,.int .i64 ((z:Int)%4),.bool wb] 114 (0,0)))
  case first=>
   by_cases bf:at_<0
   .obtain⟨H,N,X,D⟩:=S8.out.xs
    obtain⟨y0,y1,y2,y3,y4,y5⟩:=S8.out.ys6;obtain⟨p0,p1,p2⟩:=GI N8.out;have CP:=AA (Sh _ k.zW ⟨(en:Int),(z:Int)/4,(fr:Int),wb⟩ w8 S8.out.K.2.2.2 (QB A.out));go_wp2_with fail;refine CP.out.mono ?_;rintro r w9 ⟨v',rfl,hO,dk⟩;have T9:=AA (S8.out.zW dk hO);have N9:=AA (show(w9.setCell ⟨w.heap.size,3,none⟩ v').heap[q]?=_ from Ap (AB N8.out dk) (Aq w9 w.heap.size 3 v') j6);have hU:=AA (show Hv k.zW (en:Int) ((z:Int)/4) fr wb=Ga k.zW ⟨(en:Int),(z:Int)/4,(fr:Int),wb⟩ by unfold Hv;rw[mt.out,if_pos bf]);have iX:=AK (S8.out.below dk).yI.1;have jh:=(S8.out.below dk).xs.2.2.2;clear H N X D y0 y1 y2 y3 y4 y5 p0 p1 p2 CP;obtain⟨a9,c9,e9,_,_⟩:=hO.rd.shape;generalize wO _=n9 at e9;subst e9;clear hO dk;go_wp2_with fail;go_meet
    case rel=>exact⟨_,by rw[hU.out];exact T9.out,N9.out⟩
   .have hU:=AA (show Hv k.zW (en:Int) ((z:Int)/4) fr wb=k.zW by unfold Hv;rw[mt.out,if_neg (by omega)])
    go_wp2_with fail;go_meet
    case rel=>exact⟨_,by rw[hU.out];exact S8.out,N8.out⟩
  case rest=>
   obtain⟨cv,jj,ly⟩:=hcut;generalize wc=eF at*;have eC:=AA jj;have gN:=AA ly;obtain⟨hY,c9,e9,_,_⟩:=(jj.K.2.2.2).shape;generalize wO _=nc9 at e9;subst e9;generalize c9=cc9 at*;clear jj ly S8 N8;obtain⟨H,N,X,D⟩:=eC.out.xs;obtain⟨y0,y1,y2,y3,y4,y5⟩:=eC.out.ys6;obtain⟨p0,p1,p2⟩:=GI gN.out;obtain⟨bl,bk,_,_⟩:=eC.out.lts;have iJ:=AW gN.out;cases tk:(kk==11)
   .have gS:=AA tk
    obtain⟨gw,cN,x3,eW,gF,hC,_,_,_,ey,_⟩:=Eb.mrow eC.out es.out du;have dt:gm<eF.heap.size:=yA _ _ x3;have iM:(fr:Int)<12:=by omega
    have lY:(z:Int)%4<4:=by omega
    have Dw:=hC (z%4) (by omega);obtain⟨nG,hF⟩:=eC.out.rs _ (wX.2 rfl);have ng:gw≠w.heap.size+2:=ey _ _ _ hF (by decide);clear ey;have lx:q≠w.heap.size+2:=λe=>by rw[e] at gN;rw[gN.out] at hF;simp at hF
    have nk:gm≠w.heap.size+2:=λe=>by obtain⟨E,o⟩:=eC.out.yI.2.2.1;obtain⟨cu,iP⟩:=A6 o.1 gm rfl;exact Br iP hF (by decide) e
    have dq:=a0.out.trans (if_neg (by simpa using gS.out));generalize As k.mem fr (z%4)=wd at Dw dq;have dq:=AA dq;obtain⟨⟨z0,z1,z2,z3⟩,bC⟩:=eC.out.zs;go_wp2_with fail;refine Co 14 131 (λix=>ix==11) [.a #[.slice (some ⟨gm,0,none⟩) 12 a5,.slice ai ni ci,.slice (some ⟨ge,0,none⟩) 3 a7,.slice hY nc9 cc9],.p w.heap.size 0,.s gm 12 a5,.p q 0,.i ((fr:Int)),.p gm fr,.s gw 4 cN,.p q 1,.i (((z:Int)%4)),.p gw (z%4),.i wd,.z,.i wd,.i 0] (λll ix vv ww=>match ix with
     |_=>True) (λll ww=>GA eF (w.heap.size+2) (.slice (some ⟨gm,0,none⟩) 12 a5) (.slice ai ni ci) (.slice (some ⟨ge,0,none⟩) 3 a7) (.slice hY nc9 cc9) (ll 11) ww) ?_ ?_ ?_ ?_ ?_ ?_
    .exact Av (yD _ _) 1
    .exact λ_ _ _ _ _ _ _ _ _ _ _ _ h=>h
    .intro ll i wz dc hi hS fC bs hg
     show GA _ _ _ _ _ _ (GU ll i 11) _
     rw[EB (by rintro rfl;cases hS)];exact GA.grow hg bs
    .intro i hi hS o Y a O V ll J K L HL A
     match i,hi,hS with
     |0,_,_=>have fl:=A9 K 11;have bt:=(show O.cell? ⟨w.heap.size,0,none⟩=some (.slice (some ⟨gm,0,none⟩) 12 a5) from(GA.cell L bk (by simp)).trans H);have bp:=(show O.cell? ⟨w.heap.size,1,none⟩=some (.slice ai ni ci) from(GA.cell L bk (by simp)).trans N);have bw:=(show O.cell? ⟨w.heap.size,2,none⟩=some (.slice (some ⟨ge,0,none⟩) 3 a7) from(GA.cell L bk (by simp)).trans X);have bK:=(show O.cell? ⟨w.heap.size,3,none⟩=some (.slice hY nc9 cc9) from(GA.cell L bk (by simp)).trans D);exact JM Y A V J K (hl:=OM ‹_› ‹_› ‹_› ‹_›)
     |1,_,_|3,_,_|7,_,_|12,_,_|13,_,_=>exact Rb Y A V J K
     |2,_,_=>have bt:=(show O.cell? ⟨w.heap.size,0,none⟩=some (.slice (some ⟨gm,0,none⟩) 12 a5) from(GA.cell L bk (by simp)).trans H);exact JM Y A V J K (hl:=F9 ‹_›)
     |4,_,_=>have cy:=(show O.cell? ⟨q,0,none⟩=some (.int .i64 fr) from(GA.cell L iJ lx).trans p0);exact JM Y A V J K (hl:=FT ‹_›)
     |6,_,_=>have cT:=(show O.cell? ⟨gm,fr,none⟩=some (.slice (some ⟨gw,0,none⟩) 4 cN) from(GA.cell L dt nk).trans x3);exact JM Y A V J K (hl:=KU ‹_›)
     |8,_,_=>have gW:=(show O.cell? ⟨q,1,none⟩=some (.int .i64 (((z:Int)%4))) from(GA.cell L iJ lx).trans p1);exact JM Y A V J K (hl:=FT ‹_›)
     |10,_,_=>have io:=(show O.cell? ⟨gw,z%4,none⟩=some (.int .i64 wd) from(GA.cell L eW ng).trans Dw);exact JM Y A V J K (hl:=FT ‹_›)
     |11,_,hs=>cases hs
     |5,_,_=>obtain rfl:=yF Y;have d2:(a.tmps[122]?.getD undef)=.slice (some ⟨gm,0,none⟩) 12 a5:=Cw J K 2;have d4:(a.tmps[124]?.getD undef)=.int .i64 fr:=Cw J K 4;clear J V;refine yE ?_;go_simp;exact A.out _ _ rfl (yD _ _)
     |9,_,_=>obtain rfl:=yF Y;have d6:(a.tmps[126]?.getD undef)=.slice (some ⟨gw,0,none⟩) 4 cN:=Cw J K 6;have d8:(a.tmps[128]?.getD undef)=.int .i64 (((z:Int)%4)):=Cw J K 8;clear J V;refine yE ?_;go_simp;exact A.out _ _ rfl (yD _ _)
    .intro i hi hS o Y a O V ll J K L HL A
     match i,hi,hS with
     |0,_,hs|1,_,hs|2,_,hs|3,_,hs|4,_,hs|5,_,hs|6,_,hs|7,_,hs|8,_,hs|9,_,hs|10,_,hs|12,_,hs|13,_,hs=>cases hs
     |11,_,_=>
      obtain rfl:=yF Y;have e4:a.tmps[4]?.getD undef=.pointer (some ⟨w.heap.size+2,0,none⟩):=eg (PI V 4);have d0:(a.tmps[120]?.getD undef)=.agg #[.slice (some ⟨gm,0,none⟩) 12 a5,.slice ai ni ci,.slice (some ⟨ge,0,none⟩) 3 a7,.slice hY nc9 cc9]:=Cw J K 0;clear J V;rw[K.out.1] at L;replace L:Below eF.heap.size eF O:=L;have B2:=AB hF L;obtain⟨c0,c1,c2,c3⟩:=AE B2;have pQ:=AK B2;refine yE ?_;go_simp;exact A.out undef _ trivial (by show GA _ _ _ _ _ _ (GU ll 11 11) _;rw[FN];exact⟨O,L,yD _ _⟩) (λj dm dQ dd hu=>match j,dQ with
       |0,_|1,_|2,_|3,_|4,_|5,_|6,_|7,_|8,_|9,_|10,_|12,_|13,_=>hu
       |11,_=>absurd rfl dm)
    .intro E O ll cl hR L
     have dh:(E 12)=.int .i64 wd:=BS hR 12;have dw:(E 13)=.int .i64 0:=BS hR 13;clear hR;simp only[Cn,BQ,yC,yy,yz,yx,dh,dw];simp;clear dh dw;rw[cl 11 (by decide)] at L;obtain⟨wz,h1,R⟩:=L;have ku:Below (FG wz (w.heap.size+2) (.slice (some ⟨gm,0,none⟩) 12 a5) (.slice ai ni ci) (.slice (some ⟨ge,0,none⟩) 3 a7) (.slice hY nc9 cc9)).heap.size (FG wz (w.heap.size+2) (.slice (some ⟨gm,0,none⟩) 12 a5) (.slice ai ni ci) (.slice (some ⟨ge,0,none⟩) 3 a7) (.slice hY nc9 cc9)) O:=by simpa[FG] using R
     obtain⟨iV,jb⟩:=(eC.out.below h1).ret (yB al (wv _ _)) (wv _ _) (v:=wd) (code:=0) dq.out;obtain⟨E0,E1,E2,E3⟩:=AE (AB iV ku);have HR:=AA (jb.below (by have:=(eC.out.below h1).lo;simpa using this) ku);have HE:=AA (xU E0 (xU E1 (xU E2 E3)));clear H N X D y0 y1 y2 y3 y4 y5 p0 p1 p2 z0 z1 z2 z3 bC x3 Dw E0 E1 E2 E3 iV jb h1 R ku hF;go_wp2_with fail;exact yr (v:=.tuple #[.agg #[_,_,_,_],.int .i64 wd,.int .i64 0]) (by simp[results,vy,go_sem,HE.out]) rfl HR.out
   .have gS:=AA tk
    obtain⟨gw,cN,x3,eW,gF,_⟩:=Eb.mrow eC.out es.out du;have dt:gm<eF.heap.size:=yA _ _ x3;have iM:(fr:Int)<12:=by omega
    have lY:(z:Int)%4<4:=by omega
    have dq:=AA (a0.out.trans (if_pos (by simpa using gS.out)));go_wp2_with fail;refine Aa 10 131 [.p w.heap.size 0,.s gm 12 a5,.p q 0,.i ((fr:Int)),.p gm fr,.s gw 4 cN,.p q 1,.i (((z:Int)%4)),.p (w.heap.size+1) 3,.i b] (λ_ _ _=>True) ?_ ?_
    .intro i hi o Y a O V J L HL A
     have bp:=bc L iJ p0;have bK:=bc L iJ p1;have cy:=bc L bl y3
     match i,hi with
     |0,_|2,_|6,_|8,_=>exact sP Y A V J
     |1,_=>exact sL Y A V J (hl:=F9 (bc L bk H))
     |3,_|7,_|9,_=>exact sL Y A V J (hl:=FT ‹_›)
     |4,_=>exact sI Y A V J (hr:=by clear J V A;go_simp)
     |5,_=>exact sL Y A V J (hl:=KU (bc L dt x3))
    .intro E O hR L
     have q5:(E 5)=.slice (some ⟨gw,0,none⟩) 4 cN:=BS hR 5;have q7:(E 7)=.int .i64 (((z:Int)%4)):=BS hR 7;have q9:(E 9)=.int .i64 b:=BS hR 9;clear hR;simp only[Ak,Ah,yC,yy,yz,yx,q5,q7,q9];simp;clear q5 q7 q9;have fe:=AA (eC.out.below L);obtain⟨kv,fd,D2,_,_,hC,Fr,_,_,nu,hS⟩:=Eb.mrow fe.out es.out du;clear nu;have eD:=D2.symm.trans ((L.cell (p:=⟨gm,fr,none⟩) dt).trans x3);cases eD;have D3:=hC (z%4) (by omega);have fD:=AA (hS (z%4) b (by omega));generalize hW9:O.setCell _ _=W9 at fD;clear H N X D y0 y1 y2 y3 y4 y5 p0 p1 p2 x3 D2 hS L eC hC iM lY eW gF dt bl bk iJ;obtain⟨⟨H,N,X,D⟩,⟨⟨z0,z1,z2,z3⟩,bC⟩,HE,HR⟩:=fD.out.fin al (v:=0) (code:=0) (dq.out);go_wp2_with ((try simp only[xL,Exit.then]);with_reducible refine yr ?_ rfl HR.out;obtain⟨E0,E1,E2,E3⟩:=HE.out;simp[results,vy,go_sem,E0,E1,E2,E3])
def ak(w w':World):Prop:=∀(b:Nat)(cu:Array Value),w.heap[b]?=some (.cells cu 28 (0,0))->w'.heap[b]?=w.heap[b]?
theorem LL.up{T:Nat}{cs:Array Value}{lo b0 b:Nat}{w W W1:World}{m i e c:Value}{k:AO}{res:Mh}(h:Eb T cs [b] lo w.heap.size b0 w W m i e c k)(al:lo<=b)(g5:w.heap.size<=b)
 (hs:ch m' i' e' c')(hK:res.2.2=0->Da lo W1 m' i' e' c' res.1)(Z:Below lo W W1)(hf:ak W W1):
 W1.heap[b]?=some (.cells #[.slice none 0 0,.slice none 0 0,.slice none 0 0,.slice none 0 0] 28 (0,0))/\
 ((((W1.setCell ⟨b,0,none⟩ m').setCell ⟨b,1,none⟩ i').setCell ⟨b,2,none⟩ e').setCell ⟨b,3,none⟩ c').heap[b]?=some (.cells #[m',i',e',c'] 28 (0,0))/\
 LL lo w res (.returned (.tuple #[.agg #[m',i',e',c'],.int .i64 res.2.1,.int .i64 res.2.2])) ((((W1.setCell ⟨b,0,none⟩ m').setCell ⟨b,1,none⟩ i').setCell ⟨b,2,none⟩ e').setCell ⟨b,3,none⟩ c'):=by
 obtain⟨ey,lX⟩:=h.rs b (wX.2 rfl);have hB:=(hf b _ lX).trans lX;have a6:=An (An (An (Aq W1 b 0 m') 1 i') 2 e') 3 c';refine⟨hB,Cx hB,m',i',e',c',rfl,hs,λhc=>?_,((((h.bel.trans Z).setCell al _).setCell al _).setCell al _).setCell al _,λq cu hq=>?_⟩
 .obtain⟨⟨E,o1⟩,o2,⟨ps,o3⟩,o4⟩:=hK hc
  exact⟨⟨E,o1.yL a6 hB⟩,o2.yL a6 hB,⟨ps,o3.yL a6 hB⟩,o4.yL a6 hB⟩
 .have e1:=(h.kf q cu (by have:=AW hq;omega) hq).trans hq
  have e2:=(hf q cu e1).trans e1;exact(Ap e2 a6 (by have:=AW hq;omega)).trans hq.symm
theorem Py(x:Int):∃(fn:Nat) (wr:Bool),Tg x=.tuple #[.int .i64 fn,.bool wr,.bool (Bm x)]/\fn<12/\(Bm x=true->fn=BC x):=by
 cases h:Bm x
 .exact⟨0,false,Eu h,by decide,λh=>by cases h⟩
 .exact⟨BC x,Ko x,Ej h,Ec h,λ_=>rfl⟩
theorem Ua{k:AO}{a e:Nat}(h:e∈Fo k a):e<3:=by rw[<-JA] at h;exact XD h
theorem Yh{k:AO}{a:Nat}:(Fo k a).length<=3:=by rw[<-JA];exact Lx
theorem Y8{k:AO}{c:Ac}(h:Dt k c=true)(ht:Bh (zS k.zZ c.a.toNat).k=true):Bm c.c=true->(zS k.zZ (BC c.c)).k≠3:=by intro hg;unfold Dt at h;rw[if_pos hg,decide_eq_true_eq] at h;simp only[Bh,xE,decide_eq_true_eq] at ht;omega
theorem Qf{zZ:List AV}{n:Int}(h:Bm x=false):A5 zZ x n=zZ:=by unfold A5;rw[if_neg (by rw[h];decide)]
theorem Sx{zZ:List AV}{n:Int}{f:Nat}(h:Bm x=true)(hf:f=BC x):A5 zZ x n=At zZ f (Jk n):=by unfold A5;rw[if_pos h,hf]
theorem WU{lo:Nat}{k:AO}{w:World}(h:Da lo w mv iv ev cv k)(al:lo<=w.heap.size)(hk:DQ k)(call:Ac)(he:0<=call.e/\call.e<3)(R:call.k=6)(hc:call.c<=9223372036854775807):
 Calls prog 175 #[.agg #[mv,iv,ev,cv],.agg call.cs] w (LL lo w (Ae k call)):=by
 have bD:=SC.start h al call;have P0:=Xm (k:=k) R;have FZ:=AA (λhz=>Jp (k:=k) (c:=call) (kind:=0) hz);have db:=(Ar hk).1;obtain⟨gm,a5,e7,_⟩:=Eb.mems bD db;obtain⟨ge,a7,e9,_,_⟩:=bD.zX (by rw[hk.zN];omega);rw[hk.zN] at e9;obtain⟨gi,ar,e8,_,_⟩:=bD.zZ (by rw[hk.len];omega);rw[hk.len] at e8;obtain⟨am,dr,cm,ai,ni,ci,ae,dN,ce,ac,nc,cc,em,ei,ee,ec⟩:=bD.zQ;subst e7 e8 e9 ec;clear em ei ee;have S0:=AA bD;obtain⟨kk,e,ra,b,c,nm⟩:=call;simp only at he R hc;subst R;obtain⟨en,rfl⟩:∃n:Nat,e=(n:Int):=⟨e.toNat,by omega⟩
 have df:en<3:=by omega
 have gE:(en:Int)<3:=by omega
 simp only[Ac.cs] at S0 P0 FZ ⊢;have HP:=AA P0;have A:=AA hk;have es:=AA db;have CF:=AA (λW (h:Mu W (.slice (some ⟨gm,0,none⟩) 12 a5) (.slice (some ⟨gi,0,none⟩) 12 ar) (.slice (some ⟨ge,0,none⟩) 3 a7) (.slice ac nc cc) k)=>Ks _ _ _ _ k 6 (en:Int) ra b c nm 0 W h hk he (.inl rfl));have CG:=AA (λW=>BJ (DB c W hc));have Hc:=AA hc;obtain⟨H,N,X,D⟩:=S0.out.xs;obtain⟨y0,y1,y2,y3,y4,y5⟩:=S0.out.ys6;generalize hfc:CJ k ⟨6,(en:Int),ra,b,c,nm⟩ 0=fc at*;clear h bD he hk P0 db hfc hc;generalize hW0:((w.alloc _).alloc _).alloc _=W0 at*;go_in;go_wp2_with fail;refine(CF.out _ S0.out.K).mono ?_;rintro r w1 ⟨rfl,bY⟩;have S1:=AA (S0.out.below bY);clear H N X D y0 y1 y2 y3 y4 y5 bY CF hW0
 by_cases ef:fc=0
 .subst ef
  obtain⟨dx,_,hm,_,lD⟩:=FZ.out rfl;have ab:=AZ.1 dx;obtain⟨z,rfl⟩:∃n:Nat,ra=(n:Int):=⟨ra.toNat,by omega⟩
  have cr:z<12:=by omega
  have eY:(z:Int)<12:=by omega
  have bA:=AA (show Ae k ⟨6,(en:Int),(z:Int),b,c,nm⟩=Zq k ⟨6,(en:Int),(z:Int),b,c,nm⟩ by rw[HP.out];rfl);have kM:=AA (lD (by first|rfl|trivial));obtain⟨H,N,X,D⟩:=S1.out.xs;obtain⟨y0,y1,y2,y3,y4,y5⟩:=S1.out.ys6;clear dx hm lD ab FZ HP;go_wp2_with fail;refine(CG.out _).mono ?_;rintro r w2 ⟨rfl,az⟩;have S2:=AA (S1.out.below az);obtain⟨fn,wf,hV,fv,fw⟩:=Py c;rw[hV];clear H N X D y0 y1 y2 y3 y4 y5 az hV CG S0 S1;obtain⟨H,N,X,D⟩:=S2.out.xs;obtain⟨y0,y1,y2,y3,y4,y5⟩:=S2.out.ys6;obtain⟨bl,bk,_,_⟩:=S2.out.lts;have dS:=S2.out.zl;obtain⟨d0,_,_⟩:=S2.out.zS (f:=z) (by rw[A.out.len];exact cr);obtain⟨f0,_,_⟩:=S2.out.zS (f:=fn) (by rw[A.out.len];exact fv);have CB:=AA (λW (hW:Below w2.heap.size w2 W)=>BJ (C8 b 0 3 W));have CK:=AA (λW (hW:Below w2.heap.size w2 W)=>BJ (KH c W));have nW:(fn:Int)<12:=by omega
  obtain⟨okb,hokb⟩:∃okb,okb=(BZ b 0 3&&Dt k ⟨6,(en:Int),(z:Int),b,c,nm⟩):=⟨_,rfl⟩
  have dX:=AA hokb;have kV:=AA fw;generalize hsm:Bm c=sm at*;have fh:=AA hsm;clear hokb fw hsm;go_wp2_with fail;go_cut [60] (λm7 O=>m7=.bool (!okb)/\Eb 55 #[.int .i64 6,.int .i64 en,.int .i64 z,.int .i64 b,.int .i64 c,.string nm] [w.heap.size+2] lo w.heap.size (w.heap.size+1) w O (.slice (some ⟨gm,0,none⟩) 12 a5) (.slice (some ⟨gi,0,none⟩) 12 ar) (.slice (some ⟨ge,0,none⟩) 3 a7) (.slice ac nc cc) k)
  case first=>
   have oE:(decide (0<=b)&&decide (b<=3))=BZ b 0 3:=rfl;clear oE;cases cg:BZ b 0 3
   .have vs:=AA (show okb=false by rw[dX.out,cg];rfl)
    rw[cg] at CB;clear cg d0 f0;refine Aa 29 167 [.p (w.heap.size+1) 3,.i b,.b false,.b true,.b true,.u,.u,.u,.u,.b true,.b true,.u,.u,.u,.u,.u,.u,.u,.u,.u,.u,.u,.u,.u,.u,.u,.u,.u,.u] (λ_ _ _=>True) ?_ ?_
    .intro i hi o Y a O V J L HL A
     match i,hi with
     |0,_|3,_|4,_|9,_|10,_=>exact sP Y A V J
     |1,_=>exact sL Y A V J (hl:=FT (bc L bl y3))
     |2,_=>exact sD Y A V J (CB.out _ L)
     |5,_|6,_|7,_|8,_|11,_|12,_|13,_|14,_|15,_|16,_|17,_|18,_|19,_|20,_|21,_|22,_|23,_|24,_|25,_|26,_|27,_|28,_=>exact sB Y A J
     |_+29,hq=>omega
    .intro E O hR L
     have dP:(E 10)=.bool true:=BS hR 10;clear hR;simp only[Ak,Ah,yC,yy,yz,yx,dP];simp;clear dP;clear H N X D y0 y1 y2 y3 y4 y5;go_wp2_with fail;go_meet
     case rel=>exact⟨by rw[vs.out];rfl,S2.out.below L⟩
   .rw[cg] at CB
    cases sm
    .by_cases eA:c=0
     .have vs:=AA (show okb=true by rw[dX.out,cg];simp only[Dt,fh.out];simp[eA])
      have EK:EQ c=0:=by simp[EQ,eA]
      rw[EK] at CK;clear cg eA EK d0 f0;refine Aa 29 167 [.p (w.heap.size+1) 3,.i b,.b true,.b false,.b false,.p (w.heap.size+1) 4,.i c,.i 0,.b false,.b false,.b false,.b false,.b false,.u,.u,.u,.u,.u,.u,.u,.u,.u,.u,.u,.u,.u,.u,.u,.b false] (λ_ _ _=>True) ?_ ?_
      .intro i hi o Y a O V J L HL A
       have bt:=bc L bl y3;have bp:=bc L bl y4
       match i,hi with
       |0,_|3,_|4,_|5,_|9,_|10,_|11,_|12,_|28,_=>exact sP Y A V J
       |1,_|6,_=>exact sL Y A V J (hl:=FT ‹_›)
       |2,_=>exact sD Y A V J (CB.out _ L)
       |7,_=>exact sD Y A V J (CK.out _ L)
       |13,_|14,_|15,_|16,_|17,_|18,_|19,_|20,_|21,_|22,_|23,_|24,_|25,_|26,_|27,_=>exact sB Y A J
       |8,_=>clear bt bp;obtain rfl:=yF Y;have d7:(a.tmps[38]?.getD undef)=.int .i64 0:=Ba J 7;have d4:(a.tmps[35]?.getD undef)=.bool false:=Ba J 4;clear J V;refine AX.yes rfl rfl d4 ?_;go_simp;exact A.out _ _ rfl (yD _ _)
       |_+29,hq=>omega
      .intro E O hR L
       have dP:(E 10)=.bool false:=BS hR 10;have fX:(E 28)=.bool false:=BS hR 28;clear hR;simp only[Ak,Ah,yC,yy,yz,yx,dP,fX];simp;clear dP fX;clear H N X D y0 y1 y2 y3 y4 y5;go_wp2_with fail;go_meet
       case rel=>exact⟨by rw[vs.out];rfl,S2.out.below L⟩
     .have vs:=AA (show okb=false by rw[dX.out,cg];simp only[Dt,fh.out];simp[eA])
      have EK:EQ c=2:=by simp[EQ,eA,fh.out]
      rw[EK] at CK;clear cg eA EK d0 f0;refine Aa 29 167 [.p (w.heap.size+1) 3,.i b,.b true,.b false,.b false,.p (w.heap.size+1) 4,.i c,.i 2,.b true,.b true,.b true,.u,.u,.u,.u,.u,.u,.u,.u,.u,.u,.u,.u,.u,.u,.u,.u,.u,.u] (λ_ _ _=>True) ?_ ?_
      .intro i hi o Y a O V J L HL A
       have bt:=bc L bl y3;have bp:=bc L bl y4
       match i,hi with
       |0,_|3,_|4,_|5,_|9,_|10,_=>exact sP Y A V J
       |1,_|6,_=>exact sL Y A V J (hl:=FT ‹_›)
       |2,_=>exact sD Y A V J (CB.out _ L)
       |7,_=>exact sD Y A V J (CK.out _ L)
       |11,_|12,_|13,_|14,_|15,_|16,_|17,_|18,_|19,_|20,_|21,_|22,_|23,_|24,_|25,_|26,_|27,_|28,_=>exact sB Y A J
       |8,_=>clear bt bp;obtain rfl:=yF Y;have d7:(a.tmps[38]?.getD undef)=.int .i64 2:=Ba J 7;have d4:(a.tmps[35]?.getD undef)=.bool false:=Ba J 4;clear J V;refine AX.yes rfl rfl d4 ?_;go_simp;exact A.out _ _ rfl (yD _ _)
       |_+29,hq=>omega
      .intro E O hR L
       have dP:(E 10)=.bool true:=BS hR 10;clear hR;simp only[Ak,Ah,yC,yy,yz,yx,dP];simp;clear dP;clear H N X D y0 y1 y2 y3 y4 y5;go_wp2_with fail;go_meet
       case rel=>exact⟨by rw[vs.out];rfl,S2.out.below L⟩
    .have EK:EQ c=1:=by
      unfold EQ;rw[if_neg (by intro h;have:=fh.out;rw[h] at this;cases this),fh.out];rfl
     rw[EK] at CK;have fw:=kV.out rfl;have gz:=kM.out;generalize hka:(zS k.zZ z).k=ka at d0 gz;generalize hkf:(zS k.zZ fn).k=kf at f0;have lL:2<=ka/\ka<=3:=by simp only[Bh,xE,decide_eq_true_eq,yd,hka] at gz;omega
     obtain⟨km,hkm⟩:∃km,ka - 1=km:=⟨_,rfl⟩
     have mo:=AA hkm
     by_cases hq:kf=km
     .have vs:=AA (show okb=true by rw[dX.out,cg];simp[Dt,fh.out,<-fw,hka,hkf];omega)
      have mP:(kf !=km)=false:=by simp[hq]
      clear cg EK fw gz hka hkf hkm hq;refine Aa 29 167 [.p (w.heap.size+1) 3,.i b,.b true,.b false,.b false,.p (w.heap.size+1) 4,.i c,.i 1,.b false,.b false,.b false,.b true,.b true,.p w.heap.size 1,.s gi 12 ar,.i ((fn:Int)),.p gi (fn*3),.p gi (fn*3),.i kf,.p w.heap.size 1,.s gi 12 ar,.p (w.heap.size+1) 2,.i ((z:Int)),.p gi (z*3),.p gi (z*3),.i ka,.i km,.b false,.b false] (λ_ _ _=>True) ?_ ?_
      .intro i hi o Y a O V J L HL A
       have bt:=bc L bl y3;have bp:=bc L bl y4;have bw:=bc L bk N;have bK:=bc L dS f0;have cy:=bc L bl y2;have cT:=bc L dS d0
       match i,hi with
       |0,_|3,_|4,_|5,_|9,_|10,_|11,_|12,_|13,_|15,_|17,_|19,_|21,_|24,_|28,_=>exact sP Y A V J
       |1,_|6,_|18,_|22,_|25,_=>exact sL Y A V J (hl:=FT ‹_›)
       |2,_=>exact sD Y A V J (CB.out _ L)
       |7,_=>exact sD Y A V J (CK.out _ L)
       |14,_|20,_=>exact sL Y A V J (hl:=GY ‹_›)
       |16,_|23,_=>exact sI Y A V J (hr:=by clear J V A;go_simp)
       |8,_=>clear bt bp bw bK cy cT;obtain rfl:=yF Y;have d7:(a.tmps[38]?.getD undef)=.int .i64 1:=Ba J 7;have d4:(a.tmps[35]?.getD undef)=.bool false:=Ba J 4;clear J V;refine AX.yes rfl rfl d4 ?_;go_simp;exact A.out _ _ rfl (yD _ _)
       |26,_=>clear bt bp bw bK cy cT;obtain rfl:=yF Y;have iZ:(a.tmps[56]?.getD undef)=.int .i64 ka:=Ba J 25;have eL:(a.tmps[43]?.getD undef)=.bool true:=Ba J 12;clear J V;refine AX.yes rfl rfl eL ?_;go_simp;exact A.out _ _ (by show xY .i64 (wR.wrap (ka - 1))=.int .i64 km;rw[xA _ (by omega),mo.out]) (yD _ _)
       |27,_=>clear bt bp bw bK cy cT;obtain rfl:=yF Y;have ow:(a.tmps[49]?.getD undef)=.int .i64 kf:=Ba J 18;have ou:(a.tmps[57]?.getD undef)=.int .i64 km:=Ba J 26;have eL:(a.tmps[43]?.getD undef)=.bool true:=Ba J 12;clear J V;refine AX.yes rfl rfl eL ?_;go_simp;exact A.out _ _ rfl (yD _ _)
       |_+29,hq=>omega
      .intro E O hR L
       have dP:(E 10)=.bool false:=BS hR 10;have fX:(E 28)=.bool false:=BS hR 28;clear hR;simp only[Ak,Ah,yC,yy,yz,yx,dP,fX];simp;clear dP fX;clear H N X D y0 y1 y2 y3 y4 y5 d0 f0;go_wp2_with fail;go_meet
       case rel=>exact⟨by rw[vs.out];rfl,S2.out.below L⟩
     .have vs:=AA (show okb=false by rw[dX.out,cg];simp[Dt,fh.out,<-fw,hka,hkf];omega)
      have mP:(kf !=km)=true:=by simp[hq]
      clear cg EK fw gz hka hkf hkm hq;refine Aa 29 167 [.p (w.heap.size+1) 3,.i b,.b true,.b false,.b false,.p (w.heap.size+1) 4,.i c,.i 1,.b false,.b false,.b false,.b true,.b true,.p w.heap.size 1,.s gi 12 ar,.i ((fn:Int)),.p gi (fn*3),.p gi (fn*3),.i kf,.p w.heap.size 1,.s gi 12 ar,.p (w.heap.size+1) 2,.i ((z:Int)),.p gi (z*3),.p gi (z*3),.i ka,.i km,.b true,.b true] (λ_ _ _=>True) ?_ ?_
      .intro i hi o Y a O V J L HL A
       have bt:=bc L bl y3;have bp:=bc L bl y4;have bw:=bc L bk N;have bK:=bc L dS f0;have cy:=bc L bl y2;have cT:=bc L dS d0
       match i,hi with
       |0,_|3,_|4,_|5,_|9,_|10,_|11,_|12,_|13,_|15,_|17,_|19,_|21,_|24,_|28,_=>exact sP Y A V J
       |1,_|6,_|18,_|22,_|25,_=>exact sL Y A V J (hl:=FT ‹_›)
       |2,_=>exact sD Y A V J (CB.out _ L)
       |7,_=>exact sD Y A V J (CK.out _ L)
       |14,_|20,_=>exact sL Y A V J (hl:=GY ‹_›)
       |16,_|23,_=>exact sI Y A V J (hr:=by clear J V A;go_simp)
       |8,_=>clear bt bp bw bK cy cT;obtain rfl:=yF Y;have d7:(a.tmps[38]?.getD undef)=.int .i64 1:=Ba J 7;have d4:(a.tmps[35]?.getD undef)=.bool false:=Ba J 4;clear J V;refine AX.yes rfl rfl d4 ?_;go_simp;exact A.out _ _ rfl (yD _ _)
       |26,_=>clear bt bp bw bK cy cT;obtain rfl:=yF Y;have iZ:(a.tmps[56]?.getD undef)=.int .i64 ka:=Ba J 25;have eL:(a.tmps[43]?.getD undef)=.bool true:=Ba J 12;clear J V;refine AX.yes rfl rfl eL ?_;go_simp;exact A.out _ _ (by show xY .i64 (wR.wrap (ka - 1))=.int .i64 km;rw[xA _ (by omega),mo.out]) (yD _ _)
       |27,_=>clear bt bp bw bK cy cT;obtain rfl:=yF Y;have ow:(a.tmps[49]?.getD undef)=.int .i64 kf:=Ba J 18;have ou:(a.tmps[57]?.getD undef)=.int .i64 km:=Ba J 26;have eL:(a.tmps[43]?.getD undef)=.bool true:=Ba J 12;clear J V;refine AX.yes rfl rfl eL ?_;go_simp;exact A.out _ _ rfl (yD _ _)
       |_+29,hq=>omega
      .intro E O hR L
       have dP:(E 10)=.bool false:=BS hR 10;have fX:(E 28)=.bool true:=BS hR 28;clear hR;simp only[Ak,Ah,yC,yy,yz,yx,dP,fX];simp;clear dP fX;clear H N X D y0 y1 y2 y3 y4 y5 d0 f0;go_wp2_with fail;go_meet
       case rel=>exact⟨by rw[vs.out];rfl,S2.out.below L⟩
  case rest=>
  obtain⟨jV,S3⟩:=hcut;subst jV;replace S3:=AA S3;clear H N X D y0 y1 y2 y3 y4 y5 d0 f0 CB CK S2 bl bk dS;obtain⟨w3,rfl⟩:∃w3:World,w3=wc:=⟨_,rfl⟩
  cases okb
  .have a0:=AA (show Ae k ⟨6,(en:Int),(z:Int),b,c,nm⟩=(k,0,3) by
    rw[bA.out];unfold Zq;rw[if_pos];have:=dX.out;cases h1:BZ b 0 3
    .exact .inl rfl
    .refine .inr ?_
     rw[h1,wt] at this;exact this.symm)
   clear bA;obtain⟨⟨H,N,X,D⟩,⟨⟨z0,z1,z2,z3⟩,bC⟩,HE,HR⟩:=S3.out.yH al (v:=0) (code:=3) (a0.out) (by decide);go_wp2_with ((try simp only[xL,Exit.then]);with_reducible refine yr ?_ rfl HR.out;obtain⟨E0,E1,E2,E3⟩:=HE.out;simp[results,vx,go_sem,E0,E1,E2,E3])
  obtain⟨cg,hfit⟩:BZ b 0 3=true/\Dt k ⟨6,(en:Int),(z:Int),b,c,nm⟩=true:=by
   have:=dX.out.symm
   rwa [yu] at this
  have kW:=AA (Vv (k:=k) (Y8 hfit kM.out));have a0:=AA (show Ae k ⟨6,(en:Int),(z:Int),b,c,nm⟩=_ from bA.out.trans (by unfold Zq;rw[if_neg (by rw[cg,hfit];simp)]));have bb:=AZ.1 cg;obtain⟨bn,rfl⟩:∃n:Nat,b=(n:Int):=⟨b.toNat,by omega⟩
  have eB:bn<4:=by omega
  have ki:(bn:Int)<4:=by omega
  simp only[yd] at a0;clear cg hfit bb bA dX;obtain⟨nd,hnd⟩:∃nd,nd=DY k c:=⟨_,rfl⟩
  have p9:=AA hnd;obtain⟨us,hus⟩:∃us,us=Fo k z:=⟨_,rfl⟩
  have oG:=AA hus;have pE:us.length<=3:=by rw[hus];exact Yh
  have oH:=AA (show ∀e,e∈us->e<3 by rw[hus];exact λe h=>Ua h);have kN:=AA (show ∀g,g∈nd->g<k.zZ.length by
   rw[hnd,A.out.len];intro g hg;unfold DY at hg
   split at hg
   .next hgc=>
    rcases List.mem_cons.1 hg with h|h
    .rw[h];exact Ec hgc
    .split at h
     .exact FW h
     .cases h
   .cases hg)
  rw[<-hnd,<-hus] at a0;rw[<-hnd] at kW;clear hnd hus;have mK:=AA (λW (h1:Bk W (.slice (some ⟨gm,0,none⟩) 12 a5) k.mem) (R:Bb W (.slice (some ⟨gi,0,none⟩) 12 ar) k.zZ)=>Rc (.slice (some ⟨gm,0,none⟩) 12 a5) (.slice (some ⟨gi,0,none⟩) 12 ar) (.slice (some ⟨ge,0,none⟩) 3 a7) (.slice ac nc cc) k c W h1 R es.out A.out.len Hc.out);obtain⟨H,N,X,D⟩:=S3.out.xs;obtain⟨y0,y1,y2,y3,y4,y5⟩:=S3.out.ys6;go_wp2_with fail;refine(mK.out _ S3.out.K.1 S3.out.K.2.1).mono ?_;rintro r w4 ⟨vb,rfl,g2,ep⟩;rw[kW.out] at g2;have S4:=AA (S3.out.below ep);have iH:=S3.out.lts.2.1;clear H N X D y0 y1 y2 y3 y4 y5 mK kW;obtain⟨H,N,X,D⟩:=S4.out.xs;obtain⟨y0,y1,y2,y3,y4,y5⟩:=S4.out.ys6;go_wp2_with fail;refine(Tq _ _ _ _ k z _ S4.out.K A.out).mono ?_;rintro r w5 ⟨vu,rfl,fM,dg⟩;rw[Yg A.out (show Bh (Ay k z)=true from kM.out),<-oG.out] at fM;have S5:=AA (S4.out.below dg);have OB:=AA (AF.below g2 dg);have OU:=AA fM;have jZ:w.heap.size<w4.heap.size:=xW iH ep.size;obtain⟨ax,cx,rfl,_,_,_⟩:=fM.rd.open;rw[Cj] at OU ⊢;clear H N X D y0 y1 y2 y3 y4 y5 g2 fM ep dg S3 S4;go_upto_block 0 with fail;go_cut [] (λO=>(∀e,e∈us->BM k.zZ nd (AJ k.zX e).zT=true)/\∃a9 n9 c9,Eb 55 #[.int .i64 6,.int .i64 en,.int .i64 z,.int .i64 bn,.int .i64 c,.string nm] [w.heap.size+2] lo w.heap.size (w.heap.size+1) w O (.slice (some ⟨gm,0,none⟩) 12 a5) (.slice (some ⟨gi,0,none⟩) 12 ar) (.slice (some ⟨ge,0,none⟩) 3 a7) (.slice a9 n9 c9) {k with zW:=Gr us k.zW})
  case first=>
   go_wp2_with fail;go_loopw [13] (λjH wr=>∃j:Nat,j<=us.length/\jH=.int .i64 j/\(∀e,e∈us.take j->BM k.zZ nd (AJ k.zX e).zT=true)/\AF w3.heap.size wr vb (Az nd)/\AF w4.heap.size wr (.slice ax us.length cx) (Az us)/\∃a9 n9 c9,Eb 55 #[.int .i64 6,.int .i64 en,.int .i64 z,.int .i64 bn,.int .i64 c,.string nm] [w.heap.size+2] lo w.heap.size (w.heap.size+1) w wr (.slice (some ⟨gm,0,none⟩) 12 a5) (.slice (some ⟨gi,0,none⟩) 12 ar) (.slice (some ⟨ge,0,none⟩) 3 a7) (.slice a9 n9 c9) {k with zW:=Gr (us.take j) k.zW}) (λjH _=>us.length - (intOf jH).toNat)
   exact⟨0,yg _,rfl,λe he=>by simp at he,OB.out,OU.out,ac,nc,cc,S5.out⟩
   obtain⟨j,hj,rfl,cl,g2,fM,a9,n9,c9,hS⟩:=hrel;have gR:=AA cl;have S:=AA hS;have mA:=AA g2;have o8:=AA fM;clear cl hS g2 OB OU
   by_cases bf:j<us.length
   .obtain⟨p8,pY,jT,_,_,H0⟩:=fM.rd.open
    rw[Cj] at jT;simp only[xH] at jT;obtain⟨rfl,_,rfl⟩:=jT;obtain⟨bx,fG,rfl,DX⟩:=H0.at (k:=j) (by rw[Cj];exact bf);rw[QQ bf] at DX;obtain⟨un,hun⟩:∃u,u=us.getD j 0:=⟨_,rfl⟩
    rw[<-hun] at DX;have mu:=AA hun;have gy:un∈us:=by rw[hun];exact yh (A2 bf)
    have it:=oH.out un gy;have kO:=AA gy;clear hun gy H0 fM;have dd:(j:Int)<us.length:=by omega
    have nv:(un:Int)<3:=by omega
    obtain⟨H,N,X,D⟩:=S.out.xs;obtain⟨y0,y1,y2,y3,y4,y5⟩:=S.out.ys6;obtain⟨bl,bk,_,_⟩:=S.out.lts;have eX:=S.out.yU;have dy:bx<wr.heap.size:=yA _ _ DX;obtain⟨ua,uc,D0,_,h2⟩:=S.out.env (j:=un) (by show un<k.zX.length;rw[A.out.zN];exact it);have RI:=S.out.K.2.1;have RB:=mA.out.rd;have CA:=AA (λW (hW:Below wr.heap.size wr W)=>GN _ vb _ k.zZ nd (AJ k.zX un).zT W (BK.below RI hW) (Ax.below RB hW) (BK.below h2 hW) kN.out (Cg (Ar A.out).2.1) (IV A.out it));generalize hbbq:BM k.zZ nd (AJ k.zX un).zT=bq at CA;have mq:=AA hbbq;clear hbbq RI h2 RB;go_wp2_with fail;refine Aa 12 167 [.p w.heap.size 1,.s gi 12 ar,.v vb,.p w.heap.size 2,.s ge 3 a7,.v (.slice (some ⟨bx,fG,none⟩) us.length cx),.i ((j:Int)),.p bx (fG+j),.i ((un:Int)),.p ge (un*2),.p ge (un*2),.v (.slice ua (AJ k.zX un).zT.length uc)] (λ_ _ _=>True) ?_ ?_
    .intro i hi o Y a O V J L HL A
     match i,hi with
     |0,_|2,_|3,_|5,_|6,_|10,_=>exact sP Y A V J
     |1,_=>exact sL Y A V J (hl:=GY (bc L bk N))
     |4,_=>exact sL Y A V J (hl:=OL (bc L bk X))
     |7,_|9,_=>exact sI Y A V J (hr:=by clear J V A;go_simp)
     |8,_=>exact sL Y A V J (hl:=FT (bc L dy DX))
     |11,_=>exact sL Y A V J (hl:=Li (bc L eX D0))
    .intro E O hR L
     have q1:(E 1)=.slice (some ⟨gi,0,none⟩) 12 ar:=BS hR 1;have q2:(E 2)=vb:=BS hR 2;have eG:(E 11)=.slice ua (AJ k.zX un).zT.length uc:=BS hR 11;clear hR;simp only[Ak,Ah,yC,yy,yz,yx,q1,q2,eG];simp;clear q1 q2 eG;have S6:=AA (S.out.below L);have eE:=AA L;clear H N X D y0 y1 y2 y3 y4 y5 D0 L;go_wp2_with fail;refine(CA.out _ eE.out).mono ?_;rintro r w7 ⟨rfl,fB⟩;have S7:=AA (S6.out.below fB);have kX:=AA (eE.out.trans (fB.mono eE.out.size));clear fB CA eE S6;cases bq
     .have dq:=AA (show Ae k ⟨6,(en:Int),(z:Int),(bn:Int),c,nm⟩=(k,0,1) by rw[a0.out,if_pos (wP.2 ⟨un,kO.out,by rw[mq.out];decide⟩)])
      obtain⟨⟨H,N,X,D⟩,⟨⟨z0,z1,z2,z3⟩,bC⟩,HE,HR⟩:=S7.out.yH al (v:=0) (code:=1) (dq.out) (by decide);go_wp2_with ((try simp only[xL,Exit.then]);with_reducible refine yr ?_ rfl HR.out;obtain⟨E0,E1,E2,E3⟩:=HE.out;simp[results,vx,go_sem,E0,E1,E2,E3])
     .have gL:=(kX.out.cell dy).trans DX
      have iR:bx<w7.heap.size:=yA _ _ gL;clear DX dy;have DX:=gL;have dy:=iR;clear gL iR;obtain⟨H,N,X,D⟩:=S7.out.xs;obtain⟨bl,bk,_,_⟩:=S7.out.lts;have CD:=AA (λW (h:DJ W (.slice a9 n9 c9) (Gr (us.take j) k.zW))=>QF (.slice a9 n9 c9) (Gr (us.take j) k.zW) (un:Int) W h (by have:=SU (us.take j) (Ar A.out).2.2;simp only[BT,yu,decide_eq_true_eq] at this;omega));go_wp2_with fail;refine Aa 6 167 [.p w.heap.size 3,.v (.slice a9 n9 c9),.v (.slice (some ⟨bx,fG,none⟩) us.length cx),.i ((j:Int)),.p bx (fG+j),.i ((un:Int))] (λ_ _ _=>True) ?_ ?_
      .intro i hi o Y a O V J L HL A
       match i,hi with
       |0,_|2,_|3,_=>exact sP Y A V J
       |1,_=>exact sL Y A V J (hl:=VH (bc L bk D))
       |4,_=>exact sI Y A V J (hr:=by clear J V A;go_simp)
       |5,_=>exact sL Y A V J (hl:=FT (bc L dy DX))
      .intro E O hR L
       have q1:(E 1)=.slice a9 n9 c9:=BS hR 1;have q5:(E 5)=.int .i64 un:=BS hR 5;clear hR;simp only[Ak,Ah,yC,yy,yz,yx,q1,q5];simp;clear q1 q5;have S8:=AA (S7.out.below L);have mG:=AA (kX.out.trans (L.mono kX.out.size));have jh:=S8.out.xs.2.2.2;clear H N X D L DX;go_wp2_with fail;refine(CD.out _ S8.out.K.2.2.2).mono ?_;rintro r w9 ⟨v',rfl,hO,dk⟩;have T2:=AA (S8.out.zW dk hO);have jg:=mG.out.trans (dk.mono mG.out.size);have me:=AA (OR (g:=w.heap.size) (j:=3) (u:=v') (AF.below mA.out jg) iH);have md:=AA (OR (g:=w.heap.size) (j:=3) (u:=v') (AF.below o8.out jg) jZ);have iX:=AK (S8.out.below dk).yI.1;have mL:=(S8.out.below dk).xs.2.2.2;clear jh jg dk;obtain⟨a8,c8,e9,_,_⟩:=hO.rd.shape;generalize wO _=n8 at e9;subst e9;clear hO;generalize hW10:w9.setCell _ _=W10 at T2 me md;go_wp2_with fail;go_roundw
       case rel=>
        refine⟨j+1,by omega,by go_num,λe he=>?_,me.out,md.out,a8,n8,c8,?_⟩
        .rw[DA (A2 (d:=0) bf),List.mem_append,wX] at he
         rcases he with he|rfl
         .exact gR.out e he
         .rw[<-mu.out];exact mq.out
        .rw[Of bf,<-mu.out];exact T2.out
       case measure=>simp[intOf];omega
   .obtain rfl:j=us.length:=by omega
    rw[xo] at gR S;have dd:¬(us.length:Int)<us.length:=by omega
    clear fM;go_wp2_with fail;go_meet
    case rel=>exact⟨gR.out,_,_,_,S.out⟩
  case rest=>
  obtain⟨cl,a9,n9,c9,hS⟩:=hcut;have S:=AA hS;have dq:=AA (a0.out.trans (if_neg (by rw[Bool.not_eq_false,xZ];exact cl)));obtain⟨eF,rfl⟩:∃eF:World,eF=wc:=⟨_,rfl⟩
  clear cl hS a0 OB OU S5;obtain⟨mm,fN⟩:∃mm,mm=(sm&&!By (AJ k.zX en).zT (zS k.zZ (BC c)).g):=⟨_,rfl⟩
  have h8:=AA fN;clear fN;go_wp2_with fail;go_cut [112] (λjI O=>jI=.bool mm/\Eb 55 #[.int .i64 6,.int .i64 en,.int .i64 z,.int .i64 bn,.int .i64 c,.string nm] [w.heap.size+2] lo w.heap.size (w.heap.size+1) w O (.slice (some ⟨gm,0,none⟩) 12 a5) (.slice (some ⟨gi,0,none⟩) 12 ar) (.slice (some ⟨ge,0,none⟩) 3 a7) (.slice a9 n9 c9) {k with zW:=Gr us k.zW})
  case first=>
   obtain⟨H,N,X,D⟩:=S.out.xs;obtain⟨y0,y1,y2,y3,y4,y5⟩:=S.out.ys6;obtain⟨bl,bk,_,_⟩:=S.out.lts;have dS:=S.out.zl;obtain⟨_,f1,_⟩:=S.out.zS (f:=fn) (by show fn<k.zZ.length;rw[A.out.len];exact fv)
   try simp only at f1
   cases sm
   .clear f1
    refine Aa 13 167 [.b false,.b false,.u,.u,.u,.u,.u,.u,.u,.u,.u,.u,.u] (λ_ _ _=>True) ?_ ?_
    .intro i hi o Y a O V J L HL A
     match i,hi with
     |0,_|1,_=>exact sP Y A V J
     |2,_|3,_|4,_|5,_|6,_|7,_|8,_|9,_|10,_|11,_|12,_=>exact sB Y A J
    .intro E O hR L
     have q1:(E 1)=.bool false:=BS hR 1;clear hR;simp only[Ak,Ah,yC,yy,yz,yx,q1];simp;clear q1;clear H N X D y0 y1 y2 y3 y4 y5;go_wp2_with fail;go_meet
     case rel=>exact⟨by rw[h8.out];rfl,S.out.below L⟩
   .have fw:=kV.out rfl
    have jf:=h8.out;have RE:=S.out.K.2.2.1;have CM:=AA (λW (hW:Below eF.heap.size eF W)=>Jr (.slice (some ⟨gm,0,none⟩) 12 a5) (.slice (some ⟨gi,0,none⟩) 12 ar) (.slice (some ⟨ge,0,none⟩) 3 a7) (.slice a9 n9 c9) k en (zS k.zZ fn).g W (RE.below hW) A.out df (Cg (Ar A.out).2.1 _ (yh (Cq (by rw[A.out.len];exact fv)))));rw[<-fw] at jf;generalize(zS k.zZ fn).g=fg at f1 CM jf;clear RE fw;generalize By (AJ k.zX en).zT fg=my at CM jf;have HM:=AA jf;clear jf;cases my
    .skip
     refine Aa 13 167 [.b true,.b true,.a #[.slice (some ⟨gm,0,none⟩) 12 a5,.slice (some ⟨gi,0,none⟩) 12 ar,.slice (some ⟨ge,0,none⟩) 3 a7,.slice a9 n9 c9],.p (w.heap.size+1) 1,.i ((en:Int)),.p w.heap.size 1,.s gi 12 ar,.i ((fn:Int)),.p gi (fn*3),.p gi (fn*3+1),.t fg,.b false,.b true] (λ_ _ _=>True) ?_ ?_
     .intro i hi o Y a O V J L HL A
      have bt:=bc L bk H;have bp:=bc L bk N;have bw:=bc L bk X;have bK:=bc L bk D;have cy:=bc L bl y1;have cT:=bc L dS f1
      match i,hi with
      |0,_|1,_|3,_|5,_|7,_|9,_|12,_=>exact sP Y A V J
      |2,_=>exact sL Y A V J (hl:=OM ‹_› ‹_› ‹_› ‹_›)
      |4,_=>exact sL Y A V J (hl:=FT ‹_›)
      |6,_=>exact sL Y A V J (hl:=GY ‹_›)
      |8,_=>exact sI Y A V J (hr:=by clear J V A;go_simp)
      |10,_=>exact sL Y A V J (hl:=ZP ‹_›)
      |11,_=>exact sD Y A V J (CM.out _ L)
     .intro E O hR L
      have q1:(E 1)=.bool true:=BS hR 1;have dh:(E 12)=.bool true:=BS hR 12;clear hR;simp only[Ak,Ah,yC,yy,yz,yx,q1,dh];simp;clear q1 dh;clear H N X D y0 y1 y2 y3 y4 y5 f1;go_wp2_with fail;go_meet
      case rel=>exact⟨by rw[HM.out];rfl,S.out.below L⟩
    .skip
     refine Aa 13 167 [.b true,.b true,.a #[.slice (some ⟨gm,0,none⟩) 12 a5,.slice (some ⟨gi,0,none⟩) 12 ar,.slice (some ⟨ge,0,none⟩) 3 a7,.slice a9 n9 c9],.p (w.heap.size+1) 1,.i ((en:Int)),.p w.heap.size 1,.s gi 12 ar,.i ((fn:Int)),.p gi (fn*3),.p gi (fn*3+1),.t fg,.b true,.b false] (λ_ _ _=>True) ?_ ?_
     .intro i hi o Y a O V J L HL A
      have bt:=bc L bk H;have bp:=bc L bk N;have bw:=bc L bk X;have bK:=bc L bk D;have cy:=bc L bl y1;have cT:=bc L dS f1
      match i,hi with
      |0,_|1,_|3,_|5,_|7,_|9,_|12,_=>exact sP Y A V J
      |2,_=>exact sL Y A V J (hl:=OM ‹_› ‹_› ‹_› ‹_›)
      |4,_=>exact sL Y A V J (hl:=FT ‹_›)
      |6,_=>exact sL Y A V J (hl:=GY ‹_›)
      |8,_=>exact sI Y A V J (hr:=by clear J V A;go_simp)
      |10,_=>exact sL Y A V J (hl:=ZP ‹_›)
      |11,_=>exact sD Y A V J (CM.out _ L)
     .intro E O hR L
      have q1:(E 1)=.bool true:=BS hR 1;have dh:(E 12)=.bool false:=BS hR 12;clear hR;simp only[Ak,Ah,yC,yy,yz,yx,q1,dh];simp;clear q1 dh;clear H N X D y0 y1 y2 y3 y4 y5 f1;go_wp2_with fail;go_meet
      case rel=>exact⟨by rw[HM.out];rfl,S.out.below L⟩
  case rest=>
  obtain⟨iy,fe⟩:=hcut;subst iy;replace fe:=AA fe;clear S;obtain⟨fW,rfl⟩:∃fW:World,fW=wc:=⟨_,rfl⟩
  cases mm
  rotate_left
  .have jF:=AA (show Ae k ⟨6,(en:Int),(z:Int),(bn:Int),c,nm⟩=(k,0,1) by
    have fN:=h8.out.symm;rw[yu,Bool.not_eq_true'] at fN;exact dq.out.trans (if_pos ⟨fh.out.trans fN.1,fN.2⟩))
   clear h8 dq;obtain⟨⟨H,N,X,D⟩,⟨⟨z0,z1,z2,z3⟩,bC⟩,HE,HR⟩:=fe.out.yH al (v:=0) (code:=1) (jF.out) (by decide);go_wp2_with ((try simp only[xL,Exit.then]);with_reducible refine yr ?_ rfl HR.out;obtain⟨E0,E1,E2,E3⟩:=HE.out;simp[results,vx,go_sem,E0,E1,E2,E3])
  have lJ:¬(Bm c=true/\Fl k (en:Int) (zS k.zZ (BC c)).g=false):=by rintro⟨h1,R⟩;have h3:sm=true:=fh.out.symm.trans h1;have h4:By (AJ k.zX en).zT (zS k.zZ (BC c)).g=false:=R;have fN:=h8.out;rw[h3,h4] at fN;cases fN
  have jF:=AA (dq.out.trans (if_neg lJ));clear h8 dq lJ;obtain⟨wo,hwo⟩:∃wo,wo=As k.mem z bn:=⟨_,rfl⟩
  have lB:=A.out.word (f:=z) (i:=bn) cr eB;rw[<-hwo] at lB jF;obtain⟨fo,ih,lP,nV,iO⟩:=Py wo;have ld:=λW (hW:Below fW.heap.size fW W)=>BJ (DB wo W (by omega))
  rw[lP] at ld;have CO:=AA ld;have pj:=AA iO;generalize hso:Bm wo=so at*;have mf:=AA hso;have nU:(fo:Int)<12:=by omega
  obtain⟨H,N,X,D⟩:=fe.out.xs;obtain⟨y0,y1,y2,y3,y4,y5⟩:=fe.out.ys6;obtain⟨bl,bk,_,_⟩:=fe.out.lts;obtain⟨gw,cN,Dw,eW,gF,Dj,_⟩:=fe.out.mrow es.out (f:=z) cr;have Dv:=Dj bn eB
  try simp only at Dv
  rw[<-hwo] at Dv;have dt:gm<fW.heap.size:=yA _ _ Dw;have qe:=AA hwo;clear Dj ld lP iO hso lB hwo;go_wp2_with fail;refine Aa 17 167 [.p w.heap.size 0,.s gm 12 a5,.p (w.heap.size+1) 2,.i ((z:Int)),.p gm z,.s gw 4 cN,.p (w.heap.size+1) 3,.i ((bn:Int)),.p gw bn,.i wo,.v (.tuple #[.int .i64 fo,.bool ih,.bool so]),.v (.tuple #[.int .i64 fo,.bool ih,.bool so]),.i ((fo:Int)),.b ih,.b so,.i ((fo:Int)),.b ih] (λ_ _ _=>True) ?_ ?_
  .intro i hi o Y a O V J L HL A
   have bp:=bc L bl y2;have bK:=bc L bl y3;have cy:=bc L eW Dv
   match i,hi with
   |0,_|2,_|6,_|11,_|12,_|13,_|14,_|15,_|16,_=>exact sP Y A V J
   |1,_=>exact sL Y A V J (hl:=F9 (bc L bk H))
   |3,_|7,_|9,_=>exact sL Y A V J (hl:=FT ‹_›)
   |4,_|8,_=>exact sI Y A V J (hr:=by clear J V A;go_simp)
   |5,_=>exact sL Y A V J (hl:=KU (bc L dt Dw))
   |10,_=>exact sD Y A V J (CO.out _ L)
   |_+17,hq=>omega
  .intro E O hR L
   have il:(E 14)=.bool so:=BS hR 14;have ij:(E 15)=.int .i64 fo:=BS hR 15;have fm:(E 16)=.bool ih:=BS hR 16;clear hR;simp only[Ak,Ah,yC,yy,yz,yx,il,ij,fm];simp;clear il ij fm;have fD:=AA (fe.out.below L);clear H N X D y0 y1 y2 y3 y4 y5 Dw Dv L CO dt eW gF fe bl bk;obtain⟨w12,rfl⟩:∃w12:World,w12=O:=⟨_,rfl⟩
   go_upto_if 129 with fail;go_cut [] (λO=>Eb 55 #[.int .i64 6,.int .i64 en,.int .i64 z,.int .i64 bn,.int .i64 c,.string nm] [w.heap.size+2] lo w.heap.size (w.heap.size+1) w O (.slice (some ⟨gm,0,none⟩) 12 a5) (.slice (some ⟨gi,0,none⟩) 12 ar) (.slice (some ⟨ge,0,none⟩) 3 a7) (.slice a9 n9 c9) {k with zW:=Gr us k.zW,zZ:=A5 k.zZ wo (-1)})
   case first=>
    cases so
    .have vs:=AA (Qf (zZ:=k.zZ) (n:= -1) mf.out)
     go_wp2_with fail;go_meet
     case rel=>rw[vs.out];exact fD.out
    .have vs:=AA (Sx (zZ:=k.zZ) (n:= -1) mf.out (pj.out rfl))
     obtain⟨H,N,X,D⟩:=fD.out.xs;obtain⟨bl,bk,_,_⟩:=fD.out.lts;have dS:=fD.out.zl;obtain⟨_,_,d2⟩:=fD.out.zS (f:=fo) (by show fo<(k.zZ).length;have:=A.out.len;(try simp only[Cl]);omega)
     try simp only at d2
     have eh:=A.out.yP nV;generalize hrv:(zS (k.zZ) fo).r=rv at d2 eh;obtain⟨nr,hnr⟩:∃nr,rv - 1=nr:=⟨_,rfl⟩
     have fi:=AA hnr;clear hnr;have gK:(fo:Int)<12:=by omega
     go_wp2_with fail;refine Aa 10 167 [.p w.heap.size 1,.s gi 12 ar,.i ((fo:Int)),.p w.heap.size 1,.s gi 12 ar,.i ((fo:Int)),.p gi (fo*3),.p gi (fo*3+2),.i rv,.i nr] (λ_ _ _=>True) ?_ ?_
     .intro i hi o Y a O V J L HL A
      have bt:=bc L bk N;have bp:=bc L dS d2
      match i,hi with
      |0,_|2,_|3,_|5,_|7,_=>exact sP Y A V J
      |1,_|4,_=>exact sL Y A V J (hl:=GY ‹_›)
      |6,_=>exact sI Y A V J (hr:=by clear J V A;go_simp)
      |8,_=>exact sL Y A V J (hl:=FT ‹_›)
      |9,_=>clear bt bp;obtain rfl:=yF Y;have d8:(a.tmps[138]?.getD undef)=.int .i64 rv:=Ba J 8;clear J V;refine yE ?_;go_simp;exact A.out _ _ (by show xY .i64 (wR.wrap (rv - 1))=.int .i64 nr;rw[xA _ (by omega),fi.out]) (yD _ _)
     .intro E O hR L
      have q1:(E 1)=.slice (some ⟨gi,0,none⟩) 12 ar:=BS hR 1;have q2:(E 2)=.int .i64 fo:=BS hR 2;have q9:(E 9)=.int .i64 nr:=BS hR 9;clear hR;simp only[Ak,Ah,yC,yy,yz,yx,q1,q2,q9];simp;clear q1 q2 q9;have SB:=AA (fD.out.below L);obtain⟨_,_,eZ⟩:=SB.out.zS (f:=fo) (by show fo<(k.zZ).length;have:=A.out.len;(try simp only[Cl]);omega);have Fr:=SB.out.fzi (fo*3+2);have NN:=SB.out.info (by show 12=(k.zZ).length;have:=A.out.len;(try simp only[Cl]);omega) (f:=fo) (by show fo<(k.zZ).length;have:=A.out.len;(try simp only[Cl]);omega) (-1)
      try simp only at NN eZ
      rw[hrv] at NN eZ;rw[show rv+ -1=nr by have:=fi.out;omega] at NN;replace NN:=AA NN;generalize hW9:O.setCell _ _=W9 at NN;clear H N X D d2 L SB;go_wp2_with fail;go_meet
      case rel=>rw[vs.out];exact NN.out
   case rest=>
   replace hcut:=AA hcut;have gM:=hcut;clear hcut fD;obtain⟨w12,rfl⟩:∃w12:World,w12=wc:=⟨_,rfl⟩
   go_upto_if 142 with fail;go_cut [] (λO=>Eb 55 #[.int .i64 6,.int .i64 en,.int .i64 z,.int .i64 bn,.int .i64 c,.string nm] [w.heap.size+2] lo w.heap.size (w.heap.size+1) w O (.slice (some ⟨gm,0,none⟩) 12 a5) (.slice (some ⟨gi,0,none⟩) 12 ar) (.slice (some ⟨ge,0,none⟩) 3 a7) (.slice a9 n9 c9) {k with zW:=Gr us k.zW,zZ:=A5 (A5 k.zZ wo (-1)) c 1})
   case first=>
    cases sm
    .have vs:=AA (Qf (zZ:=A5 k.zZ wo (-1)) (n:=1) fh.out)
     go_wp2_with fail;go_meet
     case rel=>rw[vs.out];exact gM.out
    .have vs:=AA (Sx (zZ:=A5 k.zZ wo (-1)) (n:=1) fh.out (kV.out rfl))
     have SR:=AA (Jj.refer (Mt (Ar A.out).2.1) A.out.len (n:= -1) (x:=wo) (.inr rfl));obtain⟨H,N,X,D⟩:=gM.out.xs;obtain⟨bl,bk,_,_⟩:=gM.out.lts;have dS:=gM.out.zl;obtain⟨_,_,d2⟩:=gM.out.zS (f:=fn) (by show fn<(A5 k.zZ wo (-1)).length;have:=A.out.len;(try simp only[Cl]);omega)
     try simp only at d2
     have eh:=SR.out fn (by simp only[Cl];rw[A.out.len];exact fv);generalize hrv:(zS (A5 k.zZ wo (-1)) fn).r=rv at d2 eh;obtain⟨nr,hnr⟩:∃nr,rv+1=nr:=⟨_,rfl⟩
     have fi:=AA hnr;clear hnr;have gK:(fn:Int)<12:=by omega
     go_wp2_with fail;refine Aa 10 167 [.p w.heap.size 1,.s gi 12 ar,.i ((fn:Int)),.p w.heap.size 1,.s gi 12 ar,.i ((fn:Int)),.p gi (fn*3),.p gi (fn*3+2),.i rv,.i nr] (λ_ _ _=>True) ?_ ?_
     .intro i hi o Y a O V J L HL A
      have bt:=bc L bk N;have bp:=bc L dS d2
      match i,hi with
      |0,_|2,_|3,_|5,_|7,_=>exact sP Y A V J
      |1,_|4,_=>exact sL Y A V J (hl:=GY ‹_›)
      |6,_=>exact sI Y A V J (hr:=by clear J V A;go_simp)
      |8,_=>exact sL Y A V J (hl:=FT ‹_›)
      |9,_=>clear bt bp;obtain rfl:=yF Y;have d8:(a.tmps[151]?.getD undef)=.int .i64 rv:=Ba J 8;clear J V;refine yE ?_;go_simp;exact A.out _ _ (by show xY .i64 (wR.wrap (rv+1))=.int .i64 nr;rw[xA _ (by omega),fi.out]) (yD _ _)
     .intro E O hR L
      have q1:(E 1)=.slice (some ⟨gi,0,none⟩) 12 ar:=BS hR 1;have q2:(E 2)=.int .i64 fn:=BS hR 2;have q9:(E 9)=.int .i64 nr:=BS hR 9;clear hR;simp only[Ak,Ah,yC,yy,yz,yx,q1,q2,q9];simp;clear q1 q2 q9;have SB:=AA (gM.out.below L);obtain⟨_,_,eZ⟩:=SB.out.zS (f:=fn) (by show fn<(A5 k.zZ wo (-1)).length;have:=A.out.len;(try simp only[Cl]);omega);have Fr:=SB.out.fzi (fn*3+2);have NN:=SB.out.info (by show 12=(A5 k.zZ wo (-1)).length;have:=A.out.len;(try simp only[Cl]);omega) (f:=fn) (by show fn<(A5 k.zZ wo (-1)).length;have:=A.out.len;(try simp only[Cl]);omega) (1)
      try simp only at NN eZ
      rw[hrv] at NN eZ;rw[show rv+1=nr by have:=fi.out;omega] at NN;replace NN:=AA NN;generalize hW9:O.setCell _ _=W9 at NN;clear H N X D d2 L SB;go_wp2_with fail;go_meet
      case rel=>rw[vs.out];exact NN.out
   case rest=>
   replace hcut:=AA hcut;have hZ:=hcut;clear hcut gM;obtain⟨w13,rfl⟩:∃w13:World,w13=wc:=⟨_,rfl⟩
   obtain⟨H,N,X,D⟩:=hZ.out.xs;obtain⟨y0,y1,y2,y3,y4,y5⟩:=hZ.out.ys6;obtain⟨bl,bk,_,_⟩:=hZ.out.lts;obtain⟨gw,cN,Dw,eW,gF,_⟩:=hZ.out.mrow es.out (f:=z) cr;have dt:gm<w13.heap.size:=yA _ _ Dw;go_wp2_with fail;refine Aa 10 167 [.p w.heap.size 0,.s gm 12 a5,.p (w.heap.size+1) 2,.i ((z:Int)),.p gm z,.s gw 4 cN,.p (w.heap.size+1) 3,.i ((bn:Int)),.p (w.heap.size+1) 4,.i c] (λ_ _ _=>True) ?_ ?_
   .intro i hi o Y a O V J L HL A
    have bp:=bc L bl y2;have bK:=bc L bl y3;have cy:=bc L bl y4
    match i,hi with
    |0,_|2,_|6,_|8,_=>exact sP Y A V J
    |1,_=>exact sL Y A V J (hl:=F9 (bc L bk H))
    |3,_|7,_|9,_=>exact sL Y A V J (hl:=FT ‹_›)
    |4,_=>exact sI Y A V J (hr:=by clear J V A;go_simp)
    |5,_=>exact sL Y A V J (hl:=KU (bc L dt Dw))
   .intro E O hR L
    have q5:(E 5)=.slice (some ⟨gw,0,none⟩) 4 cN:=BS hR 5;have q7:(E 7)=.int .i64 bn:=BS hR 7;have q9:(E 9)=.int .i64 c:=BS hR 9;clear hR;simp only[Ak,Ah,yC,yy,yz,yx,q5,q7,q9];simp;clear q5 q7 q9;have oD:=AA (hZ.out.below L);obtain⟨kv,fd,D2,_,_,hC,Fr,_,_,_,hS⟩:=oD.out.mrow es.out (f:=z) cr;have eD:=D2.symm.trans ((L.cell (p:=⟨gm,z,none⟩) dt).trans Dw);cases eD;have D3:=hC bn eB;have l4:=AA (hS bn c eB);generalize hW9:O.setCell _ _=W9 at l4;clear H N X D y0 y1 y2 y3 y4 y5 Dw D2 hS L hZ hC;obtain⟨⟨H,N,X,D⟩,⟨⟨z0,z1,z2,z3⟩,bC⟩,HE,HR⟩:=l4.out.fin al (v:=0) (code:=0) (jF.out);go_wp2_with ((try simp only[xL,Exit.then]);with_reducible refine yr ?_ rfl HR.out;obtain⟨E0,E1,E2,E3⟩:=HE.out;simp[results,vx,go_sem,E0,E1,E2,E3])
 .have t1:(fc !=0)=true:=by simp[ef]
  have hc:=AA ef;have a0:=AA (show Ae k ⟨6,(en:Int),ra,b,c,nm⟩=(k,0,fc) by rw[HP.out,if_neg ef]);clear ef FZ HP;obtain⟨⟨H,N,X,D⟩,⟨⟨z0,z1,z2,z3⟩,bC⟩,HE,HR⟩:=S1.out.yH al (v:=0) (code:=fc) (a0.out) (hc.out);go_wp2_with ((try simp only[xL,Exit.then]);with_reducible refine yr ?_ rfl HR.out;obtain⟨E0,E1,E2,E3⟩:=HE.out;simp[results,vx,go_sem,E0,E1,E2,E3])
theorem X9{lo:Nat}{k:AO}{w:World}(h:Da lo w mv iv ev cv k)(al:lo<=w.heap.size)(hk:DQ k)(call:Ac)(he:0<=call.e/\call.e<3)(dZ:call.nm.size<=maxLen)(hc:call.c<=9223372036854775807):
 Calls prog 122 #[.agg #[mv,iv,ev,cv],.agg call.cs] w (LL lo w (Ae k call)):=by
 have bD:=SC.start h al call;obtain⟨am,dr,cm,ai,ni,ci,ae,dN,ce,ac,nc,cc,rfl,rfl,rfl,rfl⟩:=bD.zQ;have S0:=AA bD;obtain⟨kk,e,a,b,c,nm⟩:=call;simp only[Ac.cs] at S0 ⊢;have A:=AA hk;have HE:=AA he;have HN:=AA dZ;have HC:=AA hc;obtain⟨H,N,X,D⟩:=S0.out.xs;obtain⟨y0,y1,y2,y3,y4,y5⟩:=S0.out.ys6;clear h bD he hk dZ hc;generalize hW0:((w.alloc _).alloc _).alloc _=W0 at*
 by_cases hk:kk=1∨kk=2∨kk=3∨kk=4∨kk=5∨kk=6∨kk=7∨kk=8∨kk=9∨kk=10∨kk=11
 .skip
  rcases hk with rfl|rfl|rfl|rfl|rfl|rfl|rfl|rfl|rfl|rfl|rfl
  all_goals
   have C:=S0.out.yI.2.2;go_in;go_wp2_with fail
   first
   |refine(VC C S0.out.lo A.out ⟨_,e,a,b,c,nm⟩ HE.out rfl HN.out).mono ?_
   |refine(U9 C S0.out.lo A.out ⟨_,e,a,b,c,nm⟩ HE.out rfl).mono ?_
   |refine(VA C S0.out.lo A.out ⟨_,e,a,b,c,nm⟩ HE.out rfl).mono ?_
   |refine(WT C S0.out.lo A.out ⟨_,e,a,b,c,nm⟩ HE.out (by simp)).mono ?_
   |refine(WU C S0.out.lo A.out ⟨_,e,a,b,c,nm⟩ HE.out rfl HC.out).mono ?_
   |refine(VB C S0.out.lo A.out ⟨_,e,a,b,c,nm⟩ HE.out rfl).mono ?_
   |refine(Rf C S0.out.lo A.out ⟨_,e,a,b,c,nm⟩ HE.out (by simp) HN.out).mono ?_
   |refine(WS C S0.out.lo A.out ⟨_,e,a,b,c,nm⟩ HE.out (by simp)).mono ?_
   rintro r w1 ⟨m',i',e',c',rfl,hs,hK,Z,hf⟩;obtain⟨hB,iV,jb⟩:=LL.up S0.out (yB al (wv _ _)) (wv _ _) hs hK Z hf;obtain⟨am,pB,cm,ai,ni,ci,ae,pC,ce,ac,nc,cc,rfl,rfl,rfl,rfl⟩:=hs;obtain⟨z0,z1,z2,z3⟩:=AE hB;have bC:=AK hB;have pk:=AA (AE iV);have HR:=AA jb;clear hK Z hf hB iV jb H N X D y0 y1 y2 y3 y4 y5 hW0;go_wp2_with fail;exact yr (v:=.tuple #[.agg #[_,_,_,_],.int .i64 _,.int .i64 _]) (by simp[results,rS,go_sem,pk.out]) rfl HR.out
 simp only[not_or] at hk;obtain⟨e1,e2,e3,e4,e5,e6,e7,e8,e9,fS,jz⟩:=hk;have a0:=AA (show Ae k ⟨kk,e,a,b,c,nm⟩=(k,0,3) by unfold Ae;rw[if_neg e1,if_neg (by rw[AZ];simp only;omega),if_neg e7,if_neg e8,if_neg e9,if_neg (by simp only;omega)]);have t1:(kk==1)=false:=by simp[e1]
 have t2:(kk==2)=false:=by simp[e2]
 have t3:(kk==3)=false:=by simp[e3]
 have t4:(kk==4)=false:=by simp[e4]
 have t5:(kk==5)=false:=by simp[e5]
 have t6:(kk==6)=false:=by simp[e6]
 have t7:(kk==7)=false:=by simp[e7]
 have t8:(kk==8)=false:=by simp[e8]
 have t9:(kk==9)=false:=by simp[e9]
 have py:(kk==10)=false:=by simp[fS]
 have px:(kk==11)=false:=by simp[jz]
 clear e1 e2 e3 e4 e5 e6 e7 e8 e9 fS jz;go_in;obtain⟨⟨H,N,X,D⟩,⟨⟨z0,z1,z2,z3⟩,bC⟩,HE,HR⟩:=S0.out.yH al (v:=0) (code:=3) (a0.out) (by decide);go_wp2_with ((try simp only[xL,Exit.then]);with_reducible refine yr ?_ rfl HR.out;obtain⟨E0,E1,E2,E3⟩:=HE.out;simp[results,rS,go_sem,E0,E1,E2,E3])
def Pj(lo:Nat)(b:Bool)(v:Value)(w:World)(k:AO):Prop:=b=true∨∃m i e c,v=.agg #[m,i,e,c]/\Da lo w m i e c k
theorem Pj.below{lo:Nat}{b:Bool}{w w':World}{k:AO}(h:Pj lo b v w k)(Z:Below w.heap.size w w'):Pj lo b v w' k:=h.imp id λ⟨m,i,e,c,h1,R⟩=>⟨m,i,e,c,h1,R.below Z⟩
theorem Pj.yL{lo g:Nat}{b:Bool}{w w':World}{k:AO}{cu:Array Value}(h:Pj lo b v w k)(hg:w.grownBy w' (some g))(hB:w.heap[g]?=some (.cells cu 28 (0,0))):Pj lo b v w' k:=h.imp id λ⟨m,i,e,c,h1,R⟩=>⟨m,i,e,c,h1,R.yL hg hB⟩
def QK(lo:Nat)(w:World)(m i e c:Value)(k:AO)(y:Int):Prop:=ch m i e c/\(y=0->Da lo w m i e c k)
theorem QK.below{lo:Nat}{w w':World}{m i e c:Value}{k:AO}(h:QK lo w m i e c k y)(Z:Below w.heap.size w w'):QK lo w' m i e c k y:=⟨h.1,λh0=>(h.2 h0).below Z⟩
theorem QK.yL{lo g:Nat}{w w':World}{m i e c:Value}{k:AO}{cu:Array Value}(h:QK lo w m i e c k y)(hg:w.grownBy w' (some g))(hB:w.heap[g]?=some (.cells cu 28 (0,0))):QK lo w' m i e c k y:=⟨h.1,λh0=>(h.2 h0).yL hg hB⟩
def MQ(lo:Nat)(v:Value)(w:World)(k:AO)(x y:Int):Prop:=∃m i e c,v=.tuple #[.agg #[m,i,e,c],.int .i64 x,.int .i64 y]/\QK lo w m i e c k y
def RY(lo:Nat)(v:Value)(w:World)(k:AO)(y:Int):Prop:=∃m i e c,v=.agg #[m,i,e,c]/\QK lo w m i e c k y
theorem MQ.below{lo:Nat}{w w':World}{k:AO}(h:MQ lo v w k x y)(Z:Below w.heap.size w w'):MQ lo v w' k x y:=by obtain⟨m,i,e,c,h1,R⟩:=h;exact⟨m,i,e,c,h1,R.below Z⟩
theorem MQ.yL{lo g:Nat}{w w':World}{k:AO}{cu:Array Value}(h:MQ lo v w k x y)(hg:w.grownBy w' (some g))(hB:w.heap[g]?=some (.cells cu 28 (0,0))):MQ lo v w' k x y:=by obtain⟨m,i,e,c,h1,R⟩:=h;exact⟨m,i,e,c,h1,R.yL hg hB⟩
theorem RY.below{lo:Nat}{w w':World}{k:AO}(h:RY lo v w k y)(Z:Below w.heap.size w w'):RY lo v w' k y:=by obtain⟨m,i,e,c,h1,R⟩:=h;exact⟨m,i,e,c,h1,R.below Z⟩
theorem RY.yL{lo g:Nat}{w w':World}{k:AO}{cu:Array Value}(h:RY lo v w k y)(hg:w.grownBy w' (some g))(hB:w.heap[g]?=some (.cells cu 28 (0,0))):RY lo v w' k y:=by obtain⟨m,i,e,c,h1,R⟩:=h;exact⟨m,i,e,c,h1,R.yL hg hB⟩
def IR(lo:Nat)(b:Bool)(v:Value)(w:World)(k:AO)(y:Int):Prop:=∃q,v=.pointer (some ⟨q,0,none⟩)/\lo<=q/\if b=true then ∃m i e c,w.heap[q]?=some (.cells #[m,i,e,c] 28 (0,0))/\QK lo w m i e c k y else w.heap[q]?=some (.cells #[.slice none 0 0,.slice none 0 0,.slice none 0 0,.slice none 0 0] 28 (0,0))
theorem IR.below{lo:Nat}{b:Bool}{w w':World}{k:AO}(h:IR lo b v w k y)(Z:Below w.heap.size w w'):IR lo b v w' k y:=by
 obtain⟨q,h0,h1,R⟩:=h;refine⟨q,h0,h1,?_⟩;cases b
 .exact AB R Z
 .obtain⟨m,i,e,c,h3,h4⟩:=R
  exact⟨m,i,e,c,AB h3 Z,h4.below Z⟩
theorem IR.stay{lo:Nat}{w w':World}{k:AO}(h:IR lo false v w k y)(hf:ak w w'):IR lo false v w' k y:=by obtain⟨q,h0,h1,R⟩:=h;exact⟨q,h0,h1,(hf q _ R).trans R⟩
theorem Le{k:AO}{w:World}(h:Mu w mv iv ev cv k)(hk:DQ k)(call:Ac)(he:0<=call.e/\call.e<3)(dZ:call.nm.size<=maxLen)(kh:call.c<=9223372036854775807):
 Calls prog 67 #[.agg #[mv,iv,ev,cv],.agg call.cs] w (Nt w (Ae k call)):=by
 have lf:=AA (λ(lo:Nat)(W:World)(m1 i1 e1 c1:Value)(h:Da lo W m1 i1 e1 c1 k)(al:lo<=W.heap.size)=>X9 h al hk call he dZ kh);have HR:=AA h;have pe:=AA hk;have HN:=AA (@Pu k call);generalize Ae k call=res at lf HN ⊢;obtain⟨kr,vr,nr⟩:=res;obtain⟨ck,ce,ca,cb,cc,nm⟩:=call;simp only[Ac.cs] at lf ⊢;obtain⟨B0,B1,B2,av,ds⟩:=LC w (.cells #[mv,iv,ev,cv] 28) (.cells #[.int .i64 ck,.int .i64 ce,.int .i64 ca,.int .i64 cb,.int .i64 cc,.string nm] 55) (.cells #[.slice none 0 0,.slice none 0 0,.slice none 0 0,.slice none 0 0] 28);have CC:=AA (λW (hW:Below (((w.alloc (.cells #[mv,iv,ev,cv] 28)).alloc (.cells #[.int .i64 ck,.int .i64 ce,.int .i64 ca,.int .i64 cb,.int .i64 cc,.string nm] 55)).alloc (.cells #[.slice none 0 0,.slice none 0 0,.slice none 0 0,.slice none 0 0] 28)).heap.size _ W)=>Ld mv iv ev cv k W ((HR.out.below av).below hW) pe.out);clear he dZ kh h hk;go_in;go_wp2_with fail;generalize((w.alloc _).alloc _).alloc _=W0 at*;obtain⟨H,N,X,D⟩:=AE B0;obtain⟨y0,y1,y2,y3,y4,y5⟩:=Jl B1;have dO:=AW B0;have iT:=AW B1;have bN:=AA av;have HB:=AA (xU B0 B2);clear av B0 B1 B2;have av:=iT;clear iT;refine Co 12 26 (λix=>ix==3||ix==9) [.a #[mv,iv,ev,cv],.z,.a #[.int .i64 ck,.int .i64 ce,.int .i64 ca,.int .i64 cb,.int .i64 cc,.string nm],.z,.z,.z,.i vr,.i nr,.z,.z,.i vr,.i nr] (λll ix vv ww=>match ix with
  |1=>Pj W0.heap.size (ll 3) vv ww k
  |3|4=>MQ W0.heap.size vv ww kr vr nr
  |5=>RY W0.heap.size vv ww kr nr
  |8=>IR W0.heap.size (ll 9) vv ww kr nr
  |_=>True) (λll ww=>Below W0.heap.size W0 ww) ?_ ?_ ?_ ?_ ?_ ?_
 .exact Av (yD _ _) 1
 .intro j hj ll i vv wz dc hi hS fC jy bs hz
  match j,hj with
  |1,_=>exact(Pj.below (by rw[EB (by rintro rfl;exact absurd hS (by decide))];exact hz) bs)
  |3,_|4,_=>exact(MQ.below hz bs)
  |5,_=>exact(RY.below hz bs)
  |8,_=>exact(IR.below (by rw[EB (by rintro rfl;exact absurd hS (by decide))];exact hz) bs)
  |0,_|2,_|6,_|7,_|9,_|10,_|11,_=>exact hz
 .intro ll i wz dc hi hS fC bs hg
  exact hg.trans (bs.mono hg.size)
 .intro i hi hS o Y a O V ll J K L HL A
  have bt:=bc L dO H;have bp:=bc L dO N;have bw:=bc L dO X;have bK:=bc L dO D;have cy:=bc L av y0;have cT:=bc L av y1;have gW:=bc L av y2;have io:=bc L av y3;have jo:=bc L av y4;have jm:=bc L av y5
  match i,hi,hS with
  |0,_,_=>exact JM Y A V J K (hl:=OM ‹_› ‹_› ‹_› ‹_›)
  |1,_,_=>exact co Y A V J K (CC.out _ L) (by rintro r w_ ⟨m',i',e',c',rfl,hO,az⟩;exact⟨_,rfl,(.inr ⟨m',i',e',c',rfl,hO.lower L.size⟩),az⟩)
  |2,_,_=>exact JM Y A V J K (hl:=cV ‹_› ‹_› ‹_› ‹_› ‹_› ‹_›)
  |10,_,_|11,_,_=>exact Rb Y A V J K
  |3,_,hs|9,_,hs=>cases hs
  |4,_,_=>clear bt bp bw bK cy cT gW io jo jm;obtain rfl:=yF Y;have d3:MQ W0.heap.size (a.tmps[14]?.getD undef) O kr vr nr:=Cw J K 3;have u3:ll 3=true:=K.out.2.1 3 (by kernel_rfl);have u9:=A9 K 9;clear J V;refine yE ?_;go_simp;exact A.out _ _ d3 (yD _ _)
  |5,_,_=>clear bt bp bw bK cy cT gW io jo jm;obtain rfl:=yF Y;have d4:MQ W0.heap.size (a.tmps[10]?.getD undef) O kr vr nr:=Cw J K 4;have u9:=A9 K 9;clear J V;obtain⟨m',i',e',c',d4,hO⟩:=d4;refine yE ?_;go_simp;exact A.out _ _ ⟨_,_,_,_,rfl,hO⟩ (yD _ _)
  |6,_,_|7,_,_=>clear bt bp bw bK cy cT gW io jo jm;obtain rfl:=yF Y;have d4:MQ W0.heap.size (a.tmps[10]?.getD undef) O kr vr nr:=Cw J K 4;clear J V;obtain⟨m',i',e',c',d4,hO⟩:=d4;refine yE ?_;go_simp;exact A.out _ _ rfl (yD _ _)
  |8,_,_=>clear bt bp bw bK cy cT gW io jo jm;obtain rfl:=yF Y;have u9:=A9 K 9;clear J V;refine yE ?_;go_simp;exact A.out _ _ ⟨_,rfl,L.size,by rw[EB (by decide),u9];exact yi _ _⟩ (AI _ _)
 .intro i hi hS o Y a O V ll J K L HL A
  match i,hi,hS with
  |0,_,hs|1,_,hs|2,_,hs|4,_,hs|5,_,hs|6,_,hs|7,_,hs|8,_,hs|10,_,hs|11,_,hs=>cases hs
  |3,_,_=>
   obtain rfl:=yF Y;have d1:Pj W0.heap.size (ll 3) (a.tmps[12]?.getD undef) O k:=Cw J K 1;have d2:(a.tmps[13]?.getD undef)=.agg #[.int .i64 ck,.int .i64 ce,.int .i64 ca,.int .i64 cb,.int .i64 cc,.string nm]:=Cw J K 2;have u9:=A9 K 9;clear J V
   rcases d1 with d1|⟨m',i',e',c',d1,hO⟩
   .rw[K.out.1] at d1;cases d1
   refine yE ?_;go_simp;refine(lf.out _ _ _ _ _ _ hO L.size).mono ?_;rintro r w_ ⟨m2,i2,e2,c2,rfl,hs,nN,az,hf⟩;exact A.out _ _ ⟨m2,i2,e2,c2,rfl,hs,nN⟩ (L.trans az) (λj dm dQ dd hu=>match j,dQ with
    |0,_|2,_|6,_|7,_|9,_|10,_|11,_=>hu
    |1,_=> .inl (by rw[FN])
    |3,_=>absurd rfl dm
    |4,_=>absurd (K.out.2.2 4 3 (dd) (by kernel_rfl)) (by rw[K.out.1];decide)
    |5,_=>absurd (K.out.2.2 4 3 (K.out.2.2 5 4 (dd) (by kernel_rfl)) (by kernel_rfl)) (by rw[K.out.1];decide)
    |8,_=>by
     change IR _ (ll 9) _ _ _ _ at hu
     rw[u9] at hu
     show IR _ (GU ll 3 9) _ _ _ _
     rw[EB (by decide),u9];exact IR.stay hu hf)
  |9,_,_=>
   obtain rfl:=yF Y;have d8:IR W0.heap.size (ll 9) (a.tmps[7]?.getD undef) O kr nr:=Cw J K 8;have d5:RY W0.heap.size (a.tmps[15]?.getD undef) O kr nr:=Cw J K 5;have u3:ll 3=true:=K.out.2.1 3 (by kernel_rfl);clear J V;obtain⟨qb,fS,fu,da⟩:=d8;rw[K.out.1] at da;replace da:O.heap[qb]?=some (.cells #[.slice none 0 0,.slice none 0 0,.slice none 0 0,.slice none 0 0] 28 (0,0)):=da;obtain⟨m',i',e',c',d5,hO⟩:=d5;obtain⟨va,vn,vc,wa,wn,wc,xa,xn,xc,ya,yn,yc,rfl,rfl,rfl,rfl⟩:=hO.1;obtain⟨c0,hH,c2,c3⟩:=AE da;have fq:=AK da;have a6:=AA (Ao O qb (.slice va vn vc) (.slice wa wn wc) (.slice xa xn xc) (.slice ya yn yc));have kY:=AA fS;have Hq:=AA da;have HO:=AA hO;clear da hO;refine yE ?_;go_simp;exact A.out undef _ trivial (AM L a6.out fu L.size) (λj dm dQ dd hu=>match j,dQ with
    |0,_|2,_|6,_|7,_|10,_|11,_=>hu
    |1,_=>by
     show Pj _ (GU ll 9 3) _ _ _
     rw[EB (by decide)];exact Pj.yL hu a6.out Hq.out
    |3,_|4,_=>MQ.yL hu a6.out Hq.out
    |5,_=>RY.yL hu a6.out Hq.out
    |8,_=>⟨qb,kY.out,fu,by rw[FN];exact⟨_,_,_,_,Cx Hq.out,HO.out.yL a6.out Hq.out⟩⟩
    |9,_=>absurd rfl dm)
 .intro E O ll cl hR L
  have q8:IR W0.heap.size (ll 9) (E 8) O kr nr:=BS hR 8;have dP:(E 10)=.int .i64 vr:=BS hR 10;have eG:(E 11)=.int .i64 nr:=BS hR 11;clear hR;simp only[Cn,BQ,yC,yy,yz,yx,dP,eG];simp;generalize E 8=z8 at q8 ⊢;clear dP eG;obtain⟨qb,rfl,fu,da⟩:=q8;rw[cl 9 (by decide),if_pos rfl] at da;obtain⟨m',i',e',c',eN,hO⟩:=da;clear cl H N X D y0 y1 y2 y3 y4 y5;obtain⟨va,vn,vc,wa,wn,wc,xa,xn,xc,ya,yn,yc,rfl,rfl,rfl,rfl⟩:=hO.1;obtain⟨c0,hH,c2,c3⟩:=AE eN;have li:=AB HB.out.1 L;have eM:=AB HB.out.2 L;have ib:=AA (bN.out.trans (L.mono bN.out.size))
  by_cases h0:nr=0
  focus
   subst h0
   have hK:=hO.2 rfl;have bC:=AK eM;obtain⟨z0,z1,z2,z3⟩:=AE eM;obtain⟨E0,E1,E2,E3⟩:=Ju (m':=.slice va vn vc) (i':=.slice wa wn wc) (e':=.slice xa xn xc) (c':=.slice ya yn yc) eM;have HE:=AA (xU E0 (xU E1 (xU E2 E3)));have a6:=Ao O (w.heap.size+1+1) (.slice va vn vc) (.slice wa wn wc) (.slice xa xn xc) (.slice ya yn yc);have jE:=AA (show Da w.heap.size _ (.slice va vn vc) (.slice wa wn wc) (.slice xa xn xc) (.slice ya yn yc) kr from(hK.yL a6 eM).lower bN.out.size);have fE:=AA (AM ib.out a6 (by omega) ib.out.size);clear E0 E1 E2 E3 hO hK a6 li eM HN L eN
  rotate_left
  focus
   have t0:(nr !=0)=true:=by simp[h0]
   have hN:=HN.out h0;simp only[Prod.mk.injEq,and_true] at hN;obtain⟨rfl,rfl⟩:=hN;obtain⟨H,N,X,D⟩:=AE li;have pp:=CC.out O L;clear hO eN c0 hH c2 c3;go_wp2_with fail;refine pp.mono ?_;rintro r w4 ⟨m4,i4,e4,c4,rfl,O4,b4⟩;have B4:=AB eM b4;have bC:=AK B4;obtain⟨z0,z1,z2,z3⟩:=AE B4;obtain⟨E0,E1,E2,E3⟩:=Ju (m':=m4) (i':=i4) (e':=e4) (c':=c4) B4;have HE:=AA (xU E0 (xU E1 (xU E2 E3)));have a6:=Ao w4 (w.heap.size+1+1) m4 i4 e4 c4;have jE:=AA (show Da w.heap.size _ m4 i4 e4 c4 kr from(O4.yL a6 B4).lower ib.out.size);have fE:=AA (AM (ib.out.trans (b4.mono ib.out.size)) a6 (by omega) (by have:=ib.out.size;have:=b4.size;omega));obtain⟨⟨_,_,_,rfl⟩,⟨_,_,_,rfl⟩,⟨_,_,_,rfl⟩,⟨_,_,_,rfl⟩⟩:=O4.zQ;clear E0 E1 E2 E3 O4 b4 B4 a6 li eM H N X D L
  rotate_left
  all_goals
   go_wp2_with fail;exact yr (v:=.tuple #[.agg #[_,_,_,_],_,_]) (by simp[results,Tryz.results67,go_sem,HE.out]) rfl ⟨_,_,_,_,rfl,jE.out,fE.out⟩
def Kk(w:World)(res:Mh)(r:Ending)(w':World):Prop:=∃m i e c,r=.returned (.tuple #[.agg #[m,i,e,c],.int .i64 res.2.1,.bool (res.2.2==0)])/\Da w.heap.size w' m i e c res.1/\Below w.heap.size w w'
theorem Fd{m i e c:Value}{k:AO}{w:World}(h:Mu w m i e c k)(hk:DQ k)(kind a b x:Int)(hx:x<=9223372036854775807):
 Calls prog 32 #[.agg #[m,i,e,c],.int .i64 kind,.int .i64 a,.int .i64 b,.int .i64 x] w (Kk w (Ae k (Ag kind a b x))):=by
 obtain⟨N0,N1,av,ds⟩:=Jz w (.cells #[m,i,e,c] 28) (.cells #[.slice none 0 0,.slice none 0 0,.slice none 0 0,.slice none 0 0] 28);have C:=Le (h.below av) hk (Ag kind a b x) ⟨Int.le_refl 0,show(0:Int)<3 by decide⟩ (show gA.size<=maxLen by decide) hx;simp only[Ac.cs,Ag,gA] at C ⊢;generalize Ae k ⟨kind,0,a,b,x,⟨#[97]⟩⟩=res at C ⊢;obtain⟨kr,vr,nr⟩:=res;have C:=AA C;clear h hk hx;obtain⟨H,N,X,D⟩:=AE N0;go_in;go_wp2_with fail;generalize(w.alloc _).alloc _=W0 at*;refine C.out.mono ?_;rintro r w1 ⟨m1,i1,e1,c1,rfl,O1,b1⟩;obtain⟨⟨ma,mn,mc,rfl⟩,⟨ia,iN,ic,rfl⟩,⟨ea,en,ec,rfl⟩,⟨qa,qn,qc,rfl⟩⟩:=O1.zQ;obtain⟨N2,b2⟩:=Dd w1 (.cells #[.slice ma mn mc,.slice ia iN ic,.slice ea en ec,.slice qa qn qc] 28);have eM:=AB (AB N1 b1) b2;have O2:=O1.below b2;have HW:=AA (av.trans ((b1.trans (b2.mono b1.size)).mono av.size));have bC:=AK eM;obtain⟨z0,z1,z2,z3⟩:=AE eM;obtain⟨p0,p1,p2,p3⟩:=AE N2;obtain⟨E0,E1,E2,E3⟩:=Ju (m':=.slice ma mn mc) (i':=.slice ia iN ic) (e':=.slice ea en ec) (c':=.slice qa qn qc) eM;have HE:=AA (xU E0 (xU E1 (xU E2 E3)));have a6:=Ao (w1.alloc (.cells #[.slice ma mn mc,.slice ia iN ic,.slice ea en ec,.slice qa qn qc] 28)) (w.heap.size+1) (.slice ma mn mc) (.slice ia iN ic) (.slice ea en ec) (.slice qa qn qc);have jE:=AA (show Da w.heap.size _ (.slice ma mn mc) (.slice ia iN ic) (.slice ea en ec) (.slice qa qn qc) kr from(O2.yL a6 eM).lower av.size);have fE:=AA (AM HW.out a6 (by omega) HW.out.size);clear E0 E1 E2 E3 a6 eM N0 N1 N2 H N X D O1 O2 b1 b2 av ds C;go_wp2_with fail;exact yr (v:=.tuple #[.agg #[_,_,_,_],_,_]) (by simp[results,Tryz.results32,go_sem,HE.out]) rfl ⟨_,_,_,_,rfl,jE.out,fE.out⟩
def PK(lo:Nat)(w:World)(m i e c:Value)(k:AO):Prop:=(∃E,AQ lo 29 1 GO w m E/\Fq (AF lo w) E k.mem)/\AQ lo 92 3 A3 w i k.zZ/\(∃ps,AQ lo 74 2 Ep w e ps/\Fq (λp e=>AQ lo 9 1 BD w p.1 e.zT/\p.2=e.root) ps k.zX)/\AQ lo 112 4 AU w c k.zW
def Yr(lo:Nat)(w:World)(u:Value)(r:List Int):Prop:=AF lo w u r∨(r=[]/\∃a dn,u=.slice a 0 dn/\dn<=maxLen/\(a=none->dn=0))
theorem Yr.rd{lo:Nat}{w:World}{u:Value}{r:List Int}(h:Yr lo w u r):Ax w u r:=by
 rcases h with h|⟨rfl,a,dn,rfl,h1,R⟩
 .exact AF.rd h
 .exact⟨a,dn,rfl,yg _,h1,rfl,R,λh0=>absurd h0 (tz 0)⟩
def Nr(lo:Nat)(w:World)(m i e c s l q:Value)(P:AR):Prop:=PK lo w m i e c P.zV/\(∃E,AQ lo 29 1 GO w s E/\Fq (Yr lo w) E P.swap)/\AF lo w l P.low/\AQ lo 43 3 DG w q P.zY
section
variable {lo lo':Nat} {w w':World} {m i e c s l q:Value} {k:AO} {P:AR}
theorem Da.sf(h:Da lo w m i e c k):PK lo w m i e c k:=by obtain⟨⟨E,h1,R,_⟩,h3,⟨ps,h4,h5,_⟩,h6⟩:=h;exact⟨⟨E,h1,R⟩,h3,⟨ps,h4,h5⟩,h6⟩
theorem FQ.sf(h:FQ lo w m i e c s l q P):Nr lo w m i e c s l q P:=by
 obtain⟨E,h1,R,_⟩:=h.swp;exact⟨h.ker.sf,⟨E,h1,R.mono λ_ _ h=> .inl h⟩,h.low,h.pgs⟩
theorem PK.rd(h:PK lo w m i e c k):Mu w m i e c k:=by
 obtain⟨⟨E,h1,R⟩,h3,⟨ps,h4,h5⟩,h6⟩:=h;exact⟨⟨E,h1.rd,R.mono λ_ _ h=>AF.rd h⟩,h3.rd,⟨ps,h4.rd,h5.mono λ_ _ h=>⟨h.1.rd,h.2⟩⟩,h6.rd⟩
theorem Nr.rd(h:Nr lo w m i e c s l q P):Jy w m i e c s l q P:=by
 obtain⟨h0,⟨E,h1,R⟩,h3,h4⟩:=h;exact⟨h0.rd,⟨E,h1.rd,R.mono λ_ _ h=>h.rd⟩,h3.rd,h4.rd⟩
theorem PK.map(h:PK lo w m i e c k)(f:∀t sz n v xs,t≠28->t≠32->w.ownsRow lo t sz v n xs->w'.ownsRow lo' t sz v n xs):PK lo' w' m i e c k:=by
 obtain⟨⟨E,h1,R⟩,h3,⟨ps,h4,h5⟩,h6⟩:=h;exact⟨⟨E,f _ _ _ _ _ (by decide) (by decide) h1,R.mono λ_ _ h=>f _ _ _ _ _ (by decide) (by decide) h⟩,f _ _ _ _ _ (by decide) (by decide) h3,⟨ps,f _ _ _ _ _ (by decide) (by decide) h4,h5.mono λ_ _ h=>⟨f _ _ _ _ _ (by decide) (by decide) h.1,h.2⟩⟩,f _ _ _ _ _ (by decide) (by decide) h6⟩
theorem Nr.map(h:Nr lo w m i e c s l q P)(f:∀t sz n v xs,t≠28->t≠32->w.ownsRow lo t sz v n xs->w'.ownsRow lo' t sz v n xs):Nr lo' w' m i e c s l q P:=by
 obtain⟨h0,⟨E,h1,R⟩,h3,h4⟩:=h;exact⟨h0.map f,⟨E,f _ _ _ _ _ (by decide) (by decide) h1,R.mono λ_ _ h=>h.imp (f _ _ _ _ _ (by decide) (by decide)) id⟩,f _ _ _ _ _ (by decide) (by decide) h3,f _ _ _ _ _ (by decide) (by decide) h4⟩
theorem GD{g:Nat}(hg:w.grownBy w' (some g))(hl:g<lo)(al:lo'<=lo):∀t sz n v xs,t≠28->t≠32->w.ownsRow lo t sz v n xs->w'.ownsRow lo' t sz v n xs:=λ_ _ _ _ _ _ _ h=>BU (Bs h hg (λk hk=>by cases hk;exact hl)) al
theorem Jv(Z:Below w.heap.size w w')(al:lo'<=lo):∀t sz n v xs,t≠28->t≠32->w.ownsRow lo t sz v n xs->w'.ownsRow lo' t sz v n xs:=λ_ _ _ _ _ _ _ h=>BU (Bx h Z) al
theorem KM{b T:Nat}{cu:Array Value}(hg:w.grownBy w' (some b))(hB:w.heap[b]?=some (.cells cu T (0,0)))(hT:T=28∨T=32)(al:lo'<=lo):∀t sz n v xs,t≠28->t≠32->w.ownsRow lo t sz v n xs->w'.ownsRow lo' t sz v n xs:=
 λ_ _ _ _ _ h1 R h=>BU (FE h hg hB (by rcases hT with rfl|rfl;(· exact h1);(· exact R))) al
theorem PK.zQ(h:PK lo w m i e c k):(∃a n q,m=.slice a n q)/\(∃a n q,i=.slice a n q)/\(∃a n q,e=.slice a n q)/\∃a n q,c=.slice a n q:=by obtain⟨⟨E,h1,R⟩,h3,⟨ps,h4,h5⟩,h6⟩:=h;obtain⟨_,_,rfl,_,_⟩:=h1.rd.shape;obtain⟨_,_,rfl,_,_⟩:=h3.rd.shape;obtain⟨_,_,rfl,_,_⟩:=h4.rd.shape;obtain⟨_,_,rfl,_,_⟩:=h6.rd.shape;exact⟨⟨_,_,_,rfl⟩,⟨_,_,_,rfl⟩,⟨_,_,_,rfl⟩,⟨_,_,_,rfl⟩⟩
theorem Nr.zQ(h:Nr lo w m i e c s l q P):((∃a n q,m=.slice a n q)/\(∃a n q,i=.slice a n q)/\(∃a n q,e=.slice a n q)/\∃a n q,c=.slice a n q)/\(∃a n q,s=.slice a n q)/\(∃a n q,l=.slice a n q)/\∃a n r,q=.slice a n r:=by obtain⟨h0,⟨E,h1,R⟩,h3,h4⟩:=h;have h5:=h0.zQ;obtain⟨_,_,rfl,_,_⟩:=h1.rd.shape;obtain⟨_,_,rfl,_,_⟩:=h3.rd.shape;obtain⟨_,_,rfl,_,_⟩:=h4.rd.shape;exact⟨h5,⟨_,_,_,rfl⟩,⟨_,_,_,rfl⟩,⟨_,_,_,rfl⟩⟩
end
theorem MD(f:Int)(w:World)(h0:0<=f)(h1:f<=11):Calls prog 81 #[.int .i64 f,.bool true] w λe w'=>e=.returned (.int .i64 (IB f))/\Below w.heap.size w w':=by unfold IB;go_in;go_wp2_with fail;go_ret;exact⟨rfl,yD _ _⟩
def GB(W:World)(q:Nat)(k:AO)(t:Bool)(ww:World):Prop:=match t with
 |false=>Below W.heap.size W ww
 |true=>∃wz m i e c,Below W.heap.size W wz/\Da W.heap.size wz m i e c k/\Below wz.heap.size (FG wz q m i e c) ww
theorem GB.grow{W:World}{q:Nat}{k:AO}{dc:World}(h:GB W q k t ww)(Z:Below ww.heap.size ww dc):GB W q k t dc:=by
 cases t
 .exact Below.trans h (Z.mono (Below.size h))
 .obtain⟨wz,m,i,e,c,h1,h3,R⟩:=h
  exact⟨wz,m,i,e,c,h1,h3,R.trans (Z.mono (by have:=R.size;simpa[FG] using this))⟩
theorem GB.cell{W:World}{q:Nat}{k:AO}(h:GB W q k t ww)(ht:t=false){g o:Nat}{v:Value}(hg:g<W.heap.size)(hc:W.cell? ⟨g,o,none⟩=some v):ww.cell? ⟨g,o,none⟩=some v:=by subst ht;exact(uu (p:=⟨g,o,none⟩) h hg).trans hc
theorem GB.other{W:World}{q:Nat}{k:AO}(h:GB W q k t ww){g o:Nat}{v:Value}(hg:g<W.heap.size)(ey:g≠q)(hc:W.cell? ⟨g,o,none⟩=some v):ww.cell? ⟨g,o,none⟩=some v:=by
 cases t
 .exact(uu (p:=⟨g,o,none⟩) h hg).trans hc
 .obtain⟨wz,m,i,e,c,h1,_,R⟩:=h
  have hz:g<wz.heap.size:=xW hg h1.size;exact(uu (p:=⟨g,o,none⟩) R (by simpa[FG] using hz)).trans ((GL (o:=o) (Ao wz q m i e c) hz (λe=>ey (yF e).symm)).trans ((h1.cell (p:=⟨g,o,none⟩) hg).trans hc))
def Ew(lo:Nat)(v:Value)(w:World)(k:AO)(x:Int)(b:Bool):Prop:=∃m i e c,v=.tuple #[.agg #[m,i,e,c],.int .i64 x,.bool b]/\Da lo w m i e c k
theorem Ew.below{lo:Nat}{w w':World}{k:AO}{b:Bool}(h:Ew lo v w k x b)(Z:Below w.heap.size w w'):Ew lo v w' k x b:=by obtain⟨m,i,e,c,h1,R⟩:=h;exact⟨m,i,e,c,h1,R.below Z⟩
theorem Ew.yL{lo g:Nat}{w w':World}{k:AO}{b:Bool}{cu:Array Value}(h:Ew lo v w k x b)(hg:w.grownBy w' (some g))(hB:w.heap[g]?=some (.cells cu 28 (0,0))):Ew lo v w' k x b:=by obtain⟨m,i,e,c,h1,R⟩:=h;exact⟨m,i,e,c,h1,R.yL hg hB⟩
def OD(lo:Nat)(w:World)(v:Value):Prop:=∃E,AQ lo 29 1 GO w v E/\E.length=16/\∀u∈E,∃a dn,u=.slice a 0 dn/\dn<=maxLen/\(a=none->dn=0)
theorem OD.of{lo:Nat}{w:World}{E:List Value}(h:Au lo w v E (xR 16 [])):OD lo w v:=by
 have hl:E.length=16:=h.2.1.1.trans (vB ..);refine⟨E,h.1,hl,λu hu=>?_⟩;obtain⟨j,hj⟩:=List.getElem?_of_mem hu;have dd:=(yt.1 hj).1;have hr:=h.2.1.2 j u [] hj (by rw[vL,if_pos (by omega)]);obtain⟨a,dn,rfl,_,hc,_,hn,_⟩:=hr.rd;exact⟨a,dn,rfl,hc,hn⟩
theorem OD.below{lo:Nat}{w w':World}(h:OD lo w v)(Z:Below w.heap.size w w'):OD lo w' v:=by obtain⟨E,h1,R⟩:=h;exact⟨E,AQ.below h1 Z,R⟩
theorem OD.lower{lo lo':Nat}{w:World}(h:OD lo w v)(hl:lo'<=lo):OD lo' w v:=by obtain⟨E,h1,R⟩:=h;exact⟨E,BU h1 hl,R⟩
theorem OD.yL{lo g T:Nat}{w w':World}{cu:Array Value}{fr:Nat×Nat}(h:OD lo w v)(hg:w.grownBy w' (some g))(hB:w.heap[g]?=some (.cells cu T fr))(hT:29≠T:=by decide):OD lo w' v:=by obtain⟨E,h1,R⟩:=h;exact⟨E,AQ.yL h1 hg hB hT,R⟩
theorem OD.grown{lo:Nat}{w w':World}{o:Option Nat}(h:OD lo w v)(hg:w.grownBy w' o)(hT:∀b,v.ownBlock=some b->o≠some b):OD lo w' v:=by
 obtain⟨E,h1,R⟩:=h;refine⟨E,Aw h1 hg ?_,R⟩
 rcases hv:v.ownBlock with _|b
 .exact .inl rfl
 .exact .inr (hT b hv).symm
theorem OD.rd{lo:Nat}{w:World}(h:OD lo w v):Bk w v (xR 16 []):=by
 obtain⟨E,h1,R,h3⟩:=h;refine⟨E,h1.rd,⟨by rw[R,vB],λi x y hx hy=>?_⟩⟩;obtain⟨a,dn,rfl,hc,hn⟩:=h3 x (yh hx);rw[vL] at hy
 split at hy
 .cases hy
  exact⟨a,dn,rfl,yg _,hc,rfl,hn,λh0=>absurd h0 (tz 0)⟩
 .cases hy
theorem OD.sf{lo:Nat}{w:World}(h:OD lo w v):∃E,AQ lo 29 1 GO w v E/\Fq (Yr lo w) E (xR 16 []):=by
 obtain⟨E,h1,R,h3⟩:=h;refine⟨E,h1,⟨by rw[R,vB],λi x y hx hy=>?_⟩⟩;rw[vL] at hy
 split at hy
 .cases hy
  exact .inr ⟨rfl,h3 x (yh hx)⟩
 .cases hy
theorem OD.slice{lo:Nat}{w:World}(h:OD lo w v):∃a n c,v=.slice a n c:=by obtain⟨E,h1,_⟩:=h;obtain⟨_,_,rfl,_,_⟩:=h1.rd.shape;exact⟨_,_,_,rfl⟩
structure KN(lo g gk q:Nat)(w:World)(l:Int)(n j:Nat)(m i e c sv lv qv:Value):Prop where
 pb:w.heap[g]?=some (.cells #[.slice none 0 0,.slice none 0 0,.slice none 0 0,.slice none 0 0,sv,lv,qv,.int .i64 0,.int .i64 l] 32 (0,0))
 kb:w.heap[q]?=some (.cells #[m,i,e,c] 28 (0,0))
 gb:∃a b c d,w.heap[gk]?=some (.cells #[a,b,c,d] 28 (0,0))
 yJ:lo<=g/\lo<=gk/\lo<=q/\lo<=w.heap.size
 ker:Da lo w m i e c (EF n)
 swp:OD lo w sv
 low:AF lo w lv (Lj j)
 pgs:AQ lo 43 3 DG w qv (xR 16 ⟨0,0,false⟩)
section
variable {lo g gk q:Nat} {w w1:World} {l:Int} {n j:Nat} {m i e c sv lv qv:Value}
theorem KN.below(h:KN lo g gk q w l n j m i e c sv lv qv)(Z:Below w.heap.size w w1):KN lo g gk q w1 l n j m i e c sv lv qv:=by obtain⟨a,b,c',d,hg⟩:=h.gb;exact⟨AB h.pb Z,AB h.kb Z,⟨a,b,c',d,AB hg Z⟩,⟨h.yJ.1,h.yJ.2.1,h.yJ.2.2.1,yB h.yJ.2.2.2 Z.size⟩,h.ker.below Z,h.swp.below Z,h.low.below Z,h.pgs.below Z⟩
theorem KN.keep(h:KN lo g gk q w l n j m i e c sv lv qv){p:Nat}{cu:Array Value}(hp:w.heap[p]?=some (.cells cu 28 (0,0)))(hg:w.grownBy w1 (some p)):
 w1.heap[g]?=some (.cells #[.slice none 0 0,.slice none 0 0,.slice none 0 0,.slice none 0 0,sv,lv,qv,.int .i64 0,.int .i64 l] 32 (0,0))/\OD lo w1 sv/\AF lo w1 lv (Lj j)/\AQ lo 43 3 DG w1 qv (xR 16 ⟨0,0,false⟩):=
 ⟨Ap h.pb hg (Br hp h.pb),h.swp.yL hg hp,FE h.low hg hp,h.pgs.yL hg hp⟩
theorem KN.put{n':Nat}(h:KN lo g gk q w l n j m i e c sv lv qv)(Z:Below w.heap.size w w1)(wx:Da w.heap.size w1 m' i' e' c' (EF n')):KN lo g gk q (FG w1 q m' i' e' c') l n' j m' i' e' c' sv lv qv:=by
 have h':=h.below Z;have a6:=Ao w1 q m' i' e' c';obtain⟨k1,k2,k3,k4⟩:=h'.keep h'.kb a6;obtain⟨a,b,c2,d,hg⟩:=h'.gb;refine⟨k1,Cx h'.kb,?_,⟨h.yJ.1,h.yJ.2.1,h.yJ.2.2.1,yB h'.yJ.2.2.2 a6.size⟩,(wx.yL a6 h'.kb).lower h.yJ.2.2.2,k2,k3,k4⟩
 by_cases e:q=gk
 .subst e
  exact⟨_,_,_,_,Cx h'.kb⟩
 .exact⟨a,b,c2,d,Ap hg a6 e⟩
theorem KN.new{n':Nat}(h:KN lo g gk q w l n j m i e c sv lv qv)(Z:Below w.heap.size w w1)(wx:Da w.heap.size w1 m' i' e' c' (EF n')):KN lo g gk w1.heap.size (w1.alloc (.cells #[m',i',e',c'] 28)) l n' j m' i' e' c' sv lv qv:=by have h':=(h.below Z).below (AI w1 (.cells #[m',i',e',c'] 28));exact⟨h'.pb,yi _ _,h'.gb,⟨h.yJ.1,h.yJ.2.1,yB h.yJ.2.2.2 Z.size,h'.yJ.2.2.2⟩,(wx.below (AI _ _)).lower h.yJ.2.2.2,h'.swp,h'.low,h'.pgs⟩
theorem KN.back(h:KN lo g gk q w l n j m i e c sv lv qv):KN lo g gk gk (FG w gk m i e c) l n j m i e c sv lv qv:=by obtain⟨a,b,c2,d,hg⟩:=h.gb;have a6:=Ao w gk m i e c;obtain⟨k1,k2,k3,k4⟩:=h.keep hg a6;exact⟨k1,Cx hg,⟨_,_,_,_,Cx hg⟩,⟨h.yJ.1,h.yJ.2.1,h.yJ.2.1,yB h.yJ.2.2.2 a6.size⟩,h.ker.yL a6 hg,k2,k3,k4⟩
theorem KN.push{B:Nat}{w4 w5:World}{o':Value}{fr:Int}(h:KN lo g gk q w l n j m i e c sv lv qv)(HL:Da B w m i e c (EF n))(hB:lo<=B)(hr:∀b,lv.ownBlock=some b->b<B)(b4:Below w.heap.size w w4)(q1:w5.ownsRow lo 3 1 o' (j+1) ((Lj j).map (xY .i64)++[.int .i64 fr]))(q2:w4.grownBy w5 lv.ownBlock)(du:fr=((j+1:Nat):Int)):
 w5.heap[g]?=some (.cells #[.slice none 0 0,.slice none 0 0,.slice none 0 0,.slice none 0 0,sv,lv,qv,.int .i64 0,.int .i64 l] 32 (0,0))/\KN lo g gk q (w5.setCell ⟨g,5,none⟩ o') l n (j+1) m i e c sv o' qv:=by
 have h4:=h.below b4;have ey:=Do h4.low h4.pb (by decide);have nE:=Do h4.low h4.kb (by decide);obtain⟨a,b,c2,d,hg⟩:=h4.gb;have nF:=Do h4.low hg (by decide);have gf:=(q2.block g (AW h4.pb) (λe=>ey e.symm)).trans h4.pb;have lT:=(q2.block q (AW h4.kb) (λe=>nE e.symm)).trans h4.kb;have lV:=(q2.block gk (AW hg) (λe=>nF e.symm)).trans hg;have gr:=Aq w5 g 5 o';have S6:=(h4.swp.grown q2 (λb Z he=>by obtain⟨E,o1,_⟩:=h4.swp;obtain⟨p5,gH⟩:=A6 o1 b Z;obtain⟨p4,ga⟩:=A6 h4.low b he;rw[gH] at ga;simp at ga)).yL gr gf
 have j0:AF lo w5 o' (Lj (j+1)):=by rw[WZ,<-du];simpa[AF,Si] using q1
 refine⟨gf,⟨?_,Ap lT gr (Br gf lT),⟨a,b,c2,d,Ap lV gr (Br gf lV)⟩,⟨h.yJ.1,h.yJ.2.1,h.yJ.2.2.1,yB h4.yJ.2.2.2 (yB q2.size gr.size)⟩,(((HL.below b4).past q2 hr).lower hB).yL gr gf,S6,FE j0 gr gf,FE (Aw h4.pgs q2 (A8 h4.pgs h4.low (by decide)).ne) gr gf⟩⟩
 .have:=yq w5 g 5 _ _ o' gf
  simpa using this
end
theorem Sk{w:World}{m i e c:Value}{n:Nat}(h:Mu w m i e c (EF n))(hn:n<=15)(kind a b x:Int)(hx:x<=9223372036854775807){v:Int}(hc:Ae (EF n) (Ag kind a b x)=(EF (n+1),v,0)):
 Calls prog 32 #[.agg #[m,i,e,c],.int .i64 kind,.int .i64 a,.int .i64 b,.int .i64 x] w
  (λr w'=>∃m i e c,r=.returned (.tuple #[.agg #[m,i,e,c],.int .i64 v,.bool true])/\Da w.heap.size w' m i e c (EF (n+1))/\Below w.heap.size w w'):=by
 have:=Fd h (ZX n hn) kind a b x hx;rw[hc] at this;exact this
def bU(w:World)(P:AR)(b:Bool)(r:Ending)(w':World):Prop:=∃m i e c s lo q,r=.returned (.tuple #[AN m i e c s lo q P.zR P.zU,.bool b])/\Nr w.heap.size w' m i e c s lo q P/\Below w.heap.size w w'
def Ns(lo:Nat)(v:Value)(w:World)(l:Int):Prop:=∃s lv q,v=.agg #[.slice none 0 0,.slice none 0 0,.slice none 0 0,.slice none 0 0,s,lv,q,.int .i64 0,.int .i64 l]/\OD lo w s/\AF lo w lv []/\AQ lo 43 3 DG w q (xR 16 ⟨0,0,false⟩)
theorem Ns.below{lo:Nat}{w w':World}{l:Int}(h:Ns lo v w l)(Z:Below w.heap.size w w'):Ns lo v w' l:=by obtain⟨s,lv,q,h1,R,h3,h4⟩:=h;exact⟨s,lv,q,h1,R.below Z,h3.below Z,h4.below Z⟩
theorem Nc(l:Int)(w:World)(h1:1<=l)(h6:l<=6):Calls prog 138 #[.int .i64 l] w (bU w (VQ l) true):=by
 obtain⟨N0,b0⟩:=Dd w (.cells #[.slice none 0 0,.slice none 0 0,.slice none 0 0,.slice none 0 0,.slice none 0 0,.slice none 0 0,.slice none 0 0,.int .i64 0,.int .i64 0] 32);go_in;go_wp2_with fail;refine(C8 _ _ _ _).mono ?_;rintro e w' ⟨rfl,rfl⟩;rw[show BZ l 1 6=true from AZ.2 ⟨h1,h6⟩];have eW:=AW N0;generalize w.alloc _=W0 at*;go_wp2_with fail;have lG:=aY W0 ⟨#[97]⟩ ⟨#[98]⟩ ⟨#[99]⟩ 9 72;have bn:=((IA W0 (.cells #[.string ⟨#[97]⟩] 9) (.cells #[.string ⟨#[98]⟩] 9)).trans ((AI _ (.cells #[.string ⟨#[99]⟩] 9)).mono (IA W0 _ _).size));replace bn:=bn.trans ((AI _ (.cells #[.slice (some ⟨W0.heap.size,0,none⟩) 1 1,.slice (some ⟨W0.heap.size+1,0,none⟩) 1 1,.slice (some ⟨W0.heap.size+1+1,0,none⟩) 1 1] 72)).mono bn.size);generalize(((W0.alloc _).alloc _).alloc _).alloc _=w5 at*;refine(LQ _ NR w5 lG rfl QP Rm).mono ?_;rintro e w6 ⟨mk,ik,ek,ck,rfl,O6,b6⟩;rw[VP] at O6;obtain⟨⟨ma,mn,mc,rfl⟩,⟨ia,iN,ic,rfl⟩,⟨ea,en,ec,rfl⟩,⟨qa,qn,qc,rfl⟩⟩:=O6.zQ;obtain⟨N7,b7⟩:=Dd w6 (.cells #[.slice ma mn mc,.slice ia iN ic,.slice ea en ec,.slice qa qn qc] 28);have O7:=(O6.below b7).lower bn.size;have B7:=bn.trans ((b6.trans (b7.mono b6.size)).mono bn.size);have gD:W0.heap.size<=w6.heap.size:=yB bn.size b6.size;go_wp2_with fail;generalize w6.heap.size=gk at N7 gD ⊢;generalize w6.alloc _=W7 at*;have HO:=AA O7;have HB:=AA B7;have HN:=AA N0;have kT:=AA N7;have V:=AA b0;clear lG bn O6 b6 b7 N7 O7 B7 N0 b0;refine BR 6 87 [.z,.z,.z,.i l,.z,.z] (λix vv ww=>match ix with
  |0=>OD W7.heap.size ww vv
  |1=>AF W7.heap.size ww vv []
  |2=>AQ W7.heap.size 43 3 DG ww vv (xR 16 ⟨0,0,false⟩)
  |4=>Ns W7.heap.size vv ww l
  |5=>L5 W7.heap.size vv ww
  |_=>True) ?_ ?_ ?_
 .intro i hi o Y a O V J L HL A
  match i,hi with
  |0,_=>exact sC Y A V J (WV _) (by rintro r w_ ⟨v',E,rfl,hO,az⟩;exact⟨_,rfl,((OD.of hO).lower L.size),az⟩)
  |3,_=>exact sP Y A V J
  |1,_=>obtain rfl:=yF Y;clear J V;refine yE ?_;go_simp;exact A.out _ _ (BU (FF O) L.size) (AI _ _)
  |2,_=>obtain rfl:=yF Y;clear J V;obtain⟨i0,f9,gt,ex,fp⟩:=info_parts Tryz.zj;obtain⟨w9,cp,h3,h4⟩:=run_make_full (P:=prog) O O.heap.size 30 43 i0 _ 3 underlying30 f9 gt ex .i64 .i64 16 (by rw[fp];decide) (by decide) (yv _);have h5:=Below.zu h4;rw[YF] at h3;have iz:(Instr.makeSlice 30 (.int .i64 16) (.int .i64 16)).run prog O=.ok (.slice (some ⟨O.heap.size,0,none⟩) 16 16) w9:=cp;clear f9 gt ex fp cp;refine yE ?_;go_simp;exact A.out _ _ (BU h3 L.size) h5
  |4,_=>obtain rfl:=yF Y;have d0:OD W7.heap.size O (a.tmps[25]?.getD undef):=Ba J 0;have d1:AF W7.heap.size O (a.tmps[26]?.getD undef) []:=Ba J 1;have d2:AQ W7.heap.size 43 3 DG O (a.tmps[27]?.getD undef) (xR 16 ⟨0,0,false⟩):=Ba J 2;have d3:(a.tmps[28]?.getD undef)=.int .i64 l:=Ba J 3;clear J V;generalize e25:a.tmps[25]?.getD undef=s' at d0;generalize e26:a.tmps[26]?.getD undef=l' at d1;generalize e27:a.tmps[27]?.getD undef=q' at d2;have D0:=AA d0;have D1:=AA d1;have D2:=AA d2;obtain⟨_,_,_,rfl⟩:=d0.slice;obtain⟨_,_,rfl,_,_,_⟩:=d1.rd.open;obtain⟨_,_,rfl,_,_⟩:=d2.rd.shape;clear d0 d1 d2;refine yE ?_;go_simp;exact A.out _ _ ⟨_,_,_,rfl,D0.out,D1.out,D2.out⟩ (yD _ _)
  |5,_=>obtain rfl:=yF Y;clear J V;refine yE ?_;go_simp;exact A.out _ _ ⟨_,rfl,L.size,yi _ _⟩ (AI _ _)
 .intro i hi vv wz dc bs hz
  match i,hi with
  |0,_=>exact(OD.below hz bs)
  |1,_=>exact(AF.below hz bs)
  |2,_=>exact(AQ.below hz bs)
  |4,_=>exact(Ns.below hz bs)
  |5,_=>exact(L5.below hz bs)
  |3,_=>exact hz
 .intro E O hR L
  have q4:Ns W7.heap.size (E 4) O l:=BS hR 4;have q5:L5 W7.heap.size (E 5) O:=BS hR 5;clear hR;simp only[Ak,Ah,yC,yy,yz,yx];simp;generalize E 4=z4 at q4 ⊢;generalize E 5=z5 at q5 ⊢;obtain⟨s',l',q',rfl,r1,r0,r2⟩:=q4;obtain⟨g,rfl,j9,fQ⟩:=q5;obtain⟨sa,sn,sc,rfl⟩:=r1.slice;obtain⟨la,ln,lc,rfl⟩:∃a n c,l'=.slice a n c:=by obtain⟨_,_,rfl,_,_,_⟩:=r0.rd.open;exact⟨_,_,_,rfl⟩
  obtain⟨pa,pn,pc,rfl⟩:∃a n c,q'=.slice a n c:=by obtain⟨_,_,rfl,_,_⟩:=r2.rd.shape;exact⟨_,_,_,rfl⟩
  obtain⟨H,N,X,D,x4,x5,x6,x7,x8⟩:=AD fQ;have fz:=AK fQ;go_step;go_simp;have a6:=EY (w:=O) (g:=g) (b0:=.slice none 0 0) (b1:=.slice none 0 0) (b2:=.slice none 0 0) (b3:=.slice none 0 0) (b4:=.slice sa sn sc) (b5:=.slice la ln lc) (b6:=.slice pa pn pc) (b7:=.int .i64 0) (b8:=.int .i64 l);have N8:=F5 (b0:=.slice none 0 0) (b1:=.slice none 0 0) (b2:=.slice none 0 0) (b3:=.slice none 0 0) (b4:=.slice sa sn sc) (b5:=.slice la ln lc) (b6:=.slice pa pn pc) (b7:=.int .i64 0) (b8:=.int .i64 l) fQ;have K8:=Ap (AB kT.out L) a6 (Br fQ (AB kT.out L));have I8:KN W0.heap.size g gk gk _ l 0 0 _ _ _ _ _ _ _:=⟨N8,K8,⟨_,_,_,_,K8⟩,⟨yB HB.out.size j9,gD,gD,yB HB.out.size (yB L.size a6.size)⟩,(HO.out.below L).yL a6 fQ,(r1.lower HB.out.size).yL a6 fQ,FE (BU r0 HB.out.size) a6 fQ,AQ.yL (BU r2 HB.out.size) a6 fQ⟩;have B8:=AM (HB.out.trans (L.mono HB.out.size)) a6 (yB HB.out.size j9) (yB HB.out.size L.size);clear r0 r1 r2 N8 K8 a6 H N X D x4 x5 x6 x7 x8 fz fQ j9 L HO HB kT;unfold Dy at I8 B8;generalize((((((((O.setCell _ _).setCell _ _).setCell _ _).setCell _ _).setCell _ _).setCell _ _).setCell _ _).setCell _ _).setCell _ _=W8 at*;replace I8:=AA I8;replace B8:=AA B8;obtain⟨k0,k1,k2,k3⟩:=AE I8.out.kb;have C:=Sk (n:=0) I8.out.ker.rd (by omega) 1 0 0 0 (by decide) aT;go_wp2_with fail;refine C.mono ?_;rintro r w9 ⟨m9,i9,e9,c9,rfl,O9,b9⟩;have I9:=AA (I8.out.put b9 O9);have B9:=AA (AM (B8.out.trans (b9.mono I8.out.yJ.2.2.2)) (Ao w9 gk m9 i9 e9 c9) I8.out.yJ.2.1 (yB I8.out.yJ.2.2.2 b9.size));have kf:=AK (I8.out.below b9).kb;obtain⟨k0,k1,k2,k3⟩:=AE (I8.out.below b9).kb;obtain⟨⟨ua,un,uc,rfl⟩,⟨va,vn,vc,rfl⟩,⟨ya,yn,yc,rfl⟩,⟨za,zn,zc,rfl⟩⟩:=O9.zQ;unfold FG at I9;generalize hW9:(((w9.setCell _ _).setCell _ _).setCell _ _).setCell _ _=W9 at I9 B9;obtain⟨n0,n1,n2,n3⟩:=AE I9.out.kb;clear O9 b9 I8 B8 C;go_wp2_with fail;clear k0 k1 k2 k3 kf;have C:=Sk (n:=1) I9.out.ker.rd (by omega) 4 0 3 0 (by decide) aR;refine C.mono ?_;rintro r eF ⟨np,ns,fS,oC,rfl,h7,hM⟩;have ff:=AA (I9.out.put hM h7);have ig:=AA (AM (B9.out.trans (hM.mono I9.out.yJ.2.2.2)) (Ao eF gk np ns fS oC) I9.out.yJ.2.1 (yB I9.out.yJ.2.2.2 hM.size));have kf:=AK (I9.out.below hM).kb;obtain⟨k0,k1,k2,k3⟩:=AE (I9.out.below hM).kb;obtain⟨⟨ua,un,uc,rfl⟩,⟨va,vn,vc,rfl⟩,⟨ya,yn,yc,rfl⟩,⟨za,zn,zc,rfl⟩⟩:=h7.zQ;unfold FG at ff;generalize hW10:(((eF.setCell _ _).setCell _ _).setCell _ _).setCell _ _=W10 at ff ig;obtain⟨n0,n1,n2,n3⟩:=AE ff.out.kb;clear h7 hM I9 B9 C;go_wp2_with fail;clear k0 k1 k2 k3 kf;clear n0 n1 n2 n3;have C:=Sk (n:=2) ff.out.ker.rd (by omega) 7 0 0 0 (by decide) ZY
  refine C.mono ?_;rintro r fW ⟨nn,nq,jz,oB,rfl,kL,hJ⟩;have i5:=AA (ff.out.put hJ kL);have lh:=AA (AM (ig.out.trans (hJ.mono ff.out.yJ.2.2.2)) (Ao fW gk nn nq jz oB) ff.out.yJ.2.1 (yB ff.out.yJ.2.2.2 hJ.size));have kf:=AK (ff.out.below hJ).kb;obtain⟨k0,k1,k2,k3⟩:=AE (ff.out.below hJ).kb;obtain⟨⟨ua,un,uc,rfl⟩,⟨va,vn,vc,rfl⟩,⟨ya,yn,yc,rfl⟩,⟨za,zn,zc,rfl⟩⟩:=kL.zQ;unfold FG at i5;generalize hW11:(((fW.setCell _ _).setCell _ _).setCell _ _).setCell _ _=W11 at i5 lh;obtain⟨n0,n1,n2,n3⟩:=AE i5.out.kb;clear kL hJ ff ig C;go_wp2_with fail;clear k0 k1 k2 k3 kf;go_wp2_with fail;go_loopw [9,10,11,12] (λix _ _ _ wr=>∃k:Nat,k<=4/\ix=.int .i64 k/\∃m i e c la ln lc,KN W0.heap.size g gk gk wr l (3*k+3) k m i e c (.slice sa sn sc) (.slice la ln lc) (.slice pa pn pc)/\Below W0.heap.size W0 wr) (λix _ _ _ _=>4 - (intOf ix).toNat)
  exact⟨0,by omega,rfl,_,_,_,_,_,_,_,i5.out,lh.out⟩
  clear i5 lh;obtain⟨k,hk,rfl,mv,iv,ev,cv,la,ln,lc,I0,B0⟩:=hrel;replace I0:=AA I0;replace B0:=AA B0
  by_cases bf:k<4
  .obtain⟨fr,du⟩:∃fr:Int,fr=((k+1:Nat):Int):=⟨_,rfl⟩
   have T1:=ZZ k bf;have T2:=aQ k bf;have T3:=aS k bf;rw[<-du] at T1 T2 T3;have g8:0<=fr/\fr<=11:=by omega
   have oU:=AA du;clear du;have k4:(k:Int)<4:=by omega
   obtain⟨⟨ka,kn,kc,kG⟩,⟨ja,jn,jc,kF⟩,⟨fa,fn,fc,kE⟩,⟨ra,rn,rc,kD⟩⟩:=I0.out.ker.zQ;subst kG kF kE kD;obtain⟨k0,k1,k2,k3⟩:=AE I0.out.kb;have C:=Sk (n:=3*k+3) I0.out.ker.rd (by omega) 1 0 0 0 (by decide) T1;go_wp2_with fail;refine C.mono ?_;rintro r w1 ⟨m1,i1,e1,c1,rfl,O1,b1⟩;have I1:=AA (I0.out.new b1 O1);have B1:=AA (B0.out.trans ((b1.trans ((AI w1 (.cells #[m1,i1,e1,c1] 28)).mono b1.size)).mono I0.out.yJ.2.2.2));obtain⟨⟨ua,un,uc,rfl⟩,⟨va,vn,vc,rfl⟩,⟨ya,yn,yc,rfl⟩,⟨za,zn,zc,rfl⟩⟩:=O1.zQ;clear O1 b1 C k0 k1 k2 k3 I0 B0;obtain⟨k0,k1,k2,k3⟩:=AE I1.out.kb;go_wp2_with fail;clear k0 k1 k2 k3;obtain⟨q1,fu⟩:∃q1,q1=w1.heap.size:=⟨_,rfl⟩
   rw[<-fu] at I1 ⊢;clear fu;generalize w1.alloc _=W1 at*;have C:=Sk (n:=3*k+4) I1.out.ker.rd (by omega) 4 fr 2 0 (by decide) T2;refine C.mono ?_;rintro r w2 ⟨m2,i2,e2,c2,rfl,O2,b2⟩;have I2:=AA (I1.out.put b2 O2);have B2:=AA (AM (B1.out.trans (b2.mono I1.out.yJ.2.2.2)) (Ao w2 q1 m2 i2 e2 c2) I1.out.yJ.2.2.1 (yB I1.out.yJ.2.2.2 b2.size));have kf:=AK (I1.out.below b2).kb;obtain⟨k0,k1,k2,k3⟩:=AE (I1.out.below b2).kb;obtain⟨⟨ua,un,uc,rfl⟩,⟨va,vn,vc,rfl⟩,⟨ya,yn,yc,rfl⟩,⟨za,zn,zc,rfl⟩⟩:=O2.zQ;unfold FG at I2;generalize hW2:(((w2.setCell _ _).setCell _ _).setCell _ _).setCell _ _=W2 at I2 B2;obtain⟨n0,n1,n2,n3⟩:=AE I2.out.kb;clear O2 b2 I1 B1 C;go_wp2_with fail;clear k0 k1 k2 k3 kf;have eN:=I2.out.kb;have g0:=AW eN;have he:IB fr<=9223372036854775807:=by unfold IB;omega
   have CP:=AA (λW=>MD fr W g8.1 g8.2);generalize IB fr=en_ at T3 he CP;have RK:=I2.out.ker.rd;have CM:=AA (λW (hW:Below W2.heap.size W2 W)=>Sk (n:=3*k+5) (RK.below hW) (by omega) 6 0 (k:Int) en_ he T3);clear T1 T2 T3 RK;refine Co 11 87 (λix=>ix==10) [.a #[.slice ua un uc,.slice va vn vc,.slice ya yn yc,.slice za zn zc],.i 0,.i ((k:Int)),.i fr,.i en_,.z,.z,.z,.i 0,.b true,.z] (λll ix vv ww=>match ix with
    |5|6=>Ew W2.heap.size vv ww (EF (3*k+6)) 0 true
    |7=>Gl W2.heap.size vv ww (EF (3*k+6))
    |_=>True) (λll ww=>GB W2 (q1) (EF (3*k+6)) (ll 10) ww) ?_ ?_ ?_ ?_ ?_ ?_
   .exact Av (yD _ _) 1
   .intro j hj ll i vv wz dc hi hS fC jy bs hz
    match j,hj with
    |5,_|6,_=>exact(Ew.below hz bs)
    |7,_=>exact(Gl.below hz bs)
    |0,_|1,_|2,_|3,_|4,_|8,_|9,_|10,_=>exact hz
   .intro ll i wz dc hi hS fC bs hg
    show GB _ _ _ (GU ll i 10) _
    rw[EB (by rintro rfl;cases hS)];exact GB.grow hg bs
   .intro i hi hS o Y a O V ll J K L HL A
    match i,hi,hS with
    |0,_,_=>have ji:=A9 K 10;have bt:=(show O.cell? ⟨q1,0,none⟩=some (.slice ua un uc) from GB.cell L (by cases hx:ll 10 with|false=>rfl|true=>exact absurd (K.out.2.2 5 0 (K.out.2.2 6 5 (K.out.2.2 7 6 (K.out.2.2 10 7 (hx) (by kernel_rfl)) (by kernel_rfl)) (by kernel_rfl)) (by kernel_rfl)) (by rw[K.out.1];decide)) g0 n0);have bp:=(show O.cell? ⟨q1,1,none⟩=some (.slice va vn vc) from GB.cell L (by cases hx:ll 10 with|false=>rfl|true=>exact absurd (K.out.2.2 5 0 (K.out.2.2 6 5 (K.out.2.2 7 6 (K.out.2.2 10 7 (hx) (by kernel_rfl)) (by kernel_rfl)) (by kernel_rfl)) (by kernel_rfl)) (by rw[K.out.1];decide)) g0 n1);have bw:=(show O.cell? ⟨q1,2,none⟩=some (.slice ya yn yc) from GB.cell L (by cases hx:ll 10 with|false=>rfl|true=>exact absurd (K.out.2.2 5 0 (K.out.2.2 6 5 (K.out.2.2 7 6 (K.out.2.2 10 7 (hx) (by kernel_rfl)) (by kernel_rfl)) (by kernel_rfl)) (by kernel_rfl)) (by rw[K.out.1];decide)) g0 n2);have bK:=(show O.cell? ⟨q1,3,none⟩=some (.slice za zn zc) from GB.cell L (by cases hx:ll 10 with|false=>rfl|true=>exact absurd (K.out.2.2 5 0 (K.out.2.2 6 5 (K.out.2.2 7 6 (K.out.2.2 10 7 (hx) (by kernel_rfl)) (by kernel_rfl)) (by kernel_rfl)) (by kernel_rfl)) (by rw[K.out.1];decide)) g0 n3);exact JM Y A V J K (hl:=OM ‹_› ‹_› ‹_› ‹_›)
    |1,_,_|2,_,_|3,_,_=>exact Rb Y A V J K
    |10,_,hs=>cases hs
    |4,_,_=>obtain rfl:=yF Y;have d3:(a.tmps[71]?.getD undef)=.int .i64 fr:=Cw J K 3;have ji:=A9 K 10;clear J V;refine yE ?_;go_simp;refine(CP.out _).mono ?_;rintro r w_ ⟨rfl,az⟩;exact A.out _ _ rfl az
    |5,_,_=>
     obtain rfl:=yF Y;have d0:(a.tmps[68]?.getD undef)=.agg #[.slice ua un uc,.slice va vn vc,.slice ya yn yc,.slice za zn zc]:=Cw J K 0;have d1:(a.tmps[69]?.getD undef)=.int .i64 0:=Cw J K 1;have d2:(a.tmps[70]?.getD undef)=.int .i64 k:=Cw J K 2;have d4:(a.tmps[72]?.getD undef)=.int .i64 en_:=Cw J K 4;have ji:=A9 K 10;clear J V;refine yE ?_;go_simp;have lU:Below W2.heap.size W2 O:=by
      rw[show ll 10=false from(by cases hx:ll 10 with|false=>rfl|true=>exact absurd (K.out.2.2 6 5 (K.out.2.2 7 6 (K.out.2.2 10 7 (hx) (by kernel_rfl)) (by kernel_rfl)) (by kernel_rfl)) (by rw[K.out.1];decide))] at L;exact L
     refine(CM.out _ lU).mono ?_;rintro r w_ ⟨m',i',e',c',rfl,hO,az⟩;exact A.out _ _ ⟨m',i',e',c',rfl,hO.lower lU.size⟩ az
    |6,_,_=>obtain rfl:=yF Y;have d5:Ew W2.heap.size (a.tmps[73]?.getD undef) O (EF (3*k+6)) 0 true:=Cw J K 5;have ji:=A9 K 10;clear J V;refine yE ?_;go_simp;exact A.out _ _ d5 (yD _ _)
    |7,_,_=>obtain rfl:=yF Y;have d6:Ew W2.heap.size (a.tmps[67]?.getD undef) O (EF (3*k+6)) 0 true:=Cw J K 6;have ji:=A9 K 10;clear J V;obtain⟨m',i',e',c',d6,hO⟩:=d6;refine yE ?_;go_simp;exact A.out _ _ ⟨_,_,_,_,rfl,hO⟩ (yD _ _)
    |8,_,_=>obtain rfl:=yF Y;have d6:Ew W2.heap.size (a.tmps[67]?.getD undef) O (EF (3*k+6)) 0 true:=Cw J K 6;clear J V;obtain⟨m',i',e',c',d6,hO⟩:=d6;refine yE ?_;go_simp;exact A.out _ _ rfl (yD _ _)
    |9,_,_=>obtain rfl:=yF Y;have d6:Ew W2.heap.size (a.tmps[67]?.getD undef) O (EF (3*k+6)) 0 true:=Cw J K 6;clear J V;obtain⟨m',i',e',c',d6,hO⟩:=d6;refine yE ?_;go_simp;exact A.out _ _ rfl (yD _ _)
   .intro i hi hS o Y a O V ll J K L HL A
    match i,hi,hS with
    |0,_,hs|1,_,hs|2,_,hs|3,_,hs|4,_,hs|5,_,hs|6,_,hs|7,_,hs|8,_,hs|9,_,hs=>cases hs
    |10,_,_=>
     obtain rfl:=yF Y;have fS:a.tmps[10]?.getD undef=.pointer (some ⟨q1,0,none⟩):=eg (PI V 10);have d7:Gl W2.heap.size (a.tmps[74]?.getD undef) O (EF (3*k+6)):=Cw J K 7;clear J V;rw[K.out.1] at L;replace L:Below W2.heap.size W2 O:=L;obtain⟨m',i',e',c',d7,hO⟩:=d7;obtain⟨⟨va,vn,vc,rfl⟩,⟨wa,wn,wc,rfl⟩,⟨xa,xn,xc,rfl⟩,⟨ya,yn,yc,rfl⟩⟩:=hO.zQ;have da:=AB eN L;obtain⟨c0,hH,c2,c3⟩:=AE da;have fq:=AK da;have a6:=AA (Ao O (q1) (.slice va vn vc) (.slice wa wn wc) (.slice xa xn xc) (.slice ya yn yc));have Hq:=AA da;have HO:=AA hO;clear da hO;refine yE ?_;go_simp;exact A.out undef _ trivial (by show GB _ _ _ (GU ll 10 10) _;rw[FN];exact⟨O,_,_,_,_,L,HO.out,yD _ _⟩) (λj dm dQ dd hu=>match j,dQ with
      |0,_|1,_|2,_|3,_|4,_|8,_|9,_=>hu
      |5,_|6,_=>Ew.yL hu a6.out Hq.out
      |7,_=>Gl.yL hu a6.out Hq.out
      |10,_=>absurd rfl dm)
   .intro E O ll cl hR L
    have q8:(E 8)=.int .i64 0:=BS hR 8;clear hR;simp only[Cn,BQ,yC,yy,yz,yx,q8];simp;clear q8;rw[cl 10 (by decide)] at L;obtain⟨wz,m3,i3,e3,c3,ex,hO,fp⟩:=L;have fH:Below (FG wz q1 m3 i3 e3 c3).heap.size (FG wz q1 m3 i3 e3 c3) O:=by simpa[FG] using fp
    have I3:=(I2.out.put ex hO).below fH;have K3:=(hO.yL (Ao wz q1 m3 i3 e3 c3) (AB eN ex)).below fH;have B3:=B2.out.trans ((AM (ex.mono I2.out.yJ.2.2.2) (Ao wz q1 m3 i3 e3 c3) I2.out.yJ.2.2.1 (yB I2.out.yJ.2.2.2 ex.size):Below W0.heap.size W2 _).trans (fH.mono (yB I2.out.yJ.2.2.2 (yB ex.size (Ao wz q1 m3 i3 e3 c3).size))));have iI:∀b,(Value.slice la ln lc).ownBlock=some b->b<W2.heap.size:=λb Z=>(yk I2.out.low b Z).2
    have ol:=I2.out.yJ.2.2.2;clear cl ex fp fH hO eN g0 n0 n1 n2 n3 CM CP;have lA:=Si k;have HP:=AA (λw4 w5 o' (b4:Below O.heap.size O w4) q1 (q2:w4.grownBy w5 (Value.slice la ln lc).ownBlock)=>KN.push (o':=o') (w5:=w5) I3 K3 ol iI b4 q1 q2 oU.out);obtain⟨_,_,_,_,_,c5,_⟩:=AD I3.pb;have f5:=AK I3.pb;have b4:=AI O (.cells #[.int .i64 fr] 3);have f4:(O.alloc (.cells #[.int .i64 fr] 3)).ownsRow W0.heap.size 3 1 (.slice la ln lc) k ((Lj k).map (xY .i64)):=by have:=AF.below I3.low b4;unfold AF at this;rwa [lA] at this
    have nK:ln=k:=by obtain⟨_,_,hv,_⟩:=I3.low.rd.open;simp only[xH] at hv;rw[lA] at hv;exact hv.2.1
    subst nK;have L4:=yB I3.yJ.2.2.2 b4.size;have HI:=AA (xU B3 (xU b4 L4));have j7:=AA I3.yJ.1;have oj:=I3.yJ.2.2.2;clear I3 I2 K3 B3 B2 iI;go_wp2_with (at_builtin;go_must (refine Bg (lo:=W0.heap.size) (n:=ln) (xs:=(Lj ln).map (xY .i64)) (m:=1) (news:=[.int .i64 fr]) rfl rfl 3 (.int .i64 0) 1 8 underlying29 Tryz.zI rfl (by decide) rfl f4 rfl (Rd.zC _ #[_] _ 1 1 _ (by simp) rfl (by simp[maxLen])) (by simp[xG]) (by unfold maxLen;omega) (by omega) L4 ?_;intro o' w5 jJ ls nf lq;obtain⟨oa,on,oc,rfl⟩:=MH jJ;have x2:=HP.out _ _ _ HI.out.2.1 jJ ls;have f6:=AK x2.1;have c6:=ym _ _ 5 _ _ _ x2.1;have HX:=AA x2.2;have HQ:=AA lq;obtain⟨k0,k1,k2,k3⟩:=AE HX.out.kb;obtain⟨xa,xb,xc,xd,g5⟩:=HX.out.gb;obtain⟨v0,v1,v2,v3⟩:=AE g5;have pX:=AK g5;obtain⟨⟨m5,mT,mX,rfl⟩,⟨m0,mS,mW,rfl⟩,⟨mZ,mR,mV,rfl⟩,⟨mY,mQ,mU,rfl⟩⟩:=HX.out.ker.zQ;clear x2 jJ ls nf lq f4 g5));have B5:=AA (AM (HI.out.1.trans ((HI.out.2.1.mono oj).trans HQ.out)) (Aq w5 g 5 (.slice oa on oc)) j7.out (yB HI.out.2.2 HQ.out.size));have I6:=HX.out.back;have B6:=AM B5.out (Ao _ gk (.slice m5 mT mX) (.slice m0 mS mW) (.slice mZ mR mV) (.slice mY mQ mU)) HX.out.yJ.2.1 HX.out.yJ.2.2.2;go_roundw;exact⟨ln+1,by omega,by go_num,_,_,_,_,_,_,_,I6,B6⟩;simp[intOf];omega
  .obtain rfl:k=4:=by omega
   obtain⟨⟨ka,kn,kc,kG⟩,⟨ja,jn,jc,kF⟩,⟨fa,fn,fc,kE⟩,⟨ra,rn,rc,kD⟩⟩:=I0.out.ker.zQ;subst kG kF kE kD;obtain⟨k0,k1,k2,k3⟩:=AE I0.out.kb;have fY:=I0.out.pb;have a6:=Ao wr g (.slice ka kn kc) (.slice ja jn jc) (.slice fa fn fc) (.slice ra rn rc);have N1:=Jm (m':=.slice ka kn kc) (i':=.slice ja jn jc) (e':=.slice fa fn fc) (c':=.slice ra rn rc) fY;have jG:=(B0.out.block w.heap.size eW).trans HN.out;have ed:=Ap jG a6 (by have:=I0.out.yJ.1;omega);obtain⟨H,N,X,D,x4,x5,x6,x7,x8⟩:=AD fY;have fz:=AK fY;obtain⟨z0,z1,z2,z3,z4,z5,z6,z7,z8⟩:=AD N1;obtain⟨y0,y1,y2,y3,y4,y5,y6,y7,y8⟩:=AD ed;have fy:=AK ed;have eO:=EY (w:=((((wr.setCell ⟨g,0,none⟩ (.slice ka kn kc)).setCell ⟨g,1,none⟩ (.slice ja jn jc)).setCell ⟨g,2,none⟩ (.slice fa fn fc)).setCell ⟨g,3,none⟩ (.slice ra rn rc))) (g:=w.heap.size) (b0:=.slice ka kn kc) (b1:=.slice ja jn jc) (b2:=.slice fa fn fc) (b3:=.slice ra rn rc) (b4:=.slice sa sn sc) (b5:=.slice la ln lc) (b6:=.slice pa pn pc) (b7:=.int .i64 0) (b8:=.int .i64 l);have NN:=F5 (b0:=.slice ka kn kc) (b1:=.slice ja jn jc) (b2:=.slice fa fn fc) (b3:=.slice ra rn rc) (b4:=.slice sa sn sc) (b5:=.slice la ln lc) (b6:=.slice pa pn pc) (b7:=.int .i64 0) (b8:=.int .i64 l) ed;have RK:=(((I0.out.ker.yL a6 fY).yL eO ed).sf);have RS:=((I0.out.swp.yL a6 fY).yL eO ed).sf;have RL:AF _ _ _ _:=FE (FE I0.out.low a6 fY (by decide)) eO ed;have RQ:=AQ.yL (AQ.yL I0.out.pgs a6 fY (by decide)) eO ed;have RP:=AA (show Nr w.heap.size _ (.slice ka kn kc) (.slice ja jn jc) (.slice fa fn fc) (.slice ra rn rc) (.slice sa sn sc) (.slice la ln lc) (.slice pa pn pc) (VQ l) from Nr.map (lo:=W0.heap.size) ⟨by have:=RK;rw[show 3*4+3=15 from rfl,Wd] at this;exact this,RS,RL,RQ⟩ (λ_ _ _ _ _ _ _ h=>BU h (Nat.le_of_lt eW)));have BF:=AA (AM (AM (V.out.trans (B0.out.mono V.out.size)) a6 (by have:=I0.out.yJ.1;omega) (yB (yB V.out.size (yv _)) I0.out.yJ.2.2.2)) eO (yv _) (yB (yB V.out.size I0.out.yJ.2.2.2) a6.size));have HE:=AA (AD NN);clear RK RS RL RQ eO NN a6 N1 jG ed fY I0 B0;rw[show((4:Nat):Int)=4 from rfl];go_wp2_with fail;obtain⟨E0,E1,E2,E3,E4,E5,E6,E7,E8⟩:=HE.out;unfold Dy at E0 E1 E2 E3 E4 E5 E6 E7 E8;exact yr (v:=.tuple #[.agg #[_,_,_,_,_,_,_,_,_],_]) (by simp[results,Tryz.results138,go_sem,E0,E1,E2,E3,E4,E5,E6,E7,E8];exact⟨rfl,rfl⟩) rfl ⟨_,_,_,_,_,_,_,rfl,RP.out,BF.out⟩
theorem UM(v:Value)(s:List (List Int))(sl:Int)(w:World)(h:Bk w v s)(hs:FM s=true):Calls prog 82 #[v,.int .i64 sl] w λe w'=>(∃v',e=.returned (.tuple #[v',.bool (BZ sl 0 15&&!(AG s sl.toNat).isEmpty)]))/\Below w.heap.size w w':=by
 have CV:=IG v s w h;rw[hs] at CV;have Hl:=AA (GT.1 hs).1;have oL:=AA (GT.1 hs).2;obtain⟨ao,c,rfl,hc,_,x0⟩:=h.open;have CV:=AA CV;have HH:=AA x0;generalize hbb:(BZ sl 0 15&&!(AG s sl.toNat).isEmpty)=bb;have gP:=AA hbb;clear h x0 hs hbb;go_in;go_wp2_with fail;refine CV.out.mono ?_;rintro r w1 ⟨rfl,b1⟩;go_wp2_with fail;refine(C8 _ _ _ _).mono ?_;rintro r w2 ⟨rfl,rfl⟩;cases dx:BZ sl 0 15
 .obtain rfl:bb=false:=by rw[<-gP.out,dx];rfl
  clear dx gP;go_wp2_with fail;exact yr (v:=.tuple #[.slice (some ⟨w1.heap.size,0,none⟩) 0 0,.bool false]) (by simp[results,tK,go_sem]) rfl ⟨⟨_,rfl⟩,b1.trans ((AI _ _).mono b1.size)⟩
 .have ab:=AZ.1 dx
  obtain⟨n,rfl⟩:∃n:Nat,sl=(n:Int):=⟨sl.toNat,by omega⟩
  have jX:n<16:=by omega
  have pK:(n:Int)<s.length:=by have:=Hl.out;omega
  obtain⟨b,bB,u,rfl,fx,x3,hr⟩:=(HH.out.below b1) n (by have:=Hl.out;omega);obtain⟨au,cu,rfl,_,_,_⟩:=hr.open;rw[yd,dx,wt] at gP
  by_cases he:(AG s n).length=0
  .have t0:(((AG s n).length:Int)==0)=true:=by simp[he]
   obtain rfl:bb=false:=by rw[<-gP.out,tR.2 (xM he)];rfl
   clear hr he dx gP ab;go_wp2_with fail;exact yr (v:=.tuple #[.slice (some ⟨w1.heap.size,0,none⟩) 0 0,.bool false]) (by simp[results,tK,go_sem]) rfl ⟨⟨_,rfl⟩,b1.trans ((AI _ _).mono b1.size)⟩
  .have t0:(((AG s n).length:Int)==0)=false:=beq_eq_false_iff_ne.2 (by omega)
   obtain rfl:bb=true:=by rw[<-gP.out];cases hx:AG s n;rw[hx] at he;exact absurd rfl he;rfl
   have iC:(AG s n).length<=4:=by
    rcases oL.out n jX with h0|h0
    .rw[h0];simp
    .exact Nat.le_of_eq (A4.1 h0).1
   have HR:=AA (Ax.below hr (AI w1 (.cells #[] 3)));have D':=((AI w1 (.cells #[] 3)).cell (yA _ _ x3)).trans x3;have lW:=AA b1;clear he dx hr gP ab;go_wp2_with (at_builtin;refine No rfl rfl underlying29 rfl (FF w1) rfl HR.out (by omega) (AI w1 (.cells #[] 3)).size ?_;intro u' w9 hu dk;have oV:=AA dk;clear hu dk);exact yr (v:=.tuple #[_,.bool true]) (by simp[results,tK,go_sem];rfl) rfl ⟨⟨_,rfl⟩,lW.out.trans (((AI w1 (.cells #[] 3)).trans oV.out).mono lW.out.size)⟩
structure cQ(P:AR):Prop where
 k:Cr P.zV=true
 s:FM P.swap=true
 ll:P.low.length=4
 lr:∀i,i<4->0<=BO P.low i/\BO P.low i<=11
 pl:P.zY.length=16
theorem We(xs:List Bo):∀u∈Cc DG xs,u.oneCell'=true:=by
 intro u hu;obtain⟨s,_,hs⟩:=List.mem_flatMap.1 hu;simp[DG] at hs
 rcases hs with rfl|rfl|rfl<;>rfl
theorem Lg(mv iv ev cv sv lv qv:Value)(P:AR)(w:World)(h:Jy w mv iv ev cv sv lv qv P)(hP:Du P):
 Calls prog 50 #[AN mv iv ev cv sv lv qv P.zR P.zU] w (PR w P):=by
 unfold AN PR;obtain⟨N0,N1,av,ds⟩:=Jz w (.cells #[mv,iv,ev,cv,sv,lv,qv,.int .i64 P.zR,.int .i64 P.zU] 32) ((.cells #[.slice none 0 0,.slice none 0 0,.slice none 0 0,.slice none 0 0,.slice none 0 0,.slice none 0 0,.slice none 0 0,.int .i64 0,.int .i64 0] 32));have HR:=AA h;have gX:=AA (VR hP);have nL:=AA hP.zt;have iD:=AA hP.zO;have CK:=AA (Ld mv iv ev cv P.zV _ (h.1.below av) hP.k);obtain⟨H,N,X,D,_⟩:=AD N0;have mh:=AA ds;clear h hP ds;go_in;go_wp2_with fail;generalize(w.alloc _).alloc _=W0 at*;refine CK.out.mono ?_;rintro r w1 ⟨m1,i1,e1,c1,rfl,O1,b1⟩;obtain⟨⟨ma,mn,mc,rfl⟩,⟨ia,iN,ic,rfl⟩,⟨ea,en,ec,rfl⟩,⟨ka,kn,kc,rfl⟩⟩:=O1.zQ;have B1:=AB N0 b1;have R1:=AB N1 b1;have f1:=AK B1;obtain⟨y0,y1,y2,y3,_⟩:=AD B1;have B2:=Jm (m':=.slice ma mn mc) (i':=.slice ia iN ic) (e':=.slice ea en ec) (c':=.slice ka kn kc) B1;have G2:=Ao w1 w.heap.size (.slice ma mn mc) (.slice ia iN ic) (.slice ea en ec) (.slice ka kn kc);have b2:=AM (av.trans (b1.mono av.size)) G2 (yv _) (yB av.size b1.size);have lz:=yB av.size (yv W0.heap.size);generalize hW2:(((w1.setCell _ _).setCell _ _).setCell _ _).setCell _ _=W2 at B2 G2 b2;obtain⟨_,_,_,_,c4,_⟩:=AD B2;have fk:=AA (xU B1 R1);have jG:=AA B2;have mE:=AA G2;have i8:=AA b2;have mD:=AA (O1.lower av.size);have oQ:=AA lz;clear H N X D N0 N1 b1 O1 B1 R1 B2 G2 b2 av CK lz;go_wp2_with fail;clear y0 y1 y2 y3 f1 c4;refine(Mo sv P.swap W2 (HR.out.2.1.below i8.out) (by have:=gX.out.1;omega) (λf hf=>by have h1:=gX.out.1;have:=gX.out.2 f (by omega);omega)).mono ?_;rintro r w3 ⟨v3,E,rfl,O3,b3⟩;obtain⟨sa,sn,sc,rfl⟩:∃a n c,v3=.slice a n c:=by obtain⟨_,_,rfl,_,_⟩:=O3.1.rd.shape;exact⟨_,_,_,rfl⟩
 have B3:=AB jG.out b3;have f3:=AK B3;obtain⟨_,_,_,_,y4,_⟩:=AD B3;have G4:=Aq w3 w.heap.size 4 (.slice sa sn sc);have B4:=yq w3 w.heap.size 4 _ 32 (.slice sa sn sc) B3;have b4:=AM (i8.out.trans (b3.mono i8.out.size)) G4 (yv _) (yB i8.out.size b3.size);generalize hW4:w3.setCell _ _=W4 at B4 G4 b4;replace B4:W4.heap[w.heap.size]?=some (.cells #[.slice ma mn mc,.slice ia iN ic,.slice ea en ec,.slice ka kn kc,.slice sa sn sc,lv,qv,.int .i64 P.zR,.int .i64 P.zU] 32 (0,0)):=by simpa using B4
 obtain⟨_,_,_,_,_,c5,_⟩:=AD B4;have ed:=AA B3;have fE:=AA B4;have pi:=AA G4;have jD:=AA b4;have mC:=AA O3;have gQ:=AA b3;have RL:=AA (Ax.below HR.out.2.2.1 (b4.trans ((AI W4 (.cells #[] 3)).mono b4.size)));have oA:=((AI W4 (.cells #[] 3)).cell (yA _ _ c5)).trans c5;clear B3 B4 G4 b4 O3 b3;go_wp2_with (first|(at_builtin;refine No rfl rfl underlying29 rfl (FF W4) rfl RL.out (by have:=nL.out;omega) (AI W4 (.cells #[] 3)).size ?_;intro u5 w5 hu dg;obtain⟨la,ip,rfl,_⟩:=(AF.rd hu).open;have b5:=(AI W4 (.cells #[] 3)).trans dg;have B5:=AB fE.out b5;have f5:=AK B5;obtain⟨_,_,_,_,_,y5,_⟩:=AD B5;have G6:=Aq w5 w.heap.size 5 (.slice la P.low.length ip);have B6:=yq w5 w.heap.size 5 _ 32 (.slice la P.low.length ip) B5;have b6:=AM (jD.out.trans (b5.mono jD.out.size)) G6 (yv _) (yB jD.out.size b5.size);generalize hW6:w5.setCell _ _=W6 at B6 G6 b6;replace B6:W6.heap[w.heap.size]?=some (.cells #[.slice ma mn mc,.slice ia iN ic,.slice ea en ec,.slice ka kn kc,.slice sa sn sc,.slice la P.low.length ip,qv,.int .i64 P.zR,.int .i64 P.zU] 32 (0,0)):=(by simpa using B6);obtain⟨_,_,_,_,_,_,c6,_⟩:=AD B6;have oz:=((AI W6 (.cells #[] 43)).cell (yA _ _ c6)).trans c6;have HU:=AA hu;have po:=AA B5;have pm:=AA B6;have ph:=AA G6;have fT:=AA b5;have h9:=AA b6;have RQ:=AA (BK.below HR.out.2.2.2 (h9.out.trans ((AI W6 (.cells #[] 43)).mono h9.out.size)));clear hu dg b5 B5 G6 B6 b6 c5 oA y4 f3)|(at_builtin;go_must (refine Fb (cs:=DG) rfl rfl 43 (.agg #[.int .i64 0,.int .i64 0,.bool false]) 3 24 underlying30 Tryz.zj rfl (by decide) rfl (CU DG W6 _ _) rfl RQ.out (We _) (by have:=iD.out;omega) (by decide) (AI W6 (.cells #[] 43)).size ?_;intro u7 w7 hq fB;obtain⟨pa,jk,rfl,_⟩:=hq.rd.shape;have b7:=(AI W6 (.cells #[] 43)).trans fB;have B7:=AB pm.out b7;have f7:=AK B7;obtain⟨_,_,_,_,_,_,y6,_⟩:=AD B7;have G8:=Aq w7 w.heap.size 6 (.slice pa P.zY.length jk);have B8:=yq w7 w.heap.size 6 _ 32 (.slice pa P.zY.length jk) B7;have b8:=AM (h9.out.trans (b7.mono h9.out.size)) G8 (yv _) (yB h9.out.size b7.size);generalize hW8:w7.setCell _ _=W8 at B8 G8 b8;replace B8:W8.heap[w.heap.size]?=some (.cells #[.slice ma mn mc,.slice ia iN ic,.slice ea en ec,.slice ka kn kc,.slice sa sn sc,.slice la P.low.length ip,.slice pa P.zY.length jk,.int .i64 P.zR,.int .i64 P.zU] 32 (0,0)):=(by simpa using B8);have kw:=AP ph.out (AP (AY b7 _) G8);have kx:=AP pi.out (AP (AY fT.out _) kw);have ky:=AP mE.out (AP (AY gQ.out _) kx);have R8:=Ap fk.out.2 ky (by omega);have O8:FQ w.heap.size W8 (.slice ma mn mc) (.slice ia iN ic) (.slice ea en ec) (.slice ka kn kc) (.slice sa sn sc) (.slice la P.low.length ip) (.slice pa P.zY.length jk) P:=⟨mD.out.yL ky fk.out.1,⟨E,(mC.out.yL kx ed.out).lower i8.out.size⟩,BU (FE HU.out kw po.out) jD.out.size,BU (AQ.yL hq G8 B7) h9.out.size,λb Z jx=>(by obtain⟨us,r1⟩:=mD.out.1;have q1:=(yk r1.1 b Z).2;have q2:=(yk mC.out.1 b jx).1;have q3:=mE.out.size;omega)⟩;have S9:=Cp R8 O8;obtain⟨d0,d1,d2,d3,d4,d5,d6,d7,d8⟩:=AD B8;obtain⟨z0,z1,z2,z3,z4,z5,z6,z7,z8⟩:=AD R8;have f8:=AK R8;have oY:=AA S9;have mr:=AA b8;clear hq fB b7 B7 G8 B8 b8 kw kx ky R8 O8 S9 c6 oz y5 f5)))
 obtain⟨N9,O9,op⟩:=oY.out;have B9:=AM mr.out op (by omega) mr.out.size;unfold Dy at N9 O9 B9;exact yr (v:=.agg #[_,_,_,_,_,_,_,_,_]) (by simp[results,Tryz.results50,go_sem,AD N9]) rfl ⟨_,_,_,_,_,_,_,rfl,O9,B9⟩
theorem UN(v u:Value)(S:List (List Int))(r:List Int)(w:World)(h:Bk w v S)(hs:FM S=true)(hr:Ax w u r)(jW:Ds r=true){j:Nat}(hj:Bd S=(j:Int))(nQ:j<16):
 Calls prog 146 #[v,u] w λe w'=>(∃v' E,e=.returned (.tuple #[v',.int .i64 j,.bool true])/\Au w.heap.size w' v' E (S.set j r))/\Below w.heap.size w w':=by
 have C1:=VD v S w h;rw[hj] at C1;have C1:=AA C1;have C2:=AA (λW (hW:Below w.heap.size w W)=>by have:=IG v S W (h.below hW);rw[hs] at this;exact this);have C3:=AA (λW (hW:Below w.heap.size w W)=>by have:=Lf u r W (Ax.below hr hW);rw[jW] at this;exact this);have gZ:=(GT.1 hs).1;have gY:=(GT.1 hs).2;have nx:∀f,f<S.length->(AG S f).length<=100:=λf hf=>by
  rcases gY f (by omega) with h0|h0
  .rw[h0];simp
  .have:=(A4.1 h0).1;omega
 have C4:=AA (λW (hW:Below w.heap.size w W)=>Mo v S W (h.below hW) (by omega) nx);have HR:=AA (λW (hW:Below w.heap.size w W)=>Ax.below hr hW);have iC:r.length<=1048576:=by have:=(A4.1 jW).1;omega
 have oJ:=AA gZ;have nH:¬(j:Int)<0:=by omega
 have nR:(j:Int)<16:=by omega
 clear h hs hr jW gZ gY hj;go_in;go_wp2_with fail;refine C1.out.mono ?_;rintro e w1 ⟨rfl,b1⟩;go_wp2_with fail;refine(C2.out _ b1).mono ?_;rintro e w2 ⟨rfl,b2⟩;have B2:=b1.trans (b2.mono b1.size);go_wp2_with fail;refine(C3.out _ B2).mono ?_;rintro e w3 ⟨rfl,b3⟩;have B3:=B2.trans (b3.mono B2.size);clear b1 b2 b3 B2;go_wp2_with fail;refine(C4.out _ B3).mono ?_;rintro e w4 ⟨v',E,rfl,O4,b4⟩;have gv:E.length=16:=by rw[O4.2.1.1];exact oJ.out
 obtain⟨gs,dn,rfl,c1,c2,q1,q2,bC⟩:=O4.1.zM (by omega);rw[gv] at O4 c1 ⊢;have B4:=B3.trans (b4.mono B3.size);have fE:=AA B4;have ed:=AA B3;have mB:=AA O4;have jB:=AA gv;have o0:=AA (HR.out _ (B4.trans ((AI w4 (.cells #[] 3)).mono B4.size)));clear O4 b4 B3 B4 bC gv;go_wp2_with (at_builtin;refine No rfl rfl underlying29 rfl (FF w4) rfl o0.out iC (AI w4 (.cells #[] 3)).size ?_;intro u5 w5 hu dg;have b5:=(AI w4 (.cells #[] 3)).trans dg;have h2:=mB.out.set (B:=w4.heap.size) (j:=j) b5 hu (yv _) (by omega) jB.out.symm (by have:=jB.out;omega);have g1:w5.ownsRow w3.heap.size 29 1 (.slice (some ⟨gs,0,none⟩) 16 dn) 16 E:=(by have:=(mB.out.below b5).1;unfold AQ at this;rwa [Gs,jB.out] at this);have K1:=World.ownsRow.cellAt g1 j (by omega);rw[yw (by have:=jB.out;omega)] at K1;have F1:=World.ownsRow.frozenAt g1 j;have o6:=AA (h2.1.lower ed.out.size);have B6:=AA (AM (fE.out.trans (b5.mono fE.out.size)) h2.2 (by have:=ed.out.size;omega) (yB fE.out.size b5.size));obtain⟨ra,rn,rc,rfl⟩:=MH hu;have p7:(16:Int)<=dn:=(by omega);clear h2 g1 hu dg b5);exact yr (v:=.tuple #[_,_,.bool true]) (by simp[results,Tryz.results146,go_sem]) rfl ⟨⟨_,_,rfl,o6.out⟩,B6.out⟩
def E9(w w':World):Prop:=∀(b:Nat)(cu:Array Value),w.heap[b]?=some (.cells cu 32 (0,0))->w'.heap[b]?=some (.cells cu 32 (0,0))
section
variable {w w1 w2:World} {p T:Nat} {cu:Array Value}
theorem E9.refl(w:World):E9 w w:=λ_ _ h=>h
theorem E9.trans(h:E9 w w1)(h':E9 w1 w2):E9 w w2:=λb cu Z=>h' b cu (h b cu Z)
theorem E9.below(h:E9 w w1)(Z:Below w1.heap.size w1 w2):E9 w w2:=λb cu hB=>AB (h b cu hB) Z
theorem E9.fresh(h:E9 w w1)(hg:w1.grownBy w2 (some p))(hp:w.heap.size<=p):E9 w w2:=λb cu hB=>Ap (h b cu hB) hg (by have:=AW hB;omega)
theorem E9.other(h:E9 w w1)(hg:w1.grownBy w2 (some p))(hB:w1.heap[p]?=some (.cells cu T (0,0)))(hT:T≠32):E9 w w2:=λb c Z=>Ap (h b c Z) hg (Br hB (h b c Z) hT)
end
def Vg:Option Nat->Int
 |some n=>(n:Int)
 |none=> -1
def Vt(lo:Nat)(w:World)(m i e c s l q:Value)(P:AR)(t:List Bo×Int×Option Nat)(r:Ending)(w':World):Prop:=
 r=.returned (.tuple #[AN m i e c s l q t.2.1 P.zU,.int .i64 (Vg t.2.2)])/\FQ lo w' m i e c s l q {P with zY:=t.1,zR:=t.2.1}/\Below lo w w'/\E9 w w'
theorem Rh{lo:Nat}{w:World}{sv lv qv:Value}{P:AR}(h:FQ lo w mv iv ev cv sv lv qv P)(al:lo<=w.heap.size)(hP:Du P):
 Calls prog 90 #[AN mv iv ev cv sv lv qv P.zR P.zU] w (Vt lo w mv iv ev cv sv lv qv P (Cd 32 P.zY P.zR)):=by
 unfold AN Vt AN;obtain⟨N0,N1,av,ds⟩:=Jz w (.cells #[mv,iv,ev,cv,sv,lv,qv,.int .i64 P.zR,.int .i64 P.zU] 32) ((.cells #[.slice none 0 0,.slice none 0 0,.slice none 0 0,.slice none 0 0,.slice none 0 0,.slice none 0 0,.slice none 0 0,.int .i64 0,.int .i64 0] 32));have HI:=AA (⟨N0,al,h.below av⟩:Gi lo w.heap.size _ mv iv ev cv sv lv qv P);obtain⟨⟨⟨ma,mn,mc,rfl⟩,⟨ia,iN,ic,rfl⟩,⟨ea,en,ec,rfl⟩,⟨ka,kn,kc,rfl⟩⟩,⟨sa,sn,sc,rfl⟩,⟨la,ln,lc,rfl⟩,⟨pa,pn,pc,e7⟩⟩:=h.zQ;obtain⟨gq,qc,e8,nA,j1,j6,nj,_⟩:=HI.out.page (n:=0) (by rw[hP.zO];omega);rw[hP.zO] at e8 nA;subst e8;clear e7;have mh:=AA ds;have dY:=AA (yB al av.size);have dp:=AA (av.mono al);have kQ:=AA ((E9.refl w).below av);have kU:=AA N1;have gO:=AA al;have og:=AA hP;have hh:=hP.zR;have nh:=nj.symm;generalize hv:Cd 32 P.zY P.zR=t;obtain⟨pg,hd,o⟩:=t;have hV:=AA hv;clear h hP al N0 N1 av ds hv;go_in;go_wp2_with fail;generalize(w.alloc _).alloc _=W0 at*;generalize hg:w.heap.size=g at*;have Hg:=AA hg;clear hg;go_loopw [4,5] (λix _ wr=>∃k zY zR,k<=32/\ix=.int .i64 ((32 - k:Nat):Int)/\Gi lo g wr (.slice ma mn mc) (.slice ia iN ic) (.slice ea en ec) (.slice ka kn kc) (.slice sa sn sc) (.slice la ln lc) (.slice (some ⟨gq,0,none⟩) 16 qc) {P with zY:=zY,zR:=zR}/\wr.heap[g+1]?=some (.cells #[.slice none 0 0,.slice none 0 0,.slice none 0 0,.slice none 0 0,.slice none 0 0,.slice none 0 0,.slice none 0 0,.int .i64 0,.int .i64 0] 32 (0,0))/\Cd k zY zR=(pg,hd,o)/\DH P.zY zY/\0<=zR/\zR<=15/\Below lo w wr/\E9 w wr) (λix _ _=>32 - (intOf ix).toNat)
 exact⟨32,P.zY,P.zR,yv _,rfl,HI.out,kU.out,hV.out,DH.refl _,hh.1,hh.2,dp.out,kQ.out⟩
 obtain⟨k,zY,zR,hk,rfl,hI,hN,fs,hU,h0,oo,Z,hst⟩:=hrel;cases k with
 |zero=>
  obtain⟨rfl,rfl,rfl⟩:zY=pg/\zR=hd/\none=o:=by unfold Cd at fs;simpa using fs
  have HS:=AA (Cp hN hI.own);obtain⟨H,N,X,D,x4,x5,x6,x7,x8⟩:=hI.cells;obtain⟨z0,z1,z2,z3,z4,z5,z6,z7,z8⟩:=AD hN;have fz:=AK hN;have V:=AA Z;have oI:=AA hst;clear hI hN Z hst hU fs hk;rw[show((32 - 0:Nat):Int)=32 from rfl];go_wp2_with fail;obtain⟨N2,O2,eO⟩:=HS.out;have B2:=AM V.out eO (by have:=Hg.out;have:=gO.out;omega) (by have:=V.out.size;have:=Hg.out;have:=gO.out;omega);have T2:=oI.out.fresh eO (by have:=Hg.out;omega);unfold Dy at N2 O2 B2 T2;exact yr (v:=.tuple #[.agg #[_,_,_,_,_,_,_,_,_],_]) (by simp[results,rO,go_sem,Vg,AD N2]) rfl ⟨rfl,O2,B2,T2⟩
 |succ k=>
  rw[PC] at fs;obtain⟨j,rfl⟩:∃j:Nat,zR=(j:Int):=⟨zR.toNat,by omega⟩
  rw[yd] at fs;unfold Em at fs;have hj:j<16:=by omega
  have dm:(j:Int)<16:=by omega
  obtain⟨ix,hix⟩:∃ix:Nat,ix=32 - (k+1):=⟨_,rfl⟩
  have nT:(ix:Int)<32:=by omega
  have oS:=AA (show 32 - k=ix+1 by omega);rw[<-hix];clear hix;have iD:zY.length=16:=by rw[hU.len];exact og.out.zO
  obtain⟨_,_,_,_,_,_,_,x7,_⟩:=hI.cells;have fg:=AK hI.yK;have P1:=hI.zg (((j:Int)+1)%16);have B1:=AM Z P1.2 hI.yJ (by have:=Z.size;have:=Hg.out;have:=gO.out;omega);have N1:=Ap hN P1.2 (by omega);have I1:=P1.1;have T1:=hst.fresh P1.2 (by have:=Hg.out;omega);clear P1 hst;generalize hW1:wr.setCell _ _=W1 at I1 B1 N1 T1;have mx:=AA T1;clear T1;obtain⟨pH,fq,p0,p1,p2⟩:=I1.pg (n:=j) (by show j<zY.length;rw[iD];exact hj);obtain⟨c0,c1,c2,c3,c4,c5,c6,c7,c8⟩:=I1.cells;have iU:0<=((j:Int)+1)%16/\((j:Int)+1)%16<=15:=MF (zR:=(j:Int)) h0 oo;have hx:zY[j]?=some (AC zY j):=by unfold AC;exact A2 (by omega)
  replace p0:W1.cell? ⟨gq,j*3,none⟩=some (.int .i64 (AC zY j).w):=p0;replace p1:W1.cell? ⟨gq,j*3+1,none⟩=some (.int .i64 (AC zY j).a):=p1;replace p2:W1.cell? ⟨gq,j*3+2,none⟩=some (.bool (AC zY j).u):=p2;have mw:=AA (DH.trans hU (DH.one zY j));have pU:=AA hU;generalize hpj:AC zY j=x at fs p0 p1 p2 hx mw;obtain⟨xw,xa,xu⟩:=x;dsimp only at p0 p1 p2 fs;have HX:=AA hx;have o7:=AA iD;have gh:=AA I1;have fk:=AA B1;have HN:=AA N1;have je:=AA iU;have HV:=AA fs;have Hk:=AA hk;clear hI hU hx fs iD Z I1 B1 N1 iU hN hpj hk
  by_cases hc:xw=1/\xu=false
  .obtain⟨rfl,rfl⟩:=hc
   have gx:=HV.out;rw[if_pos ⟨rfl,rfl⟩] at gx;simp only[Prod.mk.injEq] at gx;obtain⟨rfl,rfl,rfl⟩:=gx;clear HV hV;have HS:=AA (Cp HN.out gh.out.own);obtain⟨z0,z1,z2,z3,z4,z5,z6,z7,z8⟩:=AD HN.out;have fz:=AK HN.out;go_wp2_with fail;obtain⟨N2,O2,eO⟩:=HS.out;have B2:=AM fk.out eO (by have:=Hg.out;have:=gO.out;omega) (by have:=fk.out.size;have:=Hg.out;have:=gO.out;omega);have T2:=mx.out.fresh eO (by have:=Hg.out;omega);unfold Dy at N2 O2 B2 T2;exact yr (v:=.tuple #[.agg #[_,_,_,_,_,_,_,_,_],_]) (by simp[results,rO,go_sem,Vg,AD N2]) rfl ⟨rfl,O2,B2,T2⟩
  .have gx:=HV.out
   rw[if_neg hc] at gx;have oW:=AA gx;have hD:=gh.out.zo (n:=j) (x:=⟨xw,xa,xu⟩) (y:=⟨xw,xa,false⟩) (j:=2) (u:=.bool false) o7.out.symm HX.out (by decide) rfl;have B2:=AA (AM fk.out hD.2.1 hD.2.2 (by have:=fk.out.size;have:=Hg.out;have:=gO.out;omega));have oi:=AA (Ap HN.out hD.2.1 (by obtain⟨cu,iP⟩:=A6 gh.out.own.pgs gq rfl;exact(Br iP HN.out)));have pf:=AA hD.1;obtain⟨oy,gG⟩:=A6 gh.out.own.pgs gq rfl;have T2:=AA (mx.out.other hD.2.1 gG (by decide));clear hD gx HV hV
   by_cases gu:xw=1
   focus
    subst gu
    obtain rfl:xu=true:=by
     cases xu
     .exact absurd ⟨rfl,rfl⟩ hc
     .rfl
    clear hc
   rotate_left
   focus
    have t1:(xw==1)=false:=by simp[gu]
    clear hc gu
   rotate_left
   all_goals
    go_wp2_with fail;go_roundw;exact⟨k,_,_,by have:=Hk.out;omega,by rw[oS.out];go_num,pf.out,oi.out,oW.out,mw.out,je.out.1,je.out.2,B2.out,T2.out⟩;simp[intOf];omega
section
variable {lo g:Nat} {w w':World} {m i e c s l q:Value} {P:AR}
theorem Gi.kfar{p:Nat}{cu:Array Value}(h:Gi lo g w m i e c s l q P)(hp:w.heap[p]?=some (.cells cu 28 (0,0)))(hg:w.grownBy w' (some p)):Gi lo g w' m i e c s l q P:=
 ⟨Ap h.yK hg (Br hp h.yK),h.yJ,h.own.yL hg hp⟩
theorem Gi.putSw{s':Value}{E:List Value}{S:List (List Int)}(h:Gi lo g w m i e c s l q P)(wx:Au lo w s' E S)(ha:Fp m s'):Gi lo g (w.setCell ⟨g,4,none⟩ s') m i e c s' l q {P with swap:=S}:=by have gr:=Aq w g 4 s';have F:=h.own.yL gr h.yK;have B:=yq w g 4 _ 32 s' h.yK;exact⟨by simpa using B,h.yJ,⟨F.ker,⟨E,wx.yL gr h.yK⟩,F.low,F.pgs,ha⟩⟩
theorem Gi.putK{k:AO}(h:Gi lo g w m i e c s l q P)(wx:Da lo w m' i' e' c' k)(ha:Fp m' s):Gi lo g ((((w.setCell ⟨g,0,none⟩ m').setCell ⟨g,1,none⟩ i').setCell ⟨g,2,none⟩ e').setCell ⟨g,3,none⟩ c') m' i' e' c' s l q {P with zV:=k}:=by have gr:=Ao w g m' i' e' c';have F:=h.own.yL gr h.yK;exact⟨Jm h.yK,h.yJ,⟨wx.yL gr h.yK,F.swp,F.low,F.pgs,ha⟩⟩
end
def Z0(lo:Nat)(v:Value)(w:World)(S:List (List Int)):Prop:=∃E,Au lo w v E S
def LR(lo:Nat)(v:Value)(w:World)(S:List (List Int))(x:Int):Prop:=∃u,v=.tuple #[u,.int .i64 x,.bool true]/\Z0 lo u w S
theorem Z0.below{lo:Nat}{w w':World}{S:List (List Int)}(h:Z0 lo v w S)(Z:Below w.heap.size w w'):Z0 lo v w' S:=by obtain⟨E,h⟩:=h;exact⟨E,h.below Z⟩
theorem LR.below{lo:Nat}{w w':World}{S:List (List Int)}(h:LR lo v w S x)(Z:Below w.heap.size w w'):LR lo v w' S x:=by obtain⟨u,h1,R⟩:=h;exact⟨u,h1,R.below Z⟩
def Vq(lo:Nat)(w:World)(l q:Value)(Q:AR)(r:Ending)(w':World):Prop:=(∃m i e c s,r=.returned (AN m i e c s l q Q.zR Q.zU)/\FQ lo w' m i e c s l q Q)/\Below lo w w'/\E9 w w'
theorem WW{lo:Nat}{w:World}{sv lv qv:Value}{P:AR}(h:FQ lo w mv iv ev cv sv lv qv P)(al:lo<=w.heap.size)(hP:Du P){n:Nat}(hn:n<16)(hw:(AC P.zY n).w=1):
 Calls prog 91 #[AN mv iv ev cv sv lv qv P.zR P.zU,.int .i64 n] w (Vq lo w lv qv (Ea P n)):=by
 have lM:=hP.zH hn hw;have fv:=(hP.zG hn hw).2.1;have eT:=hP.slot hn (by rw[hw];decide);obtain⟨f,hf⟩:∃f:Nat,(AC P.zY n).a=(f:Int):=⟨(AC P.zY n).a.toNat,by omega⟩
 obtain⟨sl,gZ⟩:∃sl:Nat,Bd P.swap=(sl:Int):=⟨(Bd P.swap).toNat,by have:=eT.1;omega⟩
 have iu:sl<16:=by have:=eT.2.1;omega
 have eK:f<12:=by have:=lM.1;omega
 obtain⟨ta,ha⟩:∃a,a=n/4:=⟨_,rfl⟩
 obtain⟨tb,Z⟩:∃b,b=n%4:=⟨_,rfl⟩
 have q1:(n:Int)/4=(ta:Int):=by omega
 have q2:(n:Int)%4=(tb:Int):=by omega
 have oe:ta<4:=by omega
 have ks:DQ (Ae P.zV (Ag 6 (BO P.low ta) (tb:Int) 0)).1:=FR hP.k;have hQ:Ea P n= {P with zV:=(Ae (Ae P.zV (Ag 6 (BO P.low ta) (tb:Int) 0)).1 (Ag 2 (f:Int) 0 0)).1,swap:=P.swap.set sl (AG P.zV.mem f),zY:=P.zY.set n ⟨2,(sl:Int),false⟩}:=by unfold Ea Ig;rw[hf,gZ,<-ha,<-Z,yd,yd]
 rw[hQ];have CM:=λm i e c W (hR:Mu W m i e c P.zV)=>Fd hR hP.k 6 (BO P.low ta) (tb:Int) 0 (by decide)
 generalize Ae P.zV (Ag 6 (BO P.low ta) (tb:Int) 0)=res1 at CM ks ⊢;obtain⟨eS,gU,n1⟩:=res1;dsimp only at CM ks ⊢;have C4:=λm i e c W (hR:Mu W m i e c eS)=>Fd hR ks 2 (f:Int) 0 0 (by decide)
 generalize Ae eS (Ag 2 (f:Int) 0 0)=res2 at C4 ⊢;obtain⟨pD,pr,n2⟩:=res2;unfold Kk at CM C4;dsimp only at CM C4 ⊢;generalize(n1==0)=br1 at CM;replace CM:=AA CM;replace C4:=AA C4;unfold AN Vq AN;obtain⟨⟨_,⟨ia,iN,ic,rfl⟩,⟨ea,en,ec,rfl⟩,⟨ka,kn,kc,rfl⟩⟩,⟨sa,sn,sc,rfl⟩,_⟩:=h.zQ;obtain⟨gq,qc,e3,_,_,j1,j6,_⟩:=h.pgs.zM (by rw[hP.zO];omega);rw[hP.zO] at e3;obtain⟨lb,lc,e2,bl,DL⟩:=Iu h.low (j:=ta) (by rw[hP.zt];exact oe);rw[hP.zt] at e2;obtain⟨E,o1⟩:=h.ker.1;have iG:P.zV.mem.length=12:=hP.meml;have gv:E.length=12:=by rw[o1.2.1.1];exact iG
 obtain⟨gm,cm,e1,ez,_,_,dt,_⟩:=o1.1.zM (by omega);have iC:(AG P.zV.mem f).length=4:=hP.rowl eK;obtain⟨gw,cw,hu,iq,_,_⟩:=o1.row (f:=f) (by omega) (by omega);have DR:=AQ.zz ER (e1▸o1.1) hu 0 _ rfl;rw[gv] at e1;rw[iC] at hu iq DR;rw[wB,xK] at DR;subst e1 e2 e3;obtain⟨N0,N1,av,ds⟩:=Jz w (.cells #[.slice (some ⟨gm,0,none⟩) 12 cm,.slice ia iN ic,.slice ea en ec,.slice ka kn kc,.slice sa sn sc,.slice (some ⟨lb,0,none⟩) 4 lc,.slice (some ⟨gq,0,none⟩) 16 qc,.int .i64 P.zR,.int .i64 P.zU] 32) ((.cells #[.slice none 0 0,.slice none 0 0,.slice none 0 0,.slice none 0 0,.slice none 0 0,.slice none 0 0,.slice none 0 0,.int .i64 0,.int .i64 0] 32));have eQ:=(⟨N0,al,h.below av⟩:Gi lo w.heap.size _ _ _ _ _ _ _ _ P);replace DR:=(av.cell (p:=⟨gm,f,none⟩) dt).trans DR;replace DL:=(av.cell (p:=⟨lb,ta,none⟩) bl).trans DL;replace bl:=xW bl av.size;replace dt:=xW dt av.size;replace iq:=AF.below iq av;have lQ:=AF.rd iq;have lR:=eQ.own.swp.choose_spec.rd;have lS:=eQ.own.ker.rd;have gX:FM P.swap=true:=GT.2 ⟨hP.zD,hP.zv⟩;have lF:Ds (AG P.zV.mem f)=true:=(Ai.1 hP.k.mem).2 f eK;obtain⟨_,_,p1,_⟩:True/\True/\_/\True:=⟨trivial,trivial,(eQ.pg (n:=n) (by rw[hP.zO];exact hn)).2.2.2.1,trivial⟩;rw[hf] at p1;obtain⟨k0,k1,k2,k3,k4,k5,k6,_,_⟩:=eQ.cells;have mh:=AA ds;have kU:=AA N1;have HI:=AA eQ;have gO:=AA al;have dp:=AA (av.mono al);have kQ:=AA ((E9.refl w).below av);have HP:=AA hP;have A:=AA hP.k;have o5:=AA lS;replace DL:_=some (xY .i64 (BO P.low ta)):=DL;generalize BO P.low ta=la at*;have CS:=AA (λW (hW:Below _ _ W)=>UN (.slice sa sn sc) (.slice (some ⟨gw,0,none⟩) 4 cw) P.swap (AG P.zV.mem f) W (lR.below hW) gX (lQ.below hW) lF gZ iu);have pL:(n:Int)<16:=by omega
 have lN:(f:Int)<12:=by omega
 have pS:(ta:Int)<4:=by omega
 have dY:=AA (yB al av.size);have ml:=AA (show n<P.zY.length by rw[hP.zO];exact hn);have oP:=AA hP.zO;clear h al hP hw lM fv eT hf gZ hQ eQ N0 N1 av ds o1 hu iq iC iG gv lQ lR lS gX lF ez ha Z;go_in;go_wp2_with fail;generalize(w.alloc _).alloc _=W0 at*;generalize hg:w.heap.size=g at*;have Hg:=AA hg;have dO:=AW HI.out.yK;clear hg;refine BR 15 64 [.p g 4,.v (.slice sa sn sc),.p g 0,.p g 0,.s gm 12 cm,.i ((f:Int)),.p gm f,.s gw 4 cw,.z,.z,.z,.i ((sl:Int)),.b true,.z,.i ((sl:Int))] (λix vv ww=>match ix with
  |8|9=>LR W0.heap.size vv ww (P.swap.set sl (AG P.zV.mem f)) (sl:Int)
  |10|13=>Z0 W0.heap.size vv ww (P.swap.set sl (AG P.zV.mem f))
  |_=>True) ?_ ?_ ?_
 .intro i hi o Y a O V J L HL A
  have bt:=bc L dO k4;have bp:=bc L dO k0
  match i,hi with
  |0,_|2,_|3,_|5,_|14,_=>exact sP Y A V J
  |1,_|4,_=>exact sL Y A V J (hl:=F9 ‹_›)
  |6,_=>exact sI Y A V J (hr:=by clear J V A;go_simp)
  |7,_=>exact sL Y A V J (hl:=KU (bc L dt DR))
  |8,_=>exact sC Y A V J (CS.out _ L) (by rintro r w_ ⟨⟨v',mO,rfl,hO⟩,az⟩;exact⟨_,rfl,⟨v',rfl,mO,hO.lower L.size⟩,az⟩)
  |9,_=>clear bt bp;obtain rfl:=yF Y;have d8:LR W0.heap.size (a.tmps[27]?.getD undef) O (P.swap.set sl (AG P.zV.mem f)) (sl:Int):=Ba J 8;clear J V;refine yE ?_;go_simp;exact A.out _ _ d8 (yD _ _)
  |10,_=>clear bt bp;obtain rfl:=yF Y;have d9:LR W0.heap.size (a.tmps[18]?.getD undef) O (P.swap.set sl (AG P.zV.mem f)) (sl:Int):=Ba J 9;clear J V;obtain⟨v',d9,hO⟩:=d9;refine yE ?_;go_simp;exact A.out _ _ hO (yD _ _)
  |11,_|12,_=>clear bt bp;obtain rfl:=yF Y;have d9:LR W0.heap.size (a.tmps[18]?.getD undef) O (P.swap.set sl (AG P.zV.mem f)) (sl:Int):=Ba J 9;clear J V;obtain⟨v',d9,hO⟩:=d9;refine yE ?_;go_simp;exact A.out _ _ rfl (yD _ _)
  |13,_=>clear bt bp;obtain rfl:=yF Y;have dv:Z0 W0.heap.size (a.tmps[28]?.getD undef) O (P.swap.set sl (AG P.zV.mem f)):=Ba J 10;clear J V;refine yE ?_;go_simp;exact A.out _ _ dv (yD _ _)
  |_+15,hq=>omega
 .intro i hi vv wz dc bs hz
  match i,hi with
  |8,_|9,_=>exact(LR.below hz bs)
  |10,_|13,_=>exact(Z0.below hz bs)
  |0,_|1,_|2,_|3,_|4,_|5,_|6,_|7,_|11,_|12,_|14,_=>exact hz
  |_+15,hq=>omega
 .intro E O hR L
  have dh:(E 12)=.bool true:=BS hR 12;have dw:Z0 W0.heap.size (E 13) O (P.swap.set sl (AG P.zV.mem f)):=BS hR 13;have il:(E 14)=.int .i64 sl:=BS hR 14;clear hR;simp only[Ak,Ah,yC,yy,yz,yx,dh,il];simp;generalize E 13=lj at dw ⊢;clear dh il;obtain⟨pz,hO⟩:=dw;obtain⟨ua,un,uc,rfl⟩:∃a n c,lj=.slice a n c:=by obtain⟨_,_,rfl,_,_⟩:=hO.1.rd.shape;exact⟨_,_,_,rfl⟩
  obtain⟨W1,rfl⟩:∃W1,W1=O:=⟨_,rfl⟩
  have HO:=AA hO;have gh:=AA (HI.out.below L);have fk:=AA (dp.out.trans (L.mono dY.out));have HN:=AA (AB kU.out L);have HT:=AA (kQ.out.below L);have iK:=xW bl L.size;replace DL:=(L.cell (p:=⟨lb,ta,none⟩) bl).trans DL;have mJ:=CM.out;clear CM;have CM:=AA (λW (hW:Below W1.heap.size W1 W)=>mJ _ _ _ _ W ((o5.out.below L).below hW));clear mJ;have bl:=iK;have i6:=AA L.size;clear hO L k0 k1 k2 k3 k4 k5 k6 p1 DR dt iK CS;obtain⟨k0,k1,k2,k3,k4,k5,k6,_,_⟩:=gh.out.cells;have dT:=AW gh.out.yK;go_wp2_with fail;refine Co 19 64 (λix=>ix==16) [.p g 0,.a #[.slice (some ⟨gm,0,none⟩) 12 cm,.slice ia iN ic,.slice ea en ec,.slice ka kn kc],.p g 5,.s lb 4 lc,.i ((n:Int)),.i ((ta:Int)),.p lb ta,.i la,.i ((n:Int)),.i ((tb:Int)),.z,.z,.z,.i gU,.b br1,.z,.z,.i gU,.b br1] (λll ix vv ww=>match ix with
   |10|11=>Ew W1.heap.size vv ww eS gU br1
   |12=>Gl W1.heap.size vv ww eS
   |15=>Jg W1.heap.size (ll 16) vv ww eS
   |_=>True) (λll ww=>Below W1.heap.size W1 ww) ?_ ?_ ?_ ?_ ?_ ?_
  .exact Av (yD _ _) 1
  .intro j hj ll i vv wz dc hi hS fC jy bs hz
   match j,hj with
   |10,_|11,_=>exact(Ew.below hz bs)
   |12,_=>exact(Gl.below hz bs)
   |15,_=>exact(Jg.below (by rw[EB (by rintro rfl;cases hS)];exact hz) bs)
   |0,_|1,_|2,_|3,_|4,_|5,_|6,_|7,_|8,_|9,_|13,_|14,_|16,_|17,_|18,_=>exact hz
   |_+19,hq=>omega
  .intro ll i wz dc hi hS fC bs hg
   exact hg.trans (bs.mono hg.size)
  .intro i hi hS o Y a O V ll J K L HL A
   have bt:=bc L dT k0;have bp:=bc L dT k1;have bw:=bc L dT k2;have bK:=bc L dT k3;have cy:=bc L dT k5;have cT:=bc L bl DL
   match i,hi,hS with
   |0,_,_|2,_,_|4,_,_|8,_,_|17,_,_|18,_,_=>exact Rb Y A V J K
   |1,_,_=>exact JM Y A V J K (hl:=OM ‹_› ‹_› ‹_› ‹_›)
   |3,_,_=>exact JM Y A V J K (hl:=KU ‹_›)
   |7,_,_=>exact JM Y A V J K (hl:=FT ‹_›)
   |10,_,_=>exact co Y A V J K (CM.out _ L) (by rintro r w_ ⟨m',i',e',c',rfl,hO,az⟩;exact⟨_,rfl,⟨m',i',e',c',rfl,hO.lower L.size⟩,az⟩)
   |16,_,hs=>cases hs
   |5,_,_=>clear bt bp bw bK cy cT;obtain rfl:=yF Y;have d4:(a.tmps[36]?.getD undef)=.int .i64 n:=Cw J K 4;have gV:=A9 K 16;clear J V;refine yE ?_;go_simp;exact A.out _ _ (by show xY .i64 (wR.wrap (ta:Int))=.int .i64 ta;rw[xA _ (by omega)]) (yD _ _)
   |6,_,_=>clear bt bp bw bK cy cT;obtain rfl:=yF Y;have d3:(a.tmps[35]?.getD undef)=.slice (some ⟨lb,0,none⟩) 4 lc:=Cw J K 3;have d5:(a.tmps[37]?.getD undef)=.int .i64 ta:=Cw J K 5;have gV:=A9 K 16;clear J V;refine yE ?_;go_simp;exact A.out _ _ rfl (yD _ _)
   |9,_,_=>clear bt bp bw bK cy cT;obtain rfl:=yF Y;have d8:(a.tmps[40]?.getD undef)=.int .i64 n:=Cw J K 8;have gV:=A9 K 16;clear J V;refine yE ?_;go_simp;exact A.out _ _ (by show xY .i64 (Int.tmod (n:Int) 4)=.int .i64 tb;rw[Int.tmod_eq_emod_of_nonneg (by omega)];exact congrArg _ q2) (yD _ _)
   |11,_,_=>clear bt bp bw bK cy cT;obtain rfl:=yF Y;have dv:Ew W1.heap.size (a.tmps[42]?.getD undef) O eS gU br1:=Cw J K 10;have gV:=A9 K 16;clear J V;refine yE ?_;go_simp;exact A.out _ _ dv (yD _ _)
   |12,_,_=>clear bt bp bw bK cy cT;obtain rfl:=yF Y;have fb:Ew W1.heap.size (a.tmps[31]?.getD undef) O eS gU br1:=Cw J K 11;have gV:=A9 K 16;clear J V;obtain⟨m',i',e',c',fb,hO⟩:=fb;refine yE ?_;go_simp;exact A.out _ _ ⟨_,_,_,_,rfl,hO⟩ (yD _ _)
   |13,_,_|14,_,_=>clear bt bp bw bK cy cT;obtain rfl:=yF Y;have fb:Ew W1.heap.size (a.tmps[31]?.getD undef) O eS gU br1:=Cw J K 11;clear J V;obtain⟨m',i',e',c',fb,hO⟩:=fb;refine yE ?_;go_simp;exact A.out _ _ rfl (yD _ _)
   |15,_,_=>clear bt bp bw bK cy cT;obtain rfl:=yF Y;have gV:=A9 K 16;clear J V;refine yE ?_;go_simp;exact A.out _ _ ⟨_,rfl,L.size,by rw[EB (by decide),gV];exact yi _ _⟩ (AI _ _)
   |_+19,hq,_=>omega
  .intro i hi hS o Y a O V ll J K L HL A
   match i,hi,hS with
   |0,_,hs|1,_,hs|2,_,hs|3,_,hs|4,_,hs|5,_,hs|6,_,hs|7,_,hs|8,_,hs|9,_,hs|10,_,hs|11,_,hs|12,_,hs|13,_,hs|14,_,hs|15,_,hs|17,_,hs|18,_,hs=>cases hs
   |16,_,_=>
    obtain rfl:=yF Y;have gg:Jg W1.heap.size (ll 16) (a.tmps[9]?.getD undef) O eS:=Cw J K 15;have eL:Gl W1.heap.size (a.tmps[43]?.getD undef) O eS:=Cw J K 12;clear J V;obtain⟨qb,fS,fu,da⟩:=gg;rw[K.out.1] at da;replace da:O.heap[qb]?=some (.cells #[.slice none 0 0,.slice none 0 0,.slice none 0 0,.slice none 0 0] 28 (0,0)):=da;obtain⟨m',i',e',c',eL,hO⟩:=eL;obtain⟨⟨va,vn,vc,rfl⟩,⟨wa,wn,wc,rfl⟩,⟨xa,xn,xc,rfl⟩,⟨ya,yn,yc,rfl⟩⟩:=hO.zQ;obtain⟨c0,hH,c2,c3⟩:=AE da;have fq:=AK da;have a6:=AA (Ao O qb (.slice va vn vc) (.slice wa wn wc) (.slice xa xn xc) (.slice ya yn yc));have kY:=AA fS;have Hq:=AA da;have HO:=AA hO;clear da hO;refine yE ?_;go_simp;exact A.out undef _ trivial (AM L a6.out fu L.size) (λj dm dQ dd hu=>match j,dQ with
     |0,_|1,_|2,_|3,_|4,_|5,_|6,_|7,_|8,_|9,_|13,_|14,_|16,_|17,_|18,_=>hu
     |10,_|11,_=>Ew.yL hu a6.out Hq.out
     |12,_=>Gl.yL hu a6.out Hq.out
     |15,_=>⟨qb,kY.out,fu,by rw[FN];exact⟨_,_,_,_,Cx Hq.out,HO.out.yL a6.out Hq.out⟩⟩
     |_+19,hq=>absurd hq (by omega))
   |_+19,hq,_=>omega
  .intro E O ll cl hR L
   have ij:Jg W1.heap.size (ll 16) (E 15) O eS:=BS hR 15;clear hR;simp only[Cn,BQ,yC,yy,yz,yx];simp;generalize E 15=z15 at ij ⊢;obtain⟨qb,rfl,fu,da⟩:=ij;rw[cl 16 (by decide),if_pos rfl] at da;obtain⟨m',i',e',c',eN,kq⟩:=da;clear cl k0 k1 k2 k3 k4 k5 k6 DL;obtain⟨⟨va,vn,vc,rfl⟩,⟨wa,wn,wc,rfl⟩,⟨xa,xn,xc,rfl⟩,⟨ya,yn,yc,rfl⟩⟩:=kq.zQ;obtain⟨c0,hH,c2,c3⟩:=AE eN;have C4:=AA (C4.out _ _ _ _ _ kq.rd);have HG:=AA L;have oO:=AA eN;clear L eN kq;go_wp2_with fail;refine C4.out.mono ?_;rintro r w5 ⟨m2,i2,e2,p6,rfl,O2,b5⟩;obtain⟨⟨jp,jl,bw,rfl⟩,⟨jR,jS,jQ,rfl⟩,⟨kC,kA,kB,rfl⟩,⟨jP,jN,jO,rfl⟩⟩:=O2.zQ;clear C4 c0 hH c2 c3;have Q5:=AB oO.out b5;have fq:=AK Q5;obtain⟨z0,z1,z2,z3⟩:=AE Q5;have G6:=Ao w5 qb (.slice jp jl bw) (.slice jR jS jQ) (.slice kC kA kB) (.slice jP jN jO);have I6:=((gh.out.below HG.out).below b5).kfar Q5 G6;have N5:=AB (AB HN.out HG.out) b5;have N6:=Ap N5 G6 (Br Q5 N5);have K6:=O2.yL G6 Q5;have S6:=((HO.out.below HG.out).below b5).yL G6 Q5;have l5:lo<=w5.heap.size:=yB dY.out (yB i6.out (yB HG.out.size b5.size));have B6:=AM ((fk.out.trans (HG.out.mono (yB dY.out i6.out))).trans (b5.mono (yB dY.out (yB i6.out HG.out.size)))) G6 (by have:=dY.out;have:=i6.out;omega) l5;have Q6:=Cx (m':=.slice jp jl bw) (i':=.slice jR jS jQ) (e':=.slice kC kA kB) (c':=.slice jP jN jO) Q5;have l6:=yB l5 G6.size;have T6:=((HT.out.below HG.out).below b5).other G6 Q5 (by decide);have l2:Fp (.slice jp jl bw) (.slice ua un uc):=λj h1 R=>by obtain⟨us,r1⟩:=O2.1;have e1:=(yk r1.1 j h1).1;have e2:=(yk HO.out.1 j R).2;have e3:=HG.out.size;omega
   have l1:Fp (.slice (some ⟨gm,0,none⟩) 12 cm) (.slice ua un uc):=λj h1 R=>by obtain⟨us,r1⟩:=HI.out.own.ker.1;have e1:=(yk r1.1 j h1).2;have e2:=(yk HO.out.1 j R).1;omega
   generalize hW6:(((w5.setCell _ _).setCell _ _).setCell _ _).setCell _ _=W6 at G6 I6 N6 K6 S6 B6 Q6 l6 T6;have I7:=I6.putSw (S6.lower dY.out) l1;have G7:=Aq W6 g 4 (.slice ua un uc);have K7:=K6.yL G7 I6.yK;have N7:=Ap N6 G7 (by omega);have Q7:=Ap Q6 G7 (Br I6.yK Q6);have B7:=AM B6 G7 I6.yJ l6;have l7:=yB l6 G7.size;have T7:=T6.fresh G7 (by have:=Hg.out;omega);obtain⟨_,_,_,_,a4,_⟩:=I6.cells;have fa:=AK I6.yK;generalize hW7:W6.setCell _ _=W7 at G7 I7 K7 N7 Q7 B7 l7 T7;have I8:=I7.putK (K7.lower (yB dY.out (yB i6.out HG.out.size))) l2;have G8:=Ao W7 g (.slice jp jl bw) (.slice jR jS jQ) (.slice kC kA kB) (.slice jP jN jO);have N8:=Ap N7 G8 (by omega);have B8:=AM B7 G8 I7.yJ l7;have l8:=yB l7 G8.size;have T8:=T7.fresh G8 (by have:=Hg.out;omega);obtain⟨d0,d1,d2,d3⟩:=AE Q7;obtain⟨t0,t1,t2,t3,_⟩:=I7.cells;have ft:=AK I7.yK;generalize hW8:(((W7.setCell _ _).setCell _ _).setCell _ _).setCell _ _=W8 at I8 G8 N8 B8 l8 T8;obtain⟨_,_,_,_,_,_,s6,_,_⟩:=I8.cells;obtain⟨pJ,f8,p0,p1,p2⟩:=I8.pg (n:=n) ml.out;have I9:=I8.zp (n:=n) oP.out.symm ml.out ⟨2,(sl:Int),false⟩;have N9:=Ap N8 I9.2.1 (by obtain⟨cu,iP⟩:=A6 I8.own.pgs gq rfl;exact(Br iP N8));have B9:=AM B8 I9.2.1 I9.2.2 l8;have l9:=yB l8 I9.2.1.size;obtain⟨oy,gG⟩:=A6 I8.own.pgs gq rfl;have T9:=T8.other I9.2.1 gG (by decide);have I9:=I9.1;generalize hW9:((W8.setCell _ _).setCell _ _).setCell _ _=W9 at I9 N9 B9 l9 T9;have oX:=AA T9;have eC:=AA (Cp N9 I9.own);obtain⟨H,N,X,D,x4,x5,x6,x7,x8⟩:=I9.cells;obtain⟨r0,r1,r2,r3,r4,r5,r6,r7,r8⟩:=AD N9;have fr:=AK N9;have jg:=AA B9;have oR:=AA l9;clear T6 T7 T8 T9 I6 N5 N6 K6 S6 B6 Q6 l6 I7 K7 N7 Q7 B7 l7 I8 N8 B8 l8 I9 N9 B9 l9 l2 l1 O2 b5 Q5 G6 G7 G8 l5;go_wp2_with fail;obtain⟨gN,h7,iW⟩:=eC.out;have ig:=AM jg.out iW (by have:=HI.out.yJ;omega) oR.out;have l3:=oX.out.fresh iW (by have:=Hg.out;omega);unfold Dy at gN h7 ig l3;exact yr (v:=.agg #[_,_,_,_,_,_,_,_,_]) (by simp[results,Tryz.results91,go_sem,AD gN]) rfl ⟨⟨_,_,_,_,_,rfl,h7⟩,ig,l3⟩
end Go.Proofs.YtpdjjjdkhedibaaGreatDoor
