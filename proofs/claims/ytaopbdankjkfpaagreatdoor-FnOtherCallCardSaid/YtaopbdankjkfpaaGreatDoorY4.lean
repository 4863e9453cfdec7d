/-
  Packed:28 texts.
-/
import Derived.Test.YtaopbdankjkfpaaGreatDoorY1
import Derived.Test.YtaopbdankjkfpaaGreatDoorY3
import Derived.Test.YtaopbdankjkfpaaGreatDoorY2
import Derived.Deep.DeepCutAuto
import Derived.Deep.CutBlock
set_option linter.unusedVariables false
set_option linter.unusedSimpArgs false
set_option maxHeartbeats 16000000
set_option maxRecDepth 100000
open Go Go.Proofs.YtaopbdankjkfpaaGreatDoor
open And renaming intro->yk
open Bool renaming and_eq_true->yD,or_eq_true->xP,true_and->wl
open Go.Exit renaming inBlock->xV
open Go.IntKind renaming i64->xj
open Go.IntWalk renaming i64_in->xM
open Go.Proofs.Tryz renaming results113->tU,results114->rZ,results165->uP,results167->uO,results168->sd,results169->uQ,results170->uN,results171->vz,results172->tV,results173->wu,results174->vA,results237->rY
open Go.RowKit.Below renaming cell->uu,refl->yO
open Go.Value renaming int->ym,oneCell'->xR
open Go.Value.slice renaming injEq->xS
open Go.World renaming block_lt_of_cell?->yM
open Go.World.ownsRow renaming lt->yB
open Go renaming bodyPost_ret->yC,cell_of_row->yz,heap_alloc_new->yw,heap_setCell_same->yF
open Int renaming toNat_natCast->yq
open List renaming all_eq_false->xh,all_eq_true->yr,any_eq_true->vV,countP_append->sK,countP_cons->xA,countP_le_length->vy,countP_nil->r9,eq_nil_of_length_eq_zero->yh,foldl_cons->yK,foldl_nil->yI,getElem?_eq_getElem->yH,getElem?_eq_some_iff->yE,getElem?_replicate->uR,isEmpty_iff->tS,length->wZ,length_append->yA,length_drop->xm,length_map->vq,length_replicate->uz,length_singleton->xQ,length_take->yt,mem_of_getElem?->yx,mem_range->yj,mem_singleton->xF,range->yN,replicate->yd,take_length->xG
open List.range renaming loop->yJ
open Nat renaming le_add_right->wI,le_refl->yG,le_trans->yL,lt_of_lt_of_le->yv,not_lt_zero->xW,zero_add->wK,zero_le->yu
variable {cv ev iv mv v:Value} {t:Bool} {ss:List ByteArray} {ww:World} {x y:Int}
namespace Go.Proofs.YtaopbdankjkfpaaGreatDoor
open Go.Proofs.Tryz
open Go.RowKit
theorem Gy{w:World}{g T:Nat}{a b c d e f:Value}(h:w.heap[g]?=some (.cells #[a,b,c,d,e,f] T (0,0))):w.cell? ⟨g,0,none⟩=some a/\w.cell? ⟨g,1,none⟩=some b/\w.cell? ⟨g,2,none⟩=some c/\w.cell? ⟨g,3,none⟩=some d/\w.cell? ⟨g,4,none⟩=some e/\w.cell? ⟨g,5,none⟩=some f:=
 ⟨yz _ _ 0 _ _ _ h,yz _ _ 1 _ _ _ h,yz _ _ 2 _ _ _ h,yz _ _ 3 _ _ _ h,yz _ _ 4 _ _ _ h,yz _ _ 5 _ _ _ h⟩
theorem Kz(m iv ev cv:Value)(k:AN)(kk e a b c:Int)(nm:ByteArray)(kind:Int)(w:World)(h:Le w m iv ev cv k)(hk:DP k)(he:0<=e/\e<3)(iV:kind=0∨kind=1):
 Calls prog 210 #[.agg #[m,iv,ev,cv],.agg #[.int .i64 kk,.int .i64 e,.int .i64 a,.int .i64 b,.int .i64 c,.string nm],.int .i64 kind] w λr w'=>r=.returned (.int .i64 (Cb k ⟨kk,e,a,b,c,nm⟩ kind))/\Below w.heap.size w w':=by
 obtain⟨N0,N1,al,ds⟩:=Ki w (.cells #[m,iv,ev,cv] 28) (.cells #[.int .i64 kk,.int .i64 e,.int .i64 a,.int .i64 b,.int .i64 c,.string nm] 34);obtain⟨X,N,V,D⟩:=AE N0;obtain⟨y0,y1,R,y3,y4,y5⟩:=Gy N1;have a5:=AW N0;have bm:=AW N1
 by_cases ha:Bh a 0 11=true
 .obtain⟨z,rfl⟩:∃z:Nat,a=(z:Int):=⟨a.toNat,by have:=(AZ.1 ha).1;omega⟩
  obtain⟨en,rfl⟩:∃en:Nat,e=(en:Int):=⟨e.toNat,by omega⟩
  have cg:z<12:=by have:=(AZ.1 ha).2;omega
  have cN:en<3:=by omega
  have hl:=(A1.1 (Am hk).2.1).1;have FC:=AA (show Cb k ⟨kk,(en:Int),(z:Int),b,c,nm⟩ kind=if(Sc k.Xy z).k=0 then 3 else if CQ (AF k.V3 en).Tj (Sc k.Xy z).g=false then 1
   else if(0<kind/\(Sc k.Xy z).k≠kind)∨(kind=0/\Bi (Sc k.Xy z).k=false) then 3 else 0 by unfold Cb;simp[ha])
  have iI:=By (Am hk).2.1 _ (yx (Ca (show z<k.Xy.length by omega)));have CM:=AA (λW (hW:Below _ _ W)=>Jv m iv ev cv k en (Sc k.Xy z).g W ((h.2.2.1.below al).below hW) hk cN iI);obtain⟨ai,ci,rfl,_,_,HI⟩:=BG.open Av (by decide) (BG.below h.2.1 al);obtain⟨bi,bX,rfl,gh,D0,D1,_⟩:=HI.Dq (show z<k.Xy.length by omega);have pJ:(z:Int)<k.Xy.length:=by omega
  have HA:=AA ha;have lQ:¬(z:Int)<0:=by omega
  clear h hk N0 N1 HI ha hl iI he;generalize hW0:(w.alloc _).alloc _=W0 at X N V D y0 y1 R y3 y4 y5 D0 D1 a5 bm gh CM al;generalize(Sc k.Xy z).g=gd at D1 CM FC;generalize(Sc k.Xy z).k=kd at D0 FC;generalize CQ (AF k.V3 en).Tj gd=mb at CM FC
  by_cases e0:kd=0
  .have t0:(kd==0)=true:=by simp[e0]
   have y2:=AA (show Cb k ⟨kk,(en:Int),(z:Int),b,c,nm⟩ kind=3 by rw[FC.out,if_pos e0]);clear e0;go_in;go_wp2_with (refine(EN _ _).mono ?_;rintro r w2 ⟨rfl,rfl⟩;rw[HA.out]);go_ret;exact⟨Cl y2.out.symm,al⟩
  .have t0:(kd==0)=false:=by simp[e0]
   have jR:=AA (show Cb k ⟨kk,(en:Int),(z:Int),b,c,nm⟩ kind=if mb=false then 1
    else if(0<kind/\kd≠kind)∨(kind=0/\Bi kd=false) then 3 else 0 by rw[FC.out,if_neg e0])
   clear e0 FC;go_in;go_wp2_with fail;refine(EN _ _).mono ?_;rintro r w2 ⟨rfl,rfl⟩;rw[HA.out];go_wp2_with fail;refine Ac 11 64 [.a #[m,.slice (some ⟨bi,bX,none⟩) k.Xy.length ci,ev,cv],.p (w.heap.size+1) 1,.i ((en:Int)),.p w.heap.size 1,.v (.slice (some ⟨bi,bX,none⟩) k.Xy.length ci),.p (w.heap.size+1) 2,.i ((z:Int)),.p bi (bX+z*3),.p bi (bX+z*3+1),.t gd,.b mb] (λ_ _ _=>True) ?_ ?_
   .intro i hi o Z a H Y J L h2 A
    have bw:=bc L a5 X;have bs:=bc L a5 N;have bK:=bc L a5 V;have bN:=bc L a5 D;have cC:=bc L bm y1;have dx:=bc L bm R;have gQ:=bc L gh D1
    match i,hi with
    |0,_=>exact sL Z A Y J (hl:=PZ ‹_› ‹_› ‹_› ‹_›)
    |1,_|3,_|5,_|8,_=>exact sP Z A Y J
    |2,_|6,_=>exact sL Z A Y J (hl:=Fy ‹_›)
    |4,_=>exact sL Z A Y J (hl:=GV ‹_›)
    |7,_=>exact sI Z A Y J (hr:=by clear J Y A;go_simp)
    |9,_=>exact sL Z A Y J (hl:=YW ‹_›)
    |10,_=>exact sD Z A Y J (CM.out _ L)
   .intro E H hR L
    have dv:(E 10)=.bool mb:=Bg hR 10;clear hR;simp only[Aj,Ag,yN,yJ,yK,yI,dv];simp;clear dv;have qd:=(L.cell (p:=⟨bi,bX+z*3,none⟩) gh).trans D0;have pj:=(L.cell (p:=⟨w.heap.size,1,none⟩) a5).trans N;have lk:=(L.cell (p:=⟨w.heap.size+1,2,none⟩) bm).trans R;have cP:=al.trans (L.mono al.size);clear D0 D1 X N V D y0 y1 R y3 y4 y5 L CM;cases mb
    .have y2:=AA (show Cb k ⟨kk,(en:Int),(z:Int),b,c,nm⟩ kind=1 by rw[jR.out];rfl)
     go_wp2_with fail;go_ret;exact⟨Cl y2.out.symm,cP⟩
    .rcases iV with rfl|rfl
     .have y2:=AA (show Cb k ⟨kk,(en:Int),(z:Int),b,c,nm⟩ 0=if Bi kd=false then 3 else 0 by rw[jR.out];simp)
      go_wp2_with fail;refine(Fx _ _).mono ?_;rintro r w2 ⟨rfl,rfl⟩;generalize Bi kd=tb at y2;cases tb
      .go_wp2_with fail
       go_ret;exact⟨Cl y2.out.symm,cP⟩
      .go_wp2_with fail
       go_ret;exact⟨Cl y2.out.symm,cP⟩
     .by_cases e1:kd=1
      .have t1:(kd !=1)=false:=by simp[e1]
       have y2:=AA (show Cb k ⟨kk,(en:Int),(z:Int),b,c,nm⟩ 1=0 by rw[jR.out];simp[e1]);clear e1;go_wp2_with fail;go_ret;exact⟨Cl y2.out.symm,cP⟩
      .have t1:(kd !=1)=true:=by simp[e1]
       have y2:=AA (show Cb k ⟨kk,(en:Int),(z:Int),b,c,nm⟩ 1=3 by rw[jR.out];simp[e1]);clear e1;go_wp2_with fail;go_ret;exact⟨Cl y2.out.symm,cP⟩
 .have ky:Bh a 0 11=false:=by simpa using ha
  have y2:=AA (show Cb k ⟨kk,e,a,b,c,nm⟩ kind=3 by unfold Cb;simp[ky]);have HA:=AA ky;clear ha ky h hk;go_in;go_wp2_with (refine(EN _ _).mono ?_;rintro r w2 ⟨rfl,rfl⟩;rw[HA.out]);go_ret;exact⟨Cl y2.out.symm,al⟩
def Ml(w0:World)(g:Nat)(m i e c:Value)(k:AN)(qs:List (Value×Int))(wr:World):Prop:=
 wr.heap[g]?=some (.cells #[m,i,e,c] 28 (0,0))/\(∃E,Az w0.heap.size wr m E k.mem)/\AO w0.heap.size 91 3 At wr i k.Xy/\DJ w0.heap.size wr e qs (k.V3.take qs.length)/\AO w0.heap.size 96 4 AX wr c k.V0/\Below w0.heap.size w0 wr/\w0.heap.size<=g
def LT(lo:Nat)(T:Nat)(W:World)(x2:Value):Prop:=∃g,x2=.slice (some ⟨g,0,none⟩) 0 0/\lo<=g/\W.heap[g]?=some (.cells #[] T (0,0))
theorem LT.below{lo T:Nat}{W W':World}{x2:Value}(h:LT lo T W x2)(O:Below W.heap.size W W'):LT lo T W' x2:=by obtain⟨g,h0,h1,K⟩:=h;exact⟨g,h0,h1,AB K O⟩
def Vz(lo:Nat)(r:Int)(ts:List ByteArray)(W:World)(x2:Value):Prop:=∃u,x2=.agg #[u,.int .i64 r]/\AO lo 9 1 Ay W u ts
theorem Vz.below{lo:Nat}{r:Int}{ts:List ByteArray}{W W':World}{x2:Value}(h:Vz lo r ts W x2)(O:Below W.heap.size W W'):Vz lo r ts W' x2:=by obtain⟨u,h0,h1⟩:=h;exact⟨u,h0,h1.below O⟩
def Xv(lo:Nat)(r:Int)(ts:List ByteArray)(W:World)(x2:Value):Prop:=∃g u,x2=.slice (some ⟨g,0,none⟩) 1 1/\lo<=g/\W.heap[g]?=some (.cells #[u,.int .i64 r] 66 (0,0))/\AO lo 9 1 Ay W u ts
theorem Xv.below{lo:Nat}{r:Int}{ts:List ByteArray}{W W':World}{x2:Value}(h:Xv lo r ts W x2)(O:Below W.heap.size W W'):Xv lo r ts W' x2:=by obtain⟨g,u,h0,h1,K,h3⟩:=h;exact⟨g,u,h0,h1,AB K O,h3.below O⟩
theorem bS{w:World}{g T:Nat}{a b:Value}(h:w.heap[g]?=some (.cells #[a,b] T (0,0))):Rd w (.slice (some ⟨g,0,none⟩) 1 1) 2 1 [a,b]:=by
 have h0:=yz _ _ 0 _ _ _ h;have h1:=yz _ _ 1 _ _ _ h;refine⟨_,_,rfl,yG _,by simp[maxLen],rfl,nofun,λ_=>⟨g,0,rfl,λj hj=>?_⟩⟩;rw[wK]
 match j,hj with
 |0,_=>exact h0
 |1,_=>exact h1
 |_+2,hj=>exact absurd hj (by omega)
def IY(lo:Nat)(w:World)(v:Value)(k:AN):Prop:=∃m i e c,v=.agg #[m,i,e,c]/\(∃E,Az lo w m E k.mem)/\AO lo 91 3 At w i k.Xy/\DJ lo w e [] []/\AO lo 96 4 AX w c k.V0
theorem IY.below{lo:Nat}{w w':World}{k:AN}(h:IY lo w v k)(O:Below w.heap.size w w'):IY lo w' v k:=by obtain⟨m,i,e,c,h0,⟨E,h1⟩,K,h3,h4⟩:=h;exact⟨m,i,e,c,h0,⟨E,h1.below O⟩,K.below O,h3.below O,h4.below O⟩
def cH(w:World)(row:Option Nat):Prop:=∀q,row=some q->∃jG,w.heap[q]?=some (.cells jG 66 (0,0))
theorem cZ{lo:Nat}{w1 w2:World}{row:Option Nat}{E:List Value}{lm:List (List Int)}(o:Az lo w1 v E lm)(K:w1.grownBy w2 row)(hr:cH w1 row):Az lo w2 v E lm:=by
 cases row with
 |none=>exact o.below (Below.zF K)
 |some q=>obtain⟨jG,hc⟩:=hr q rfl;exact o.yW K hc
theorem bz{α:Type}{lo e sz:Nat}{cs:α->List Value}{w1 w2:World}{row:Option Nat}{xs:List α}(o:AO lo e sz cs w1 v xs)(K:w1.grownBy w2 row)(hr:cH w1 row)(he:e≠66):AO lo e sz cs w2 v xs:=by
 cases row with
 |none=>exact o.below (Below.zF K)
 |some q=>obtain⟨jG,hc⟩:=hr q rfl;exact o.yW K hc he
theorem Ml.yV{w0:World}{g:Nat}{m i e c:Value}{k:AN}{qs:List (Value×Int)}{wr w1 w2:World}(h:Ml w0 g m i e c k qs wr)(O:Below wr.heap.size wr w1)(K:w1.grownBy w2 e.ownBlock):w2.heap[g]?=some (.cells #[m,i,e,c] 28 (0,0)):=by
 have im:=AB h.1 O;exact(K.block g (AW im) λe'=>Dx (h.2.2.2.1.1.below O) im (by decide) e'.symm).trans im
theorem Ml.step{w0:World}{g:Nat}{m i c u v':Value}{k:AN}{qs:List (Value×Int)}{wr w1 w2:World}{e:Em}(h:Ml w0 g m i ev c k qs wr)(O:Below wr.heap.size wr w1)(hu:AO wr.heap.size 9 1 Ay w1 u e.Tj)(he:k.V3[qs.length]?=some e)
 (h1:w2.ownsRow w0.heap.size 66 2 v' (qs.length+1) (CZ Eu qs++[u,.int .i64 e.root]))(K:w1.grownBy w2 ev.ownBlock):Ml w0 g m i v' c k (qs++[(u,e.root)]) (w2.setCell ⟨g,2,none⟩ v'):=by
 have fe:=h.yV O K;obtain⟨hB,⟨E,o1⟩,o2,o3,o4,gg,hg⟩:=h;have P:=DJ.push o3 O gg.size (yG _) hu h1 K;have hr:cH w1 ev.ownBlock:=λq hq=>A9 (o3.1.below O) q hq
 have az:=Ak w2 g 2 v';have ht:k.V3.take (qs++[(u,e.root)]).length=k.V3.take qs.length++[⟨e.Tj,e.root⟩]:=by rw[yA,xQ,DF he]
 refine⟨?_,⟨E,(cZ (o1.below O) K hr).yW az fe⟩,(bz (o2.below O) K hr (by decide)).yW az fe,?_,(bz (o4.below O) K hr (by decide)).yW az fe,?_,hg⟩
 .have:=yF w2 g 2 _ 28 v' fe
  simpa using this
 .rw[ht]
  exact P.yW az fe
 .exact((gg.trans (O.mono gg.size)).grown K (gg.trans (O.mono gg.size)).size (λq hq=>((o3.1.below O).lt q hq).1)).setCell hg _
theorem Lo(m i e c:Value)(k:AN)(w:World)(h:Le w m i e c k)(hk:DP k):Calls prog 85 #[.agg #[m,i,e,c]] w (Pc w k):=by
 obtain⟨h1,K,h3,h4⟩:=h;have jA:=(Ah.1 (Am hk).1).1;have gH:=(A1.1 (Am hk).2.1).1;have i5:k.V0.length<=4:=by have:=hk.V0;simp only[Bd,yD,decide_eq_true_eq] at this;exact this.2
 have jx:∀f,f<k.mem.length->(AH k.mem f).length<=100:=λf hf=>by have:=(A6.1 ((Ah.1 (Am hk).1).2 f (by omega))).1;omega
 obtain⟨N0,N1,al,ds⟩:=Ki w (.cells #[m,i,e,c] 28) (.cells #[.slice none 0 0,.slice none 0 0,.slice none 0 0,.slice none 0 0] 28);obtain⟨X,N,V,D⟩:=AE N0;have fk:=AW N0;have C1:=AA (λW (hW:Below _ _ W)=>Mx m k.mem W ((h1.below al).below hW) (by omega) jx);have RI:=AA (BG.below K al);have RC:=AA (BG.below h4 al);obtain⟨am,cm,rfl,_⟩:=h1.open;obtain⟨ai,ci,rfl,_,_⟩:=K.shape;obtain⟨ae,ce,rfl,lT,g3,eT⟩:=(h3.below al).open;obtain⟨ac,cc,rfl,_,_⟩:=h4.shape;have HE:=AA eT;have Hk:=AA hk;have eR:=AA hk.zY;have nL:k.Xy.length<=100:=by omega
 generalize hW0:(w.alloc _).alloc _=W0 at*;clear h1 K h3 h4 hk jA gH jx eT;go_in;go_wp2_with fail;refine A5 14 46 [.p w.heap.size 0,.v (.slice am k.mem.length cm),.z,.z,.p w.heap.size 1,.v (.slice ai k.Xy.length ci),.z,.z,.z,.p w.heap.size 3,.v (.slice ac k.V0.length cc),.z,.z,.z] (λix vv ww=>match ix with
  |2=>∃fb,Az W0.heap.size ww vv fb k.mem
  |3=>LT W0.heap.size 91 ww vv
  |6=>AO W0.heap.size 91 3 At ww vv k.Xy
  |7=>DJ W0.heap.size ww vv [] []
  |8=>LT W0.heap.size 96 ww vv
  |11=>AO W0.heap.size 96 4 AX ww vv k.V0
  |12=>IY W0.heap.size ww vv k
  |13=>Kp W0.heap.size ww vv
  |_=>True) ?_ ?_ ?_
 .intro i hi o Z a H Y J L h2 A
  match i,hi with
  |0,_|4,_|9,_=>exact sP Z A Y J
  |1,_=>exact sL Z A Y J (hl:=GQ (bc L fk X))
  |2,_=>exact sC Z A Y J (C1.out _ L) (by rintro e w_ ⟨v',fb,rfl,hO,a0⟩;exact⟨_,rfl,⟨fb,hO.lower L.size⟩,a0⟩)
  |5,_=>exact sL Z A Y J (hl:=GV (bc L fk N))
  |10,_=>exact sL Z A Y J (hl:=Wk (bc L fk D))
  |3,_|8,_=>obtain rfl:=yQ Z;clear J Y;refine yP ?_;go_simp;exact A.out _ _ ⟨_,rfl,L.size,yw _ _⟩ (AJ _ _)
  |6,_=>obtain rfl:=yQ Z;have d3:LT W0.heap.size 91 H (a.tmps[8]?.getD undef):=BY J 3;have d5:(a.tmps[10]?.getD undef)=.slice ai k.Xy.length ci:=BY J 5;clear J Y;refine yP ?_;obtain⟨g_,gp,gl,gj⟩:=d3;obtain⟨v7,w4,bB,r1,r2,_⟩:=Dm (lo:=W0.heap.size) (w:=H) (t:=24) (ty:=24) 91 _ 3 32 underlying24 Tryz.zP rfl (by decide) gj gl (BG.below RI.out L) (Fc _) (by omega);refine Cq rfl (Bp gp) (Bp d5) bB ?_;exact A.out _ _ r1 r2
  |7,_=>obtain rfl:=yQ Z;clear J Y;refine yP ?_;go_simp;exact A.out _ _ ⟨AO.lower (Cd Eu _ _ _) L.size,GE.nil,DO.nil⟩ (AJ _ _)
  |11,_=>obtain rfl:=yQ Z;have d8:LT W0.heap.size 96 H (a.tmps[13]?.getD undef):=BY J 8;have es:(a.tmps[15]?.getD undef)=.slice ac k.V0.length cc:=BY J 10;clear J Y;refine yP ?_;obtain⟨g_,gp,gl,gj⟩:=d8;obtain⟨v7,w4,bB,r1,r2,_⟩:=Dm (lo:=W0.heap.size) (w:=H) (t:=26) (ty:=26) 96 _ 4 32 underlying26 Tryz.zQ rfl (by decide) gj gl (BG.below RC.out L) (J9 _) (by omega);refine Cq rfl (Bp gp) (Bp es) bB ?_;exact A.out _ _ r1 r2
  |12,_=>
   obtain rfl:=yQ Z;have d2:∃fb,Az W0.heap.size H (a.tmps[7]?.getD undef) fb k.mem:=BY J 2
   have d6:AO W0.heap.size 91 3 At H (a.tmps[11]?.getD undef) k.Xy:=BY J 6;have d7:DJ W0.heap.size H (a.tmps[12]?.getD undef) [] []:=BY J 7;have fN:AO W0.heap.size 96 4 AX H (a.tmps[16]?.getD undef) k.V0:=BY J 11;clear J Y;generalize e7:a.tmps[7]?.getD undef=m' at d2;generalize jd:a.tmps[11]?.getD undef=i' at d6;generalize e12:a.tmps[12]?.getD undef=e' at d7;generalize e16:a.tmps[16]?.getD undef=c' at fN;have W:Hid (IY W0.heap.size H (.agg #[m',i',e',c']) k):=AA ⟨m',i',e',c',rfl,d2,d6,d7,fN⟩;obtain⟨_,d2⟩:=d2;obtain⟨_,_,rfl,_,_⟩:=d2.1.rd.shape;obtain⟨_,_,rfl,_,_⟩:=d6.rd.shape;obtain⟨_,_,rfl,_,_⟩:=d7.1.rd.shape;obtain⟨_,_,rfl,_,_⟩:=fN.rd.shape;clear d2 d6 d7 fN;refine yP ?_;go_simp;exact A.out _ _ W.out (yO _ _)
  |13,_=>obtain rfl:=yQ Z;clear J Y;refine yP ?_;go_simp;exact A.out _ _ ⟨_,rfl,L.size,yw _ _⟩ (AJ _ _)
 .intro i hi vv wz cT bp hz
  match i,hi with
  |2,_=>exact(by obtain⟨fb,h'⟩:=hz;exact⟨fb,h'.below bp⟩)
  |3,_|8,_=>exact(LT.below hz bp)
  |6,_|11,_=>exact(AO.below hz bp)
  |7,_=>exact(DJ.below hz bp)
  |12,_=>exact(IY.below hz bp)
  |13,_=>exact(Kp.below hz bp)
  |0,_|1,_|4,_|5,_|9,_|10,_=>exact hz
 .intro E H hR L
  have dk:IY W0.heap.size H (E 12) k:=Bg hR 12;have dq:Kp W0.heap.size H (E 13):=Bg hR 13;obtain⟨g,dq,hg,hB⟩:=dq;clear hR;simp only[Aj,Ag,yN,yJ,yK,yI,dq];simp;generalize E 12=z12 at dk ⊢;clear dq;obtain⟨m',i',e',c',rfl,⟨fb,o1⟩,o2,o3,o4⟩:=dk;have az:=Ao (Ao (Ao (Ak H g 0 m') 1 i') 2 e') 3 c';have St:Ml W0 g m' i' e' c' k [] ((((H.setCell ⟨g,0,none⟩ m').setCell ⟨g,1,none⟩ i').setCell ⟨g,2,none⟩ e').setCell ⟨g,3,none⟩ c'):=
   ⟨Cw hB,⟨fb,o1.yW az hB⟩,o2.yW az hB,o3.yW az hB,o4.yW az hB,(((L.setCell hg _).setCell hg _).setCell hg _).setCell hg _,hg⟩
  obtain⟨pa,pc,rfl,_,_⟩:=o1.1.rd.shape;obtain⟨qa,qc,rfl,_,_⟩:=o2.rd.shape;obtain⟨ea,ec,l1,_,_⟩:=o3.1.rd.shape;rw[List.length_nil] at l1;subst l1;obtain⟨ra,rc,rfl,_,_⟩:=o4.rd.shape;obtain⟨b0,b1,b2,b3⟩:=AE hB;have bt:=AK hB;have oZ:=AA N0;have kX:=AA N1;have oL:=AA hW0;have kQ:=AA ds;clear o1 o2 o3 o4 L hB az X N V D N0 N1 hW0 ds RI RC C1;go_wp2_with fail;clear b0 b1 b2 b3 bt;go_loopw [4] (λix wr=>∃(qs:List (Value×Int)) (ev:Value),qs.length<=3/\ix=.int .i64 qs.length/\Ml W0 g (.slice pa fb.length pc) (.slice qa k.Xy.length qc) ev (.slice ra k.V0.length rc) k qs wr) (λix _=>3 - (intOf ix).toNat)
  exact⟨[],_,by simp,rfl,St⟩
  clear St;obtain⟨qs,ev,hq,rfl,St⟩:=hrel;have hH:=eR.out;have jv:=(AE ((St.2.2.2.2.2.1.block _ fk).trans oZ.out)).2.2.1;have iT:=yv fk St.2.2.2.2.2.1.size;have R:=(AE St.1).2.2.1;have gW:=AW St.1;obtain⟨ea,ec,rfl,pH,nT⟩:=St.2.2.2.1.1.rd.shape
  by_cases a7:qs.length<3
  .have lN:qs.length<k.V3.length:=by omega
   obtain⟨be,dr,ua,uc,rfl,f4,D0,D1,hR⟩:=(HE.out.below (St.2.2.2.2.2.1)) qs.length lN;have cl:(qs.length:Int)<k.V3.length:=by omega
   have RS:=AA hR;have j0:=QU Hk.out a7;have jM:=AA St;have oN:=AA hH;have lp:=jv;clear St hR hH jv;go_wp2_with fail;refine A5 18 46 [.p g 2,.v (.slice ea qs.length ec),.z,.p w.heap.size 2,.v (.slice (some ⟨be,dr,none⟩) k.V3.length ce),.i ((qs.length:Int)),.p be (dr+qs.length*2),.p be (dr+qs.length*2),.v (.slice ua (AF k.V3 qs.length).Tj.length uc),.z,.p w.heap.size 2,.v (.slice (some ⟨be,dr,none⟩) k.V3.length ce),.i ((qs.length:Int)),.p be (dr+qs.length*2),.p be (dr+qs.length*2+1),.i ((AF k.V3 qs.length).root),.z,.z] (λix vv ww=>match ix with
    |2=>LT wr.heap.size 9 ww vv
    |9=>AO wr.heap.size 9 1 Ay ww vv (AF k.V3 qs.length).Tj
    |16=>Vz wr.heap.size (AF k.V3 qs.length).root (AF k.V3 qs.length).Tj ww vv
    |17=>Xv wr.heap.size (AF k.V3 qs.length).root (AF k.V3 qs.length).Tj ww vv
    |_=>True) ?_ ?_ ?_
   .intro i hi o Z a H Y J L h2 A
    have bw:=bc L gW R;have bs:=bc L iT lp;have bK:=bc L f4 D0;have bN:=bc L f4 D1
    match i,hi with
    |0,_|3,_|5,_|7,_|10,_|12,_|14,_=>exact sP Z A Y J
    |1,_|4,_|11,_=>exact sL Z A Y J (hl:=OZ ‹_›)
    |6,_|13,_=>exact sI Z A Y J (hr:=by clear J Y A;go_simp)
    |8,_=>exact sL Z A Y J (hl:=KN ‹_›)
    |15,_=>exact sL Z A Y J (hl:=Fy ‹_›)
    |2,_=>clear bw bs bK bN;obtain rfl:=yQ Z;clear J Y;refine yP ?_;go_simp;exact A.out _ _ ⟨_,rfl,L.size,yw _ _⟩ (AJ _ _)
    |9,_=>clear bw bs bK bN;obtain rfl:=yQ Z;have d2:LT wr.heap.size 9 H (a.tmps[27]?.getD undef):=BY J 2;have d8:(a.tmps[33]?.getD undef)=.slice ua (AF k.V3 qs.length).Tj.length uc:=BY J 8;clear J Y;refine yP ?_;obtain⟨g_,gp,gl,gj⟩:=d2;obtain⟨v7,w4,bB,r1,r2,_⟩:=Dm (lo:=wr.heap.size) (w:=H) (t:=64) (ty:=64) 9 _ 1 16 underlying64 Tryz.zU rfl (by decide) gj gl (BG.below RS.out L) (IA _) (by omega);refine Cq rfl (Bp gp) (Bp d8) bB ?_;exact A.out _ _ r1 r2
    |16,_=>clear bw bs bK bN;obtain rfl:=yQ Z;have d9:AO wr.heap.size 9 1 Ay H (a.tmps[34]?.getD undef) (AF k.V3 qs.length).Tj:=BY J 9;have hD:(a.tmps[40]?.getD undef)=.int .i64 ((AF k.V3 qs.length).root):=BY J 15;clear J Y;generalize e34:a.tmps[34]?.getD undef=u at d9;have W:Hid (Vz wr.heap.size (AF k.V3 qs.length).root (AF k.V3 qs.length).Tj H (.agg #[u,.int .i64 (AF k.V3 qs.length).root])):=AA ⟨u,rfl,d9⟩;obtain⟨_,_,rfl,_,_⟩:=d9.rd.shape;clear d9;refine yP ?_;go_simp;exact A.out _ _ W.out (yO _ _)
    |17,_=>clear bw bs bK bN;obtain rfl:=yQ Z;have l3:Vz wr.heap.size (AF k.V3 qs.length).root (AF k.V3 qs.length).Tj H (a.tmps[41]?.getD undef):=BY J 16;clear J Y;obtain⟨u,l3,d9⟩:=l3;have HD:=AA d9;obtain⟨_,_,rfl,_,_⟩:=d9.rd.shape;clear d9;refine yP ?_;go_simp;exact A.out _ _ ⟨_,_,rfl,L.size,yw _ _,HD.out.below (AJ _ _)⟩ (AJ _ _)
    |_+18,hq=>omega
   .intro i hi vv wz cT bp hz
    match i,hi with
    |2,_=>exact(LT.below hz bp)
    |9,_=>exact(AO.below hz bp)
    |16,_=>exact(Vz.below hz bp)
    |17,_=>exact(Xv.below hz bp)
    |0,_|1,_|3,_|4,_|5,_|6,_|7,_|8,_|10,_|11,_|12,_|13,_|14,_|15,_=>exact hz
    |_+18,hq=>omega
   .intro E H hR L
    have q1:(E 1)=.slice ea qs.length ec:=Bg hR 1;have iC:Xv wr.heap.size (AF k.V3 qs.length).root (AF k.V3 qs.length).Tj H (E 17):=Bg hR 17;clear hR;simp only[Aj,Ag,yN,yJ,yK,yI,q1];simp;generalize E 17=z17 at iC ⊢;clear q1;obtain⟨gb,u,rfl,_,ga,hu⟩:=iC;have gg:=jM.out.2.2.2.2.2.1;have lk:=(L.cell (p:=⟨g,2,none⟩) gW).trans R;have nD:=yv gW L.size;have Q:=AA (bS ga);have HU:=AA hu;have hb:=AA (jM.out.2.2.2.1.1.below L);have HG:=AA L;have nW:=(gg.trans (L.mono gg.size)).size;obtain⟨_,_,rfl,_,_⟩:=hu.rd.shape;clear ga hu L D0 D1 R gg;go_wp2_with (at_builtin;go_must (refine Bm (lo:=W0.heap.size) (n:=qs.length) (xs:=CZ Eu qs) (m:=1) rfl rfl 66 (.agg #[.slice none 0 0,.int .i64 0]) 2 32 underlying25 Tryz.ze rfl (by decide) rfl hb.out rfl Q.out (by simp[xR]) (by unfold maxLen;omega) (by omega) nW ?_;intro o' w9 k1 k2 k3 k4;have S:=AA (jM.out.step HG.out HU.out (show k.V3[qs.length]?=some (AF k.V3 qs.length) by unfold AF;exact BD lN) k1 k2);have fL:=jM.out.yV HG.out k2;have z2:=(AE fL).2.2.1;have pO:=AK fL;have j8:=AW fL;obtain⟨_,_,rfl,_,_⟩:=(Rd.of_owns k1).shape;clear k1 k2 k3 k4 fL lk));go_roundw;exact⟨_,_,by rw[yA,xQ];omega,by rw[yA,xQ];go_num,S.out⟩;simp[intOf];omega
  .have e3:qs.length=3:=by omega
   obtain⟨hB,⟨lw,o1⟩,o2,o3,o4,bf,_⟩:=St;have o5:DJ W0.heap.size wr (.slice ea qs.length ec) qs k.V3:=by have:=o3;rwa [List.take_of_length_le (by omega)] at this
   have gM:=(bf.block _ (by have:=kQ.out;omega)).trans kX.out;have S:=AA (show ∀w',wr.grownBy w' (some (w.heap.size+1))->Pc w k (.returned (.agg #[_,_,(.slice ea qs.length ec),_])) w' from λw' iX=>⟨_,_,_,_,rfl,⟨⟨lw,(o1.yW iX gM).lower al.size⟩,(o2.yW iX gM).lower al.size,⟨qs,(o5.yW iX gM).lower al.size⟩,(o4.yW iX gM).lower al.size⟩,(al.trans (bf.mono al.size)).grown iX (al.trans (bf.mono al.size)).size (λk hk=>by cases hk;omega)⟩)
   obtain⟨E0,E1,E2,E3⟩:=AE (Cw (m':=.slice pa fb.length pc) (i':=.slice qa k.Xy.length qc) (e':=.slice ea qs.length ec) (c':=.slice ra k.V0.length rc) gM);have HE:=AA (yk E0 (yk E1 (yk E2 E3)));have az:wr.grownBy ((((wr.setCell ⟨w.heap.size+1,0,none⟩ (.slice pa fb.length pc)).setCell ⟨w.heap.size+1,1,none⟩ (.slice qa k.Xy.length qc)).setCell ⟨w.heap.size+1,2,none⟩ (.slice ea qs.length ec)).setCell ⟨w.heap.size+1,3,none⟩ (.slice ra k.V0.length rc)) (some (w.heap.size+1)):=Ao (Ao (Ao (Ak wr (w.heap.size+1) 0 _) 1 _) 2 _) 3 _;obtain⟨b0,b1,b2,b3⟩:=AE hB;obtain⟨c0,c1,c2,c3⟩:=AE gM;have bt:=AK gM;have gV:¬(qs.length:Int)<k.V3.length:=by omega
   have lp:=jv;clear hB gM o1 o2 o3 o4 o5 E0 E1 E2 E3 e3 jv hH;go_wp2_with fail;exact yC (v:=.agg #[_,_,_,_]) (by simp[results,Tryz.results85,go_sem,HE.out]) rfl (S.out _ az)
theorem Rs(m iv ev cv:Value)(k:AN)(kk b c:Int)(en z:Nat)(nm:ByteArray)(w:World)(h:Le w m iv ev cv k)(hk:DP k)(cN:en<3)(cg:z<12)(ke:kk=4->Bi b=true):
 Calls prog 212 #[.agg #[m,iv,ev,cv],.agg #[.int .i64 kk,.int .i64 en,.int .i64 z,.int .i64 b,.int .i64 c,.string nm]] w (Mo (if kk=4 then F7 k.mem k.Xy z b (AF k.V3 en).Tj else Cy k.mem k.Xy z) w):=by
 obtain⟨N0,N1,al,ds⟩:=Ki w (.cells #[m,iv,ev,cv] 28) (.cells #[.int .i64 kk,.int .i64 en,.int .i64 z,.int .i64 b,.int .i64 c,.string nm] 34);obtain⟨X,N,V,D⟩:=AE N0;obtain⟨y0,y1,R,y3,y4,y5⟩:=Gy N1;have a5:=AW N0;have bm:=AW N1;have cF:=(Am hk).1;have df:=(Am hk).2.1;have hm:=h.1.below al;have hi:=BG.below h.2.1 al;obtain⟨ae,ce,rfl,_,_,HE⟩:=(h.2.2.1.below al).open;have eG:en<k.V3.length:=by rw[hk.zY];exact cN
 obtain⟨be,dr,ua,uc,rfl,f4,D0,_,hR⟩:=HE en eG;have nS:(en:Int)<k.V3.length:=by omega
 have lQ:¬(en:Int)<0:=by omega
 have C1:=λ(h4:kk=4)=>λW (hW:Below _ _ W)=>SP m iv _ k.mem k.Xy z b (AF k.V3 en).Tj W (hm.below hW) cF (BG.below hi hW) df cg (ke h4) (BG.below hR hW) (If hk cN) (hk.Tj en cN)
 have C2:=AA (λW (hW:Below _ _ W)=>Pb m iv k.mem k.Xy z W (hm.below hW) cF (BG.below hi hW) df cg);obtain⟨am,cm,rfl,_⟩:=hm.open;obtain⟨ai,ci,rfl,_,_⟩:=hi.shape;generalize hW0:(w.alloc _).alloc _=W0 at*
 by_cases h4:kk=4
 .rw[if_pos h4]
  have CP:=AA (C1 h4);subst h4;generalize F7 k.mem k.Xy z b (AF k.V3 en).Tj=res at*;clear h hk N0 N1 HE hm hi hR C1 C2 cF df ke ds;go_in;go_wp2_with fail;refine A5 18 36 [.p w.heap.size 0,.v (.slice am k.mem.length cm),.p w.heap.size 1,.v (.slice ai k.Xy.length ci),.p (w.heap.size+1) 2,.i ((z:Int)),.p (w.heap.size+1) 3,.i b,.p w.heap.size 2,.v (.slice (some ⟨be,dr,none⟩) k.V3.length ce),.p (w.heap.size+1) 1,.i ((en:Int)),.p be (dr+en*2),.p be (dr+en*2),.v (.slice ua (AF k.V3 en).Tj.length uc),.z,.z,.i (res.2)] (λix vv ww=>match ix with
   |15=>∃v',vv=.tuple #[v',.int .i64 res.2]/\AO W0.heap.size 91 3 At ww v' res.1
   |16=>AO W0.heap.size 91 3 At ww vv res.1
   |_=>True) ?_ ?_ ?_
  .intro i hi o Z a H Y J L h2 A
   have bK:=bc L bm R;have bN:=bc L bm y3;have dx:=bc L bm y1
   match i,hi with
   |0,_|2,_|4,_|6,_|8,_|10,_|13,_=>exact sP Z A Y J
   |1,_=>exact sL Z A Y J (hl:=GQ (bc L a5 X))
   |3,_=>exact sL Z A Y J (hl:=GV (bc L a5 N))
   |5,_|7,_|11,_=>exact sL Z A Y J (hl:=Fy ‹_›)
   |9,_=>exact sL Z A Y J (hl:=OZ (bc L a5 V))
   |12,_=>exact sI Z A Y J (hr:=by clear J Y A;go_simp)
   |14,_=>exact sL Z A Y J (hl:=KN (bc L f4 D0))
   |15,_=>exact sC Z A Y J (CP.out _ L) (by rintro e w_ ⟨v',rfl,hO,a0⟩;exact⟨_,rfl,⟨_,rfl,hO.lower L.size⟩,a0⟩)
   |16,_=>
    clear bK bN dx;obtain rfl:=yQ Z;have hD:∃v',(a.tmps[24]?.getD undef)=.tuple #[v',.int .i64 res.2]/\AO W0.heap.size 91 3 At H v' res.1:=BY J 15
    clear J Y;obtain⟨v',hD,hO⟩:=hD;refine yP ?_;go_simp;exact A.out _ _ hO (yO _ _)
   |17,_=>
    clear bK bN dx;obtain rfl:=yQ Z;have hD:∃v',(a.tmps[24]?.getD undef)=.tuple #[v',.int .i64 res.2]/\AO W0.heap.size 91 3 At H v' res.1:=BY J 15
    clear J Y;obtain⟨v',hD,hO⟩:=hD;refine yP ?_;go_simp;exact A.out _ _ rfl (yO _ _)
   |_+18,hq=>omega
  .intro i hi vv wz cT bp hz
   match i,hi with
   |15,_=>exact(by obtain⟨v',h0,h1⟩:=hz;exact⟨v',h0,AO.below h1 bp⟩)
   |16,_=>exact(AO.below hz bp)
   |0,_|1,_|2,_|3,_|4,_|5,_|6,_|7,_|8,_|9,_|10,_|11,_|12,_|13,_|14,_|17,_=>exact hz
   |_+18,hq=>omega
  .intro E H hR L
   have fD:AO W0.heap.size 91 3 At H (E 16) res.1:=Bg hR 16;have iC:(E 17)=.int .i64 (res.2):=Bg hR 17;clear hR;simp only[Aj,Ag,yN,yJ,yK,yI,iC];simp;generalize E 16=z16 at fD ⊢;clear iC;have Q:=AA fD;have cP:=al.trans (L.mono al.size);obtain⟨_,_,rfl,_,_⟩:=fD.rd.shape;clear fD L;go_wp2_with fail;go_ret2;exact⟨_,rfl,Q.out.lower al.size,cP⟩
 .rw[if_neg h4]
  have t4:(kk==4)=false:=by simp[h4]
  generalize Cy k.mem k.Xy z=res at*;clear h hk N0 N1 HE hm hi hR C1 cF df ke ds h4;go_in;go_wp2_with (refine(C2.out _ (yO _ _)).mono ?_;rintro r w2 ⟨v',rfl,hO,b2⟩;have HO:=AA hO;have cP:=al.trans (b2.mono al.size);obtain⟨_,_,rfl,_,_⟩:=hO.rd.shape;clear hO b2);go_ret2;exact⟨_,rfl,HO.out.lower al.size,cP⟩
theorem KE{lo:Nat}{w:World}{t:TypeId}(ty:TypeId)(e:TypeId)(an:Value)(sz bytes:Nat)(ht:prog.underlying t=some (.slice e))(hi:(prog.info? e).map (λi=>(i.zero,i.size,i.bytes))=some (some an,sz,bytes))
 (ng:an.cells.size=sz)(nk:0<sz){v u:Value}{n m:Nat}{xs news:List Value}(fW:w.ownsRow lo e sz v n xs)(hr:Rd w u sz m news)(h1:∀u∈news,u.oneCell'=true)(oe:n+m<=maxLen)(g5:(n+m)*bytes<=140737488355328)(ar:lo<=w.heap.size):
 ∃v' w',(Builtin.append_ #[t,t] ty #[v,u]).run prog w=.ok v' w'/\w'.ownsRow lo e sz v' (n+m) (xs++news)/\w.grownBy w' v.ownBlock/\Below lo w w':=by
 obtain⟨i0,gI,gR,eM,fE⟩:=info_parts hi;obtain⟨ao,c,rfl,j5,fd,hl,eY,hc⟩:=hr;have bf:∀w',w.grownBy w' v.ownBlock->Below lo w w':=λw' hg=>(yO lo w).grown hg ar (λk hk=>(fW.lt k hk).1)
 cases ao with
 |none=>
  have eP:=eY rfl;subst eP;obtain rfl:m=0:=by omega
  have iQ:news=[]:=yh (by simpa using hl);subst iQ;exact⟨v,w,run_append_owned_none (P:=prog) (w:=w) lo t ty e i0 sz ht gI v n xs fW,by simpa using fW,⟨rfl,rfl,rfl,yG _,λ_ _ _=>rfl⟩,yO _ _⟩
 |some ad=>
  obtain⟨v',w',K,h3,h4,_⟩:=run_append_own_at (P:=prog) w lo t ty e i0 an sz bytes ht gI gR eM fE ng nk v n xs fW ad m c news hl (by
   intro j u hu
   rcases Nat.eq_zero_or_pos m with rfl|hm
   .simp at hl
    simp[hl] at hu
   .obtain⟨b,bA,nZ,ew⟩:=hc hm
    obtain rfl:ad=⟨b,bA,none⟩:=by simpa using nZ
    have hj:j<news.length:=(yE.1 hu).1;have kx:(⟨b,bA,none⟩:Addr).add j=⟨b,bA+j,none⟩:=by unfold Addr.add;split<;>simp_all
    rw[kx,ew j (by omega),hu]) h1 oe g5 ar
  exact⟨v',w',K,h3,h4,bf w' h4⟩
def Hz(ss:List ByteArray)(s:ByteArray):List ByteArray×Bool:=if BS ss&&BO s then BR ss s else([],false)
def aS(w:World)(r:List ByteArray×Bool)(e:Ending)(w':World):Prop:=∃v',e=.returned (.tuple #[v',.bool r.2])/\AO w.heap.size 9 1 Ay w' v' r.1/\Below w.heap.size w w'
theorem TU{w:World}{a:Option Addr}{n c k:Nat}(h:BT w (.slice a n c) ss)(hn:n=ss.length)(hk:k<=n):BT w (.slice a k c) (ss.take k):=by
 obtain⟨ao,c',hv,j5,fd,hl,eY,hc⟩:=h;simp only[xS] at hv;obtain⟨rfl,_,rfl⟩:=hv;have fl:(ss.take k).length=k:=by rw[yt];omega
 unfold BT BG;rw[fl];refine⟨_,_,rfl,by omega,fd,by rw[Eo,vq,fl,Nat.mul_one],eY,λie=>?_⟩;obtain⟨b,bA,e,ew⟩:=hc (by omega);refine⟨b,bA,e,λj hj=>?_⟩;have nK:j<k:=by omega
 rw[ew j (by omega),Eo,Eo,List.map_take,List.getElem?_take,if_pos nK]
theorem Yz{w:World}{b bA n c k:Nat}(h:BT w (.slice (some ⟨b,bA,none⟩) n c) ss)(hn:n=ss.length)(hk:k<=n)(b' gP:Nat)(he:k<n->b'=b/\gP=bA+k):BT w (.slice (some ⟨b',gP,none⟩) (n - k) (c - k)) (ss.drop k):=by
 obtain⟨ao,c',hv,j5,fd,hl,eY,hc⟩:=h;simp only[xS] at hv;obtain⟨rfl,_,rfl⟩:=hv;have fl:(ss.drop k).length=n - k:=by rw[xm];omega
 unfold BT BG;rw[fl];refine⟨_,_,rfl,by omega,by omega,by rw[Eo,vq,fl,Nat.mul_one],(by intro e;cases e),λie=>?_⟩;obtain⟨b1,jX,e,ew⟩:=hc (by omega);obtain⟨rfl,rfl⟩:b=b1/\bA=jX:=by simpa using e
 obtain⟨rfl,rfl⟩:=he (by omega);refine⟨_,_,rfl,λj hj=>?_⟩;rw[Nat.add_assoc,ew (k+j) (by omega),Eo,Eo,List.map_drop,List.getElem?_drop]
theorem QT{k:AN}(hk:DP k):k.V0.length<=4:=by have:=hk.V0;simp only[Bd,yD,decide_eq_true_eq] at this;exact this.2
theorem Eb.newRow{T:Nat}{cs:Array Value}{y2:List Nat}{lo g b0:Nat}{w W W':World}{i e c:Value}{k:AN}{gm n dz:Nat}(h:Eb T cs y2 lo g b0 w W (.slice (some ⟨gm,0,none⟩) n dz) i e c k)(hn:n=k.mem.length)(O:Below W.heap.size W W'){v':Value}{r:List Int}(K:AG W.heap.size W' v' r){f:Nat}(hf:f<k.mem.length):
 Eb T cs y2 lo g b0 w (W'.setCell ⟨gm,f,none⟩ v') (.slice (some ⟨gm,0,none⟩) n dz) i e c {k with mem:=k.mem.set f r}:=by
 have h':=h.below O;obtain⟨E,o1⟩:=h.yT.2.2.1;have jw:E.length=k.mem.length:=o1.2.1.1;have S:=Az.set o1 O K (yG _) h.lo (by omega) (show f<E.length by omega);have lB:=o1.below O;obtain⟨jG,hc⟩:=A9 lB.1 gm rfl;obtain⟨hB,hg,_,o2,⟨ps,o3⟩,o4⟩:=h'.yT;exact⟨⟨Ku hB S.2 hc (by decide),hg,⟨_,S.1⟩,o2.yW S.2 hc,⟨ps,o3.yW S.2 hc⟩,o4.yW S.2 hc⟩,Ap h'.yV S.2 (Bt hc h'.yV h.ty.2.2.2.2),AM h'.bel S.2 (yB lB.1 gm rfl).1 h'.lo,yL h'.lo S.2.size,h.ty,h'.kf.row S.2 hc (by decide),λb hr=>⟨(h.rs b hr).1,Ap (h'.rs b hr).2 S.2 (Bt hc (h'.rs b hr).2 (by decide))⟩⟩
def AU.cs(c:AU):Array Value:= #[.int .i64 c.k,.int .i64 c.e,.int .i64 c.a,.int .i64 c.b,.int .i64 c.c,.string c.nm]
abbrev SC(lo n:Nat)(call:AU)(w W:World)(m i e c:Value)(k:AN):Prop:=Eb 34 call.cs [n+2] lo n (n+1) w W m i e c k
theorem SC.start{lo:Nat}{w:World}{m i e c:Value}{k:AN}(h:Dh lo w m i e c k)(ar:lo<=w.heap.size)(call:AU):
 SC lo w.heap.size call w (((w.alloc (.cells #[m,i,e,c] 28)).alloc (.cells call.cs 34)).alloc (.cells #[.slice none 0 0,.slice none 0 0,.slice none 0 0,.slice none 0 0] 28)) m i e c k:=by
 obtain⟨N0,N1,al,ds⟩:=Ki w (.cells #[m,i,e,c] 28) (.cells call.cs 34);generalize(w.alloc (.cells #[m,i,e,c] 28)).alloc (.cells call.cs 34)=W at*;obtain⟨N2,bO⟩:=EH W (.cells #[.slice none 0 0,.slice none 0 0,.slice none 0 0,.slice none 0 0] 28);have O:=al.trans (bO.mono al.size);rw[ds] at N2;refine⟨⟨AB N0 bO,ar,h.below O⟩,AB N1 bO,O.mono ar,yL ar O.size,by decide,Y9.below (λ_ _ _ _=>rfl) O,λb hr=>?_⟩;rw[xF] at hr;subst hr;exact⟨by omega,N2⟩
def dU(m i e c:Value):Prop:=∃am nm cm ai ni ci ae ne ce ac nc cc,m=.slice am nm cm/\i=.slice ai ni ci/\e=.slice ae ne ce/\c=.slice ac nc cc
def LW(lo:Nat)(w:World)(res:Mq)(r:Ending)(w':World):Prop:=∃m i e c,r=.returned (.tuple #[.agg #[m,i,e,c],.int .i64 res.2.1,.int .i64 res.2.2])/\dU m i e c/\(res.2.2=0->Dh lo w' m i e c res.1)/\Below lo w w'/\(∀(b:Nat)(cu:Array Value),w.heap[b]?=some (.cells cu 28 (0,0))->w'.heap[b]?=w.heap[b]?)
section
variable {T:Nat} {cs:Array Value} {y2:List Nat} {lo g b0 b:Nat} {w W W':World} {m i e c:Value} {k:AN}
theorem Eb.ys6{v0 v1 v2 v3 v4 v5:Value}(h:Eb T #[v0,v1,v2,v3,v4,v5] y2 lo g b0 w W m i e c k):W.cell? ⟨b0,0,none⟩=some v0/\W.cell? ⟨b0,1,none⟩=some v1/\W.cell? ⟨b0,2,none⟩=some v2/\W.cell? ⟨b0,3,none⟩=some v3/\W.cell? ⟨b0,4,none⟩=some v4/\W.cell? ⟨b0,5,none⟩=some v5:=Gy h.yV
theorem Eb.K(h:Eb T cs y2 lo g b0 w W m i e c k):Le W m i e c k:=h.yT.2.2.rd
theorem Eb.Ex(h:Eb T cs y2 lo g b0 w W m i e c k):dU m i e c:=by obtain⟨h1,K,h3,h4⟩:=h.K;obtain⟨am,cm,rfl,_⟩:=h1.open;obtain⟨ai,ci,rfl,_,_⟩:=K.shape;obtain⟨ae,ce,rfl,_⟩:=h3.open;obtain⟨ac,cc,rfl,_,_⟩:=h4.shape;exact⟨_,_,_,_,_,_,_,_,_,_,_,_,rfl,rfl,rfl,rfl⟩
theorem Eb.ret(h:Eb T cs [b] lo w.heap.size b0 w W m i e c k)(ar:lo<=b)(ga:w.heap.size<=b){v code:Int}{res:Mq}(hr:res=(k,v,code)):
 ((((W.setCell ⟨b,0,none⟩ m).setCell ⟨b,1,none⟩ i).setCell ⟨b,2,none⟩ e).setCell ⟨b,3,none⟩ c).heap[b]?=some (.cells #[m,i,e,c] 28 (0,0))/\
 LW lo w res (.returned (.tuple #[.agg #[m,i,e,c],.int .i64 v,.int .i64 code])) ((((W.setCell ⟨b,0,none⟩ m).setCell ⟨b,1,none⟩ i).setCell ⟨b,2,none⟩ e).setCell ⟨b,3,none⟩ c):=by
 obtain⟨eN,hB⟩:=h.rs b (xF.2 rfl);subst hr;have az:=Ao (Ao (Ao (Ak W b 0 m) 1 i) 2 e) 3 c;obtain⟨⟨E,o1⟩,o2,⟨ps,o3⟩,o4⟩:=h.yT.2.2;exact⟨Cw hB,m,i,e,c,rfl,h.Ex,λ_=>⟨⟨E,o1.yW az hB⟩,o2.yW az hB,⟨ps,o3.yW az hB⟩,o4.yW az hB⟩,(((h.bel.setCell ar _).setCell ar _).setCell ar _).setCell ar _,λq cu hq=>(Ap ((h.kf q cu (by have:=AW hq;omega) hq).trans hq) (Ao (Ao (Ao (Ak W b 0 m) 1 i) 2 e) 3 c) (by have:=AW hq;omega)).trans hq.symm⟩
theorem Eb.bad(h:Eb T cs [b] lo w.heap.size b0 w W m i e c k)(ar:lo<=b)(ga:w.heap.size<=b){v code:Int}{res:Mq}{k':AN}(hr:res=(k',v,code))(hc:code≠0):
 ((((W.setCell ⟨b,0,none⟩ m).setCell ⟨b,1,none⟩ i).setCell ⟨b,2,none⟩ e).setCell ⟨b,3,none⟩ c).heap[b]?=some (.cells #[m,i,e,c] 28 (0,0))/\
 LW lo w res (.returned (.tuple #[.agg #[m,i,e,c],.int .i64 v,.int .i64 code])) ((((W.setCell ⟨b,0,none⟩ m).setCell ⟨b,1,none⟩ i).setCell ⟨b,2,none⟩ e).setCell ⟨b,3,none⟩ c):=by
 obtain⟨eN,hB⟩:=h.rs b (xF.2 rfl);subst hr;exact⟨Cw hB,m,i,e,c,rfl,h.Ex,λh=>absurd h hc,(((h.bel.setCell ar _).setCell ar _).setCell ar _).setCell ar _,λq cu hq=>(Ap ((h.kf q cu (by have:=AW hq;omega) hq).trans hq) (Ao (Ao (Ao (Ak W b 0 m) 1 i) 2 e) 3 c) (by have:=AW hq;omega)).trans hq.symm⟩
theorem Eb.zs(h:Eb T cs [b] lo g b0 w W m i e c k):(W.cell? ⟨b,0,none⟩=some (.slice none 0 0)/\W.cell? ⟨b,1,none⟩=some (.slice none 0 0)/\W.cell? ⟨b,2,none⟩=some (.slice none 0 0)/\W.cell? ⟨b,3,none⟩=some (.slice none 0 0))/\∀q,W.frozen? ⟨b,q,none⟩=false:=
 have hB:=(h.rs b (xF.2 rfl)).2
 ⟨AE hB,AK hB⟩
def ct(W:World)(lo g b:Nat)(m i e c:Value)(w:World)(res:Mq)(v code:Int):Prop:=(W.cell? ⟨g,0,none⟩=some m/\W.cell? ⟨g,1,none⟩=some i/\W.cell? ⟨g,2,none⟩=some e/\W.cell? ⟨g,3,none⟩=some c)/\((W.cell? ⟨b,0,none⟩=some (.slice none 0 0)/\W.cell? ⟨b,1,none⟩=some (.slice none 0 0)/\W.cell? ⟨b,2,none⟩=some (.slice none 0 0)/\W.cell? ⟨b,3,none⟩=some (.slice none 0 0))/\∀q,W.frozen? ⟨b,q,none⟩=false)/\
 Hid (((((W.setCell ⟨b,0,none⟩ m).setCell ⟨b,1,none⟩ i).setCell ⟨b,2,none⟩ e).setCell ⟨b,3,none⟩ c).cell? ⟨b,0,none⟩=some m/\((((W.setCell ⟨b,0,none⟩ m).setCell ⟨b,1,none⟩ i).setCell ⟨b,2,none⟩ e).setCell ⟨b,3,none⟩ c).cell? ⟨b,1,none⟩=some i/\((((W.setCell ⟨b,0,none⟩ m).setCell ⟨b,1,none⟩ i).setCell ⟨b,2,none⟩ e).setCell ⟨b,3,none⟩ c).cell? ⟨b,2,none⟩=some e/\((((W.setCell ⟨b,0,none⟩ m).setCell ⟨b,1,none⟩ i).setCell ⟨b,2,none⟩ e).setCell ⟨b,3,none⟩ c).cell? ⟨b,3,none⟩=some c)/\
 Hid (LW lo w res (.returned (.tuple #[.agg #[m,i,e,c],.int .i64 v,.int .i64 code])) ((((W.setCell ⟨b,0,none⟩ m).setCell ⟨b,1,none⟩ i).setCell ⟨b,2,none⟩ e).setCell ⟨b,3,none⟩ c))
theorem Eb.fin(h:Eb T cs [w.heap.size+2] lo w.heap.size b0 w W m i e c k)(ar:lo<=w.heap.size){v code:Int}{res:Mq}(hr:res=(k,v,code)):ct W lo w.heap.size (w.heap.size+2) m i e c w res v code:=
 have⟨h1,K⟩:=h.ret (yL ar (wI _ _)) (wI _ _) hr
 ⟨h.xs,h.zs,AA (AE h1),AA K⟩
theorem Eb.yS(h:Eb T cs [w.heap.size+2] lo w.heap.size b0 w W m i e c k)(ar:lo<=w.heap.size){v code:Int}{res:Mq}{k':AN}(hr:res=(k',v,code))(hc:code≠0):ct W lo w.heap.size (w.heap.size+2) m i e c w res v code:=
 have⟨h1,K⟩:=h.bad (yL ar (wI _ _)) (wI _ _) hr hc
 ⟨h.xs,h.zs,AA (AE h1),AA K⟩
end
theorem VK{lo:Nat}{m:Value}{k:AN}{w:World}(h:Dh lo w m iv ev cv k)(ar:lo<=w.heap.size)(hk:DP k)(call:AU)(he:0<=call.e/\call.e<3)(K:call.k=2):
 Calls prog 168 #[.agg #[m,iv,ev,cv],.agg call.cs] w (LW lo w (Ae k call)):=by
 have bC:=SC.start h ar call;have HP:=AA (WA (k:=k) K);have FZ:=AA (λhz=>Js (k:=k) (c:=call) (kind:=1) hz);obtain⟨am,dw,cm,ai,ni,ci,ae,ep,ce,ac,nc,cc,rfl,rfl,rfl,rfl⟩:=bC.Ex;have S0:=AA bC;obtain⟨kk,e,a,b,c,nm⟩:=call;simp only[AU.cs] at S0 HP FZ ⊢;have A:=AA hk;have CF:=AA (λW (h:Le W (.slice am dw cm) (.slice ai ni ci) (.slice ae ep ce) (.slice ac nc cc) k)=>Kz _ _ _ _ k kk e a b c nm 1 W h hk he (.inr rfl));obtain⟨X,N,V,D⟩:=S0.out.xs;obtain⟨y0,y1,R,y3,y4,y5⟩:=S0.out.ys6;generalize hfc:Cb k ⟨kk,e,a,b,c,nm⟩ 1=fc at*;have Hn:Hid (w.heap.size=w.heap.size):=AA rfl;clear h K bC hfc he hk;generalize hW0:((w.alloc _).alloc _).alloc _=W0 at*;go_in;go_wp2_with fail;refine(CF.out _ S0.out.K).mono ?_;rintro r w1 ⟨rfl,bO⟩;have S1:=AA (S0.out.below bO);clear X N V D y0 y1 R y3 y4 y5 bO CF
 by_cases ef:fc=0
 .subst ef
  obtain⟨ed,ie,hm,iW,_⟩:=FZ.out rfl;have ab:=AZ.1 ed;obtain⟨z,rfl⟩:∃n:Nat,a=(n:Int):=⟨a.toNat,by omega⟩
  have cg:z<12:=by omega
  have jC:(Sc k.Xy z).k=1:=iW (by decide);have df:=(Am A.out).2.1;have bu:=AA (show Ae k ⟨kk,e,(z:Int),b,c,nm⟩=if(Sc k.Xy z).r≠0 then(k,0,2) else({k with Xy:=k.Xy.set z AV.zero},0,0) by rw[HP.out];rfl);obtain⟨X,N,V,D⟩:=S1.out.xs;obtain⟨y0,y1,R,y3,y4,y5⟩:=S1.out.ys6
  by_cases er:(Sc k.Xy z).r=0
  focus
   have CG:=AA (λW hi=>Q9 (.slice ai ni ci) k.Xy z W hi df cg jC er)
   have a4:=AA (show Ae k ⟨kk,e,(z:Int),b,c,nm⟩=({k with Xy:=k.Xy.set z AV.zero},0,0) by rw[bu.out,if_neg (by simp[er])]);clear ed ie hm iW jC er df FZ HP bu ab;go_wp2_with fail;refine(CG.out _ S1.out.K.2.1).mono ?_;rintro r w2 ⟨v',rfl,hO,a0⟩;clear X N V D y0 y1 R y3 y4 y5;have S2:=AA (S1.out.zz a0 hO);have jb:=AK (S1.out.below a0).yT.1;have ls:=(S1.out.below a0).xs.2.1;obtain⟨a9,c9,e9,_,_⟩:=hO.rd.shape;generalize wZ _=n9 at e9;subst e9;clear hO a0;generalize hW9:w2.setCell _ _=W9 at S2;obtain⟨⟨X,N,V,D⟩,⟨⟨z0,z1,z2,z3⟩,bt⟩,HE,HR⟩:=S2.out.fin ar (v:=0) (code:=0) (a4.out)
  rotate_left
  focus
   have CG:=AA (λW hi=>SN (.slice ai ni ci) k.Xy z W hi df cg jC er)
   have a4:=AA (show Ae k ⟨kk,e,(z:Int),b,c,nm⟩=(k,0,2) by rw[bu.out,if_pos er]);clear ed ie hm iW jC er df FZ HP bu ab;go_wp2_with fail;refine(CG.out _ S1.out.K.2.1).mono ?_;rintro r w2 ⟨v',rfl,a0⟩;have S2:=AA (S1.out.below a0);clear X N V D y0 y1 R y3 y4 y5 a0;obtain⟨⟨X,N,V,D⟩,⟨⟨z0,z1,z2,z3⟩,bt⟩,HE,HR⟩:=S2.out.yS ar (v:=0) (code:=2) (a4.out) (by decide)
  rotate_left
  all_goals
   go_wp2_with ((try simp only[xV,Exit.then]);with_reducible refine yC ?_ rfl HR.out;obtain⟨E0,E1,E2,E3⟩:=HE.out;simp[results,sd,go_sem,E0,E1,E2,E3])
 .have t1:(fc !=0)=true:=by simp[ef]
  have hc:=AA ef;have a4:=AA (show Ae k ⟨kk,e,a,b,c,nm⟩=(k,0,fc) by rw[HP.out,if_neg ef]);clear ef FZ HP;obtain⟨⟨X,N,V,D⟩,⟨⟨z0,z1,z2,z3⟩,bt⟩,HE,HR⟩:=S1.out.yS ar (v:=0) (code:=fc) (a4.out) (hc.out);go_wp2_with ((try simp only[xV,Exit.then]);with_reducible refine yC ?_ rfl HR.out;obtain⟨E0,E1,E2,E3⟩:=HE.out;simp[results,sd,go_sem,E0,E1,E2,E3])
theorem VL{lo:Nat}{m:Value}{k:AN}{w:World}(h:Dh lo w m iv ev cv k)(ar:lo<=w.heap.size)(hk:DP k)(call:AU)(he:0<=call.e/\call.e<3)(K:call.k=3):
 Calls prog 169 #[.agg #[m,iv,ev,cv],.agg call.cs] w (LW lo w (Ae k call)):=by
 have bC:=SC.start h ar call;have HP:=AA (WB (k:=k) K);have FZ:=AA (λhz=>Js (k:=k) (c:=call) (kind:=1) hz);have cF:=(Am hk).1;obtain⟨gm,a6,rfl,_⟩:=Eb.mems bC cF;obtain⟨am,dw,cm,ai,ni,ci,ae,ep,ce,ac,nc,cc,em,rfl,rfl,rfl⟩:=bC.Ex;clear em;have S0:=AA bC;obtain⟨kk,e,a,b,c,nm⟩:=call;simp only[AU.cs] at S0 HP FZ ⊢;have A:=AA hk;have CF:=AA (λW (h:Le W (.slice (some ⟨gm,0,none⟩) 12 a6) (.slice ai ni ci) (.slice ae ep ce) (.slice ac nc cc) k)=>Kz _ _ _ _ k kk e a b c nm 1 W h hk he (.inr rfl));obtain⟨X,N,V,D⟩:=S0.out.xs;obtain⟨y0,y1,R,y3,y4,y5⟩:=S0.out.ys6;generalize hfc:Cb k ⟨kk,e,a,b,c,nm⟩ 1=fc at*;have eJ:=AA cF;clear h K bC hfc he hk cF;generalize hW0:((w.alloc _).alloc _).alloc _=W0 at*;go_in;go_wp2_with fail;refine(CF.out _ S0.out.K).mono ?_;rintro r w1 ⟨rfl,bO⟩;have S1:=AA (S0.out.below bO);clear X N V D y0 y1 R y3 y4 y5 bO CF
 by_cases ef:fc=0
 .subst ef
  obtain⟨ed,ie,hm,iW,_⟩:=FZ.out rfl;have ab:=AZ.1 ed;obtain⟨z,rfl⟩:∃n:Nat,a=(n:Int):=⟨a.toNat,by omega⟩
  have cg:z<12:=by omega
  have ft:(z:Int)<12:=by omega
  have bu:=AA (show Ae k ⟨kk,e,(z:Int),b,c,nm⟩=if Bh b 0 3=false∨EB c=false then(k,0,3) else({k with mem:=Ci k.mem z b.toNat c},0,0) by rw[HP.out];rfl);obtain⟨X,N,V,D⟩:=S1.out.xs;obtain⟨y0,y1,R,y3,y4,y5⟩:=S1.out.ys6;clear ed ie hm iW ab FZ HP;cases bY:Bh b 0 3
  .have a4:=AA (show Ae k ⟨kk,e,(z:Int),b,c,nm⟩=(k,0,3) by rw[bu.out,if_pos (.inl bY)])
   have hM:=AA bY;clear bY bu;go_wp2_with fail;refine(Cx _ _ _ _).mono ?_;rintro r w2 ⟨rfl,rfl⟩;rw[hM.out];clear X N V D y0 y1 R y3 y4 y5;obtain⟨⟨X,N,V,D⟩,⟨⟨z0,z1,z2,z3⟩,bt⟩,HE,HR⟩:=S1.out.yS ar (v:=0) (code:=3) (a4.out) (by decide);go_wp2_with ((try simp only[xV,Exit.then]);with_reducible refine yC ?_ rfl HR.out;obtain⟨E0,E1,E2,E3⟩:=HE.out;simp[results,uQ,go_sem,E0,E1,E2,E3])
  .cases ij:EB c
   .have a4:=AA (show Ae k ⟨kk,e,(z:Int),b,c,nm⟩=(k,0,3) by rw[bu.out,if_pos (.inr ij)])
    have hM:=AA bY;have kT:=AA (show Bh c 0 9999=false from ij);clear bY bu ij;go_wp2_with fail;refine(Cx _ _ _ _).mono ?_;rintro r w2 ⟨rfl,rfl⟩;rw[hM.out];go_wp2_with fail;refine(Cx _ _ _ _).mono ?_;rintro r w2 ⟨rfl,rfl⟩;rw[kT.out];clear X N V D y0 y1 R y3 y4 y5;obtain⟨⟨X,N,V,D⟩,⟨⟨z0,z1,z2,z3⟩,bt⟩,HE,HR⟩:=S1.out.yS ar (v:=0) (code:=3) (a4.out) (by decide);go_wp2_with ((try simp only[xV,Exit.then]);with_reducible refine yC ?_ rfl HR.out;obtain⟨E0,E1,E2,E3⟩:=HE.out;simp[results,uQ,go_sem,E0,E1,E2,E3])
   .have a4:=AA (show Ae k ⟨kk,e,(z:Int),b,c,nm⟩=({k with mem:=Ci k.mem z b.toNat c},0,0) by rw[bu.out,if_neg (by simp[bY,ij])])
    have bb:=AZ.1 bY;obtain⟨bn,rfl⟩:∃n:Nat,b=(n:Int):=⟨b.toNat,by omega⟩
    have eQ:bn<4:=by omega
    have kt:(bn:Int)<4:=by omega
    have hM:=AA bY;have kT:=AA (show Bh c 0 9999=true from ij);obtain⟨gw,cz,x3,fm,g2,_⟩:=Eb.mrow S1.out eJ.out cg;obtain⟨bm,a5,_,_⟩:=S1.out.lts;have eO:gm<w1.heap.size:=yM _ _ x3;clear bY ij bb bu;go_wp2_with fail;refine(Cx _ _ _ _).mono ?_;rintro r w2 ⟨rfl,rfl⟩;rw[hM.out];go_wp2_with fail;refine(Cx _ _ _ _).mono ?_;rintro r w2 ⟨rfl,rfl⟩;rw[kT.out];go_wp2_with fail;refine Ac 10 40 [.p w.heap.size 0,.s gm 12 a6,.p (w.heap.size+1) 2,.i ((z:Int)),.p gm z,.s gw 4 cz,.p (w.heap.size+1) 3,.i ((bn:Int)),.p (w.heap.size+1) 4,.i c] (λ_ _ _=>True) ?_ ?_
    .intro i hi o Z a H Y J L h2 A
     have bs:=bc L bm R;have bN:=bc L bm y3;have cC:=bc L bm y4
     match i,hi with
     |0,_|2,_|6,_|8,_=>exact sP Z A Y J
     |1,_=>exact sL Z A Y J (hl:=GQ (bc L a5 X))
     |3,_|7,_|9,_=>exact sL Z A Y J (hl:=Fy ‹_›)
     |4,_=>exact sI Z A Y J (hr:=by clear J Y A;go_simp)
     |5,_=>exact sL Z A Y J (hl:=K9 (bc L eO x3))
    .intro E H hR L
     have q5:(E 5)=.slice (some ⟨gw,0,none⟩) 4 cz:=Bg hR 5;have q7:(E 7)=.int .i64 bn:=Bg hR 7;have q9:(E 9)=.int .i64 c:=Bg hR 9;clear hR;simp only[Aj,Ag,yN,yJ,yK,yI,q5,q7,q9];simp;clear q5 q7 q9;have S2:=AA (S1.out.below L);obtain⟨kC,fv,D2,_,_,hC,Fr,_,_,_,hS⟩:=Eb.mrow S2.out eJ.out cg;have eD:=D2.symm.trans ((L.cell (p:=⟨gm,z,none⟩) eO).trans x3);cases eD;have D3:=hC bn eQ;have S3:=AA (hS bn c eQ);generalize hW9:H.setCell _ _=W9 at S3;clear X N V D y0 y1 R y3 y4 y5 x3 D2 hS L S1 hC;obtain⟨⟨X,N,V,D⟩,⟨⟨z0,z1,z2,z3⟩,bt⟩,HE,HR⟩:=S3.out.fin ar (v:=0) (code:=0) (a4.out);go_wp2_with ((try simp only[xV,Exit.then]);with_reducible refine yC ?_ rfl HR.out;obtain⟨E0,E1,E2,E3⟩:=HE.out;simp[results,uQ,go_sem,E0,E1,E2,E3])
 .have t1:(fc !=0)=true:=by simp[ef]
  have hc:=AA ef;have a4:=AA (show Ae k ⟨kk,e,a,b,c,nm⟩=(k,0,fc) by rw[HP.out,if_neg ef]);clear ef FZ HP;obtain⟨⟨X,N,V,D⟩,⟨⟨z0,z1,z2,z3⟩,bt⟩,HE,HR⟩:=S1.out.yS ar (v:=0) (code:=fc) (a4.out) (hc.out);go_wp2_with ((try simp only[xV,Exit.then]);with_reducible refine yC ?_ rfl HR.out;obtain⟨E0,E1,E2,E3⟩:=HE.out;simp[results,uQ,go_sem,E0,E1,E2,E3])
def FV(w:World)(b:Nat)(m i e c:Value):World:=(((w.setCell ⟨b,0,none⟩ m).setCell ⟨b,1,none⟩ i).setCell ⟨b,2,none⟩ e).setCell ⟨b,3,none⟩ c
def GA(W:World)(b:Nat)(m i e c:Value)(t:Bool)(ww:World):Prop:=match t with
 |false=>Below W.heap.size W ww
 |true=>∃wz,Below W.heap.size W wz/\Below wz.heap.size (FV wz b m i e c) ww
theorem GA.grow{W:World}{b:Nat}{m i e c:Value}{cT:World}(h:GA W b m i e c t ww)(O:Below ww.heap.size ww cT):GA W b m i e c t cT:=by
 cases t
 .exact Below.trans h (O.mono (Below.size h))
 .obtain⟨wz,h1,K⟩:=h
  exact⟨wz,h1,K.trans (O.mono (by have:=K.size;simpa[FV] using this))⟩
theorem GA.cell{W:World}{b:Nat}{m i e c:Value}(h:GA W b m i e c t ww){g o:Nat}(hp:g<W.heap.size)(eN:g≠b):ww.cell? ⟨g,o,none⟩=W.cell? ⟨g,o,none⟩:=by
 cases t
 .exact uu (p:=⟨g,o,none⟩) h hp
 .obtain⟨wz,h1,K⟩:=h
  have hz:g<wz.heap.size:=yv hp h1.size;have az:wz.grownBy (FV wz b m i e c) (some b):=Ao (Ao (Ao (Ak wz b 0 m) 1 i) 2 e) 3 c;exact(uu (p:=⟨g,o,none⟩) K hz).trans ((Hh az hz (λe=>eN (yQ e).symm)).trans (h1.cell (p:=⟨g,o,none⟩) hp))
theorem GX{w:World}{g T:Nat}{a b c:Value}(h:w.heap[g]?=some (.cells #[a,b,c] T (0,0))):w.cell? ⟨g,0,none⟩=some a/\w.cell? ⟨g,1,none⟩=some b/\w.cell? ⟨g,2,none⟩=some c:=
 ⟨yz _ _ 0 _ _ _ h,yz _ _ 1 _ _ _ h,yz _ _ 2 _ _ _ h⟩
theorem XX{m:List (List Int)}{root a fr:Nat}{wb:Bool}(h:Bv m root a=(0,fr,wb)):fr<12:=by
 unfold Bv at h
 split at h
 .split at h
  .next K=>cases h;exact ET K
  .cases h
 .cases h
theorem Eb.yW{T:Nat}{cs:Array Value}{y2:List Nat}{lo g b0 q:Nat}{w W W':World}{m i e c:Value}{k:AN}(h:Eb T cs y2 lo g b0 w W m i e c k)(hT:T≠98){cu:Array Value}(hB:W.heap[q]?=some (.cells cu 98 (0,0)))(hq:lo<=q)(hg:W.grownBy W' (some q)):Eb T cs y2 lo g b0 w W' m i e c k:=by
 obtain⟨hK,ar,⟨E,o1⟩,o2,⟨ps,o3⟩,o4⟩:=h.yT;exact⟨⟨Ku hK hg hB (by decide),ar,⟨E,o1.yW hg hB⟩,o2.yW hg hB,⟨ps,o3.yW hg hB⟩,o4.yW hg hB⟩,Ap h.yV hg (Bt hB h.yV hT.symm),AM h.bel hg hq h.lo,yL h.lo hg.size,h.ty,h.kf.row hg hB (by decide),λb hr=>⟨(h.rs b hr).1,Ap (h.rs b hr).2 hg (Bt hB (h.rs b hr).2 (by decide))⟩⟩
theorem Eb.place{T:Nat}{cs:Array Value}{y2:List Nat}{lo g b0 q:Nat}{w W:World}{m i e c x y an:Value}{k:AN}(h:Eb T cs y2 lo g b0 w W m i e c k)(hT:T≠98)(hB:W.heap[q]?=some (.cells #[x,y,an] 98 (0,0)))(hq:lo<=q)(u v t:Value):
 Eb T cs y2 lo g b0 w (((W.setCell ⟨q,0,none⟩ u).setCell ⟨q,1,none⟩ v).setCell ⟨q,2,none⟩ t) m i e c k/\(((W.setCell ⟨q,0,none⟩ u).setCell ⟨q,1,none⟩ v).setCell ⟨q,2,none⟩ t).heap[q]?=some (.cells #[u,v,t] 98 (0,0)):=by
 refine⟨h.yW hT hB hq (Ao (Ao (Ak W q 0 u) 1 v) 2 t),?_⟩;have h1:=yF W q 0 _ 98 u hB;have K:=yF _ q 1 _ 98 v h1;have h3:=yF _ q 2 _ 98 t K;simpa using h3
theorem Eb.place2{T:Nat}{cs:Array Value}{y2:List Nat}{lo g b0 q:Nat}{w W:World}{m i e c x y an:Value}{k:AN}(h:Eb T cs y2 lo g b0 w W m i e c k)(hT:T≠98)(hB:W.heap[q]?=some (.cells #[x,y,an] 98 (0,0)))(hq:lo<=q)(u t:Value):
 Eb T cs y2 lo g b0 w ((W.setCell ⟨q,0,none⟩ u).setCell ⟨q,2,none⟩ t) m i e c k/\((W.setCell ⟨q,0,none⟩ u).setCell ⟨q,2,none⟩ t).heap[q]?=some (.cells #[u,y,t] 98 (0,0)):=by
 refine⟨h.yW hT hB hq (Ao (Ak W q 0 u) 2 t),?_⟩;have h1:=yF W q 0 _ 98 u hB;have h3:=yF _ q 2 _ 98 t h1;simpa using h3
theorem LW.below{lo:Nat}{w W W':World}{res:Mq}{r:Ending}(h:LW lo w res r W)(ar:lo<=W.heap.size)(O:Below W.heap.size W W'):LW lo w res r W':=by
 obtain⟨m,i,e,c,h1,hs,K,h3,h4⟩:=h;exact⟨m,i,e,c,h1,hs,λhc=>(K hc).below O,h3.trans (O.mono ar),λb cu hB=>(O.block b (AW ((h4 b cu hB).trans hB))).trans (h4 b cu hB)⟩
theorem QW(v:Value)(m:List (List Int))(root a:Nat)(w:World)(h:Bf w v m)(cF:Bq m=true)(hr:root<12)(ha:a<64):
 Calls prog 165 #[v,.int .i64 root,.int .i64 a] w λe w'=>e=.returned (IV m root a)/\Below w.heap.size w w':=by
 obtain⟨q,c,rfl,hc,fd,H0⟩:=h.open;have hl:=(Ah.1 cF).1;unfold maxLen at fd;rw[hl] at hc ⊢;obtain⟨b,bA,b2,jW,c2,rfl,O,x3,a0,D2⟩:=H0.word cF hr (show a/16<4 by omega);have D':=((AJ w (.cells #[.int .i64 0,.int .i64 0,.bool false] 98)).cell (p:=⟨b,bA+root,none⟩) O).trans x3;have p8:=((AJ w (.cells #[.int .i64 0,.int .i64 0,.bool false] 98)).cell (p:=⟨b2,jW+a/16,none⟩) a0).trans D2;have gS:=Gg cF hr (show a/16<4 by omega);have E1:=AA (λW=>DG (Au m root (a/16)) W (by omega));have hB:=AJ w (.cells #[.int .i64 0,.int .i64 0,.bool false] 98);cases fs:Bn (Au m root (a/16))
 .have S:=AA (show IV m root a=.tuple #[Ez,.int .i64 1] by simp[IV,Bv,fs])
  have V1:=AA (Eg fs);clear H0 x3 D2 fs gS O a0;go_in;go_wp2_with (refine(E1.out _).mono ?_;rintro e w' ⟨rfl,rfl⟩;rw[V1.out]);exact yC (v:=.tuple #[Ez,.int .i64 1]) (by simp[results,uP,go_sem,Ez]) rfl ⟨by rw[S.out],hB⟩
 .have ht:BM (Au m root (a/16))<12:=ET fs
  have V1:=AA (Ed fs);obtain⟨b',gP,b3,jV,c3,e,jF,D3,bY,D4⟩:=H0.word cF ht (show a/4%4<4 by omega);cases e;have p5:=((AJ w (.cells #[.int .i64 0,.int .i64 0,.bool false] 98)).cell (p:=⟨b,bA+BM (Au m root (a/16)),none⟩) O).trans D3;have pZ:=((AJ w (.cells #[.int .i64 0,.int .i64 0,.bool false] 98)).cell (p:=⟨b3,jV+a/4%4,none⟩) bY).trans D4;have lH:=Gg cF ht (show a/4%4<4 by omega);have E2:=AA (λW=>DG (Au m (BM (Au m root (a/16))) (a/4%4)) W (by omega));cases ig:Bn (Au m (BM (Au m root (a/16))) (a/4%4))
  .have S:=AA (show IV m root a=.tuple #[Ez,.int .i64 2] by simp[IV,Bv,fs,ig])
   have V2:=AA (Eg ig);clear H0 x3 D2 D3 D4 fs ig gS lH O a0 bY jF;go_in;go_wp2_with fail;refine(E1.out _).mono ?_;rintro e w' ⟨rfl,rfl⟩;rw[V1.out];go_wp2_with (refine(E2.out _).mono ?_;rintro e w' ⟨rfl,rfl⟩;rw[V2.out]);exact yC (v:=.tuple #[Ez,.int .i64 2]) (by simp[results,uP,go_sem,Ez]) rfl ⟨by rw[S.out],hB⟩
  .have S:=AA (show IV m root a=.tuple #[.agg #[.int .i64 ((BM (Au m (BM (Au m root (a/16))) (a/4%4)):Nat):Int),.int .i64 ((a:Int)%4),.bool (Kv (Au m root (a/16))&&Kv (Au m (BM (Au m root (a/16))) (a/4%4)))],.int .i64 0] by simp[IV,Bv,fs,ig,Lx])
   have V2:=AA (Ed ig);generalize BM (Au m (BM (Au m root (a/16))) (a/4%4))=fr at S V2;generalize Kv (Au m (BM (Au m root (a/16))) (a/4%4))=wb at S V2;generalize Kv (Au m root (a/16))=wa at S V1;cases wa
   all_goals
    clear H0 x3 D2 D3 D4 fs ig gS lH O a0 bY jF;go_in;go_wp2_with fail;refine(E1.out _).mono ?_;rintro e w' ⟨rfl,rfl⟩;rw[V1.out];go_wp2_with fail;refine(E2.out _).mono ?_;rintro e w' ⟨rfl,rfl⟩;rw[V2.out];go_wp2_with fail
   .exact yC (v:=.tuple #[.agg #[.int .i64 fr,.int .i64 ((a:Int)%4),.bool false],.int .i64 0]) (by simp[results,uP,go_sem]) rfl ⟨by rw[S.out,Bool.false_and],AJ _ _⟩
   .exact yC (v:=.tuple #[.agg #[.int .i64 fr,.int .i64 ((a:Int)%4),.bool wb],.int .i64 0]) (by simp[results,uP,go_sem]) rfl ⟨by rw[S.out,wl],AJ _ _⟩
theorem Ma{P:Program}{f:FuncId}{ex:Array Value}{w:World}{v:Ending}(h:Calls P f ex w λe w'=>e=v/\∃n,w'=w.drewN n):Calls P f ex w λe w'=>e=v/\Below w.heap.size w w':=by refine h.mono ?_;rintro e w' ⟨h1,n,rfl⟩;exact⟨h1,A0 (yO _ _) n⟩
theorem PA(m i e c:Value)(k:AN)(w:World)(h:Bf w m k.mem)(hm:Bq k.mem=true)(hI:BW w i k.Xy)(df:A8 k.Xy=true)(hE:GO w e k.V3)(eG:k.V3.length=3)(hr:∀j,j<3->(AF k.V3 j).root<12):
 Calls prog 108 #[.agg #[m,i,e,c]] w λr w'=>r=.returned (.bool ((yN 12).all (IB k)))/\Below w.heap.size w w':=by
 obtain⟨N0,al⟩:=EH w (.cells #[m,i,e,c] 28);replace h:=h.below al;replace hI:=BG.below hI al;obtain⟨ae,ce,rfl,_,_,eT⟩:=(hE.below al).open;have gH:=(A1.1 df).1;have C:=AA (UA _ _ k.mem k.Xy _ h hm hI gH);obtain⟨ai,ci,rfl,_,_,jo⟩:=BG.open Av (by decide) hI;obtain⟨X,N,_,_⟩:=AE N0;obtain⟨am,cm,rfl,_⟩:=h.open;have Hl:=AA gH;have eR:=AA eG;clear gH eG;go_in;go_wp2_with fail;generalize w.alloc _=W0 at*;have HN:=AA N0;have HH:=AA jo;have HE:=AA eT;have Hm:=AA hm;have Hr:=AA hr;have jB:=AW N0;have eo:=AA al;clear h hI hm df N0 jo eT hE hr;refine C.out.mono ?_;rintro r w1 ⟨v',rfl,hO,bO⟩;rw[<-TI] at hO;obtain⟨gr,el,rfl,px,np⟩:=Jj hO (by rw[EF];omega);have n6:Hid (AG W0.heap.size w1 (.slice (some ⟨gr,0,none⟩) 12 el) (Ew k 0)):=AA (by have:=hO;rw[EF] at this;exact this);rw[EF];have gu:=AA bO;clear hO np X N C bO al;go_wp2_with fail;go_loopw [4] (λs4 wr=>∃j:Nat,j<=3/\s4=.int .i64 j/\AG W0.heap.size wr (.slice (some ⟨gr,0,none⟩) 12 el) (Ew k j)/\Below W0.heap.size W0 wr) (λs4 _=>3 - (intOf s4).toNat)
 exact⟨0,yu _,rfl,n6.out,gu.out⟩
 obtain⟨j,hj,rfl,hO,bf⟩:=hrel;have HO:=AA hO;have HB:=AA bf;obtain⟨_,N,V,_⟩:=AE (AB HN.out bf);have eF:w.heap.size<wr.heap.size:=yv jB bf.size
 by_cases a7:j<3
 .have dd:j<k.V3.length:=by have:=eR.out;omega
  have dt:(j:Int)<k.V3.length:=by omega
  obtain⟨b,bA,ua,uc,rfl,ku,D0,D1,RR⟩:=(HE.out.below bf) j dd;clear hO bf RR N ku D0
  by_cases hn:(AF k.V3 j).root<0
  .have S:=AA (Xp dd hn)
   have t0:¬(0:Int)<=(AF k.V3 j).root:=by omega
   clear hn;go_wp2_with fail;go_roundw;exact⟨j+1,by omega,by go_num,by rw[S.out];exact HO.out,HB.out⟩;simp[intOf];omega
  .obtain⟨rn,hrn⟩:∃n:Nat,(AF k.V3 j).root=(n:Int):=⟨(AF k.V3 j).root.toNat,by omega⟩
   have cp:rn<12:=by have:=Hr.out j a7;omega
   have S:=AA (Vc dd hrn cp);have pI:=Qx Hm.out (j:=j) eR.out cp;have eW:wr.ownsRow W0.heap.size 3 1 (.slice (some ⟨gr,0,none⟩) 12 el) 12 ((Ew k j).map (ym .i64)):=by have:=HO.out;unfold AG at this;rwa [EF] at this
   have DC:=(eW.cellAt rn (by omega)).trans (Fv (xs:=Ew k j) (by rw[EF];exact cp));have jk:=AA eW;rw[hrn] at D1;have t0:(0:Int)<=(rn:Int):=by omega
   have lM:(rn:Int)<12:=by omega
   generalize nth (Ew k j) rn=cn at*;obtain⟨nc,hnc⟩:∃nc:Int,cn+1=nc:=⟨_,rfl⟩
   have me:=AA hnc;have O:=yM _ _ D1;have az:=yM _ _ DC;clear hn hrn eW hnc;go_wp2_with fail;refine Ac 17 58 [.s gr 12 el,.p w.heap.size 2,.v (.slice (some ⟨b,bA,none⟩) k.V3.length ce),.i ((j:Int)),.p b (bA+j*2),.p b (bA+j*2+1),.i ((rn:Int)),.s gr 12 el,.p w.heap.size 2,.v (.slice (some ⟨b,bA,none⟩) k.V3.length ce),.i ((j:Int)),.p b (bA+j*2),.p b (bA+j*2+1),.i ((rn:Int)),.p gr rn,.i cn,.i nc] (λ_ _ _=>True) ?_ ?_
   .intro i hi o Z a H Y J L h2 A
    have bw:=bc L eF V;have bs:=bc L O D1;have bK:=bc L az DC
    match i,hi with
    |0,_|1,_|3,_|5,_|7,_|8,_|10,_|12,_=>exact sP Z A Y J
    |2,_|9,_=>exact sL Z A Y J (hl:=OZ ‹_›)
    |4,_|11,_|14,_=>exact sI Z A Y J (hr:=by clear J Y A;go_simp)
    |6,_|13,_|15,_=>exact sL Z A Y J (hl:=Fy ‹_›)
    |16,_=>clear bw bs bK;obtain rfl:=yQ Z;have hD:(a.tmps[40]?.getD undef)=.int .i64 cn:=BY J 15;clear J Y;refine yP ?_;go_simp;exact A.out _ _ (by show ym .i64 (xj.wrap (cn+1))=.int .i64 nc;rw[xM _ (by omega),me.out]) (yO _ _)
    |_+17,hq=>omega
   .intro E H hR L
    have q0:(E 0)=.slice (some ⟨gr,0,none⟩) 12 el:=Bg hR 0;have q6:(E 6)=.int .i64 rn:=Bg hR 6;have fD:(E 16)=.int .i64 nc:=Bg hR 16;clear hR;simp only[Aj,Ag,yN,yJ,yK,yI,q0,q6,fD];simp;clear q0 q6 fD;have O3:=Bl jk.out L;have Fr:=O3.frozenAt rn;have C2:=(L.cell (p:=⟨gr,rn,none⟩) az).trans DC;have S2:=AA (O3.stored rn (.int .i64 nc));have kh:=AA (yB O3 gr rfl).1;have eA:=AA (HB.out.trans (L.mono HB.out.size));clear D1 DC L O3 V;go_wp2_with fail;go_roundw
    case rel=>refine⟨j+1,by omega,by go_num,?_,AM eA.out S2.out.2 kh.out eA.out.size⟩;rw[S.out,me.out];unfold AG;rw[List.length_set,EF,List.map_set];exact S2.out.1
    case measure=>simp[intOf];omega
 .obtain rfl:j=3:=by omega
  have dt:¬((3:Nat):Int)<k.V3.length:=by have:=eR.out;omega
  have nH:¬(3:Int)<k.V3.length:=by have:=eR.out;omega
  obtain⟨w2,rfl⟩:∃w2:World,w2=wr:=⟨_,rfl⟩
  clear hO bf N;go_wp2_with fail;clear V;go_loopw [5] (λs5 wr=>∃f:Nat,f<=12/\s5=.int .i64 f/\(∀j,j<f->IB k j=true)/\AG W0.heap.size wr (.slice (some ⟨gr,0,none⟩) 12 el) (Ew k 3)/\Below W0.heap.size W0 wr) (λs5 _=>12 - (intOf s5).toNat)
  exact⟨0,yu _,rfl,λj hj=>absurd hj (xW _),HO.out,HB.out⟩
  clear HO HB;obtain⟨f,hf,rfl,ay,hO,bf⟩:=hrel;have bl:=AA ay;have HO:=AA hO;have HB:=AA bf;clear ay
  by_cases fZ:f<12
  .have nQ:(f:Int)<12:=by omega
   have pF:(f:Int)<k.Xy.length:=by have:=Hl.out;omega
   obtain⟨_,N,_,_⟩:=AE (AB HN.out bf);have fs:w.heap.size<wr.heap.size:=yv jB bf.size;obtain⟨bi,bX,rfl,g7,_,_,D2⟩:=(HH.out.below bf).Dq (show f<k.Xy.length by rw[Hl.out];exact fZ);have gh:=yM _ _ D2;have eW:wr.ownsRow W0.heap.size 3 1 (.slice (some ⟨gr,0,none⟩) 12 el) 12 ((Ew k 3).map (ym .i64)):=by have:=hO;unfold AG at this;rwa [EF] at this
   have DC:=(eW.cellAt f (by omega)).trans (Fv (xs:=Ew k 3) (by rw[EF];exact fZ));have az:=yM _ _ DC;have RL:=Qw (k:=k) eR.out fZ;clear hO bf eW g7 eF;have eF:=fs;go_wp2_with fail;refine Ac 10 58 [.p w.heap.size 1,.v (.slice (some ⟨bi,bX,none⟩) k.Xy.length ci),.i ((f:Int)),.p bi (bX+f*3),.p bi (bX+f*3+2),.i ((Sc k.Xy f).r),.s gr 12 el,.i ((f:Int)),.p gr f,.i (nth (Ew k 3) f)] (λ_ _ _=>True) ?_ ?_
   .intro i hi o Z a H Y J L h2 A
    have bs:=bc L gh D2;have bK:=bc L az DC
    match i,hi with
    |0,_|2,_|4,_|6,_|7,_=>exact sP Z A Y J
    |1,_=>exact sL Z A Y J (hl:=GV (bc L eF N))
    |3,_|8,_=>exact sI Z A Y J (hr:=by clear J Y A;go_simp)
    |5,_|9,_=>exact sL Z A Y J (hl:=Fy ‹_›)
   .intro E H hR L
    have q5:(E 5)=.int .i64 ((Sc k.Xy f).r):=Bg hR 5;have q9:(E 9)=.int .i64 (nth (Ew k 3) f):=Bg hR 9;clear hR;simp only[Aj,Ag,yN,yJ,yK,yI,q5,q9];simp;clear q5 q9;have eh:=HB.out.trans (L.mono HB.out.size);have oY:=AA (AG.below HO.out L);clear L N D2 DC;cases eN:((Sc k.Xy f).r !=nth (Ew k 3) f)
    .have S:=AA (show IB k f=true by rw[RL];simpa using eN)
     clear RL;go_wp2_with fail;go_roundw;exact⟨f+1,by omega,by go_num,Al bl.out S.out,oY.out,eh⟩;simp[intOf];omega
    .have S:=AA (show(yN 12).all (IB k)=false from xh.2 ⟨f,yj.2 fZ,by rw[RL];simpa using eN⟩)
     clear RL;go_wp2_with fail;go_ret;exact⟨AI S.out.symm,eo.out.trans (eh.mono eo.out.size)⟩
  .have ek:f=12:=by omega
   have ay:=bl.out;rw[ek] at ay;have S:=AA (show(yN 12).all (IB k)=true from yr.2 λj hj=>ay j (yj.1 hj));clear bl ay;go_wp2_with fail;go_ret;exact⟨AI S.out.symm,eo.out.trans (bf.mono eo.out.size)⟩
theorem Kw{l:List Em}{j:Nat}(h:j<l.length):l[j]?=some (AF l j):=by unfold AF;exact BD h
theorem Oz(m i e c:Value)(k:AN)(w:World)(h:Bf w m k.mem)(hm:Bq k.mem=true)(hI:BW w i k.Xy)(df:A8 k.Xy=true)(hE:GO w e k.V3)(iJ:∀j,j<k.V3.length->DH (AF k.V3 j).Tj):
 Calls prog 106 #[.agg #[m,i,e,c]] w λr w'=>r=.returned (.bool (JL k))/\Below w.heap.size w w':=by
 obtain⟨N0,al⟩:=EH w (.cells #[m,i,e,c] 28);replace h:=h.below al;replace hI:=BG.below hI al;obtain⟨ae,ce,rfl,lT,g3,eT⟩:=(hE.below al).open;unfold maxLen at g3;have gH:=(A1.1 df).1;have lJ:=By df;have HI:=AA hI;have HR:=AA h;obtain⟨ai,ci,rfl,_,_,jo⟩:=BG.open Av (by decide) hI;obtain⟨am,cm,rfl,_⟩:=h.open;have ES:JL k=(k.V3.all (EI k)&&decide (k.V3.length=3)):=rfl;rw[ES];have Hl:=AA gH;clear gH;go_in;go_wp2_with fail;generalize w.alloc _=W0 at*;have HN:=AA N0;have HH:=AA jo;have HE:=AA eT;have Hm:=AA hm;have Hs:=AA iJ;have l9:=AA lJ;have jB:=AW N0;have eo:=AA al;clear h hI hm df N0 jo eT hE iJ lJ al ES;go_loopw [3] (λs3 wr=>∃j:Nat,j<=k.V3.length/\s3=.int .i64 j/\(∀j',j'<j->EI k (AF k.V3 j')=true)/\Below W0.heap.size W0 wr) (λs3 _=>k.V3.length - (intOf s3).toNat)
 exact⟨0,yu _,rfl,λj hj=>absurd hj (xW _),yO _ _⟩
 obtain⟨j,hj,rfl,ay,bf⟩:=hrel;have bl:=AA ay;clear ay;obtain⟨_,_,V,_⟩:=AE (AB HN.out bf)
 by_cases a7:j<k.V3.length
 .have dt:(j:Int)<k.V3.length:=by omega
  obtain⟨b,bA,ua,uc,rfl,fH,D0,D1,RR⟩:=(HE.out.below bf) j a7;obtain⟨x1,eQ⟩:=EH wr (.cells #[.slice ua (AF k.V3 j).Tj.length uc,.int .i64 (AF k.V3 j).root] 66);go_wp2_with fail;generalize wr.alloc _=wa at*;have fI:=bf.trans (eQ.mono bf.size);have y0:wa.cell? ⟨wr.heap.size,0,none⟩=some (.slice ua (AF k.V3 j).Tj.length uc):=yz _ _ 0 _ _ _ x1;have y1:wa.cell? ⟨wr.heap.size,1,none⟩=some (.int .i64 (AF k.V3 j).root):=yz _ _ 1 _ _ _ x1;have f9:=AW x1;have eF:=yv jB fI.size;obtain⟨X,N,_,_⟩:=AE (AB HN.out fI);have dp:=AA fI;have kU:=AA (BG.below RR eQ);clear D0 D1 x1 eQ bf fI RR V fH;have iz:=λW (hW:Below wa.heap.size wa W)=>Ma (Gi _ (AF k.V3 j).Tj W (BG.below kU.out hW) (Hs.out j a7))
  have eK:EI k (AF k.V3 j)=(BS (AF k.V3 j).Tj&&(decide ((AF k.V3 j).root= -1)||(Bh (AF k.V3 j).root 0 11&&decide ((Sc k.Xy (AF k.V3 j).root.toNat).k=3)))&&BI k.Xy (Ba k.mem (AF k.V3 j).root) (AF k.V3 j).Tj):=rfl;cases e5:BS (AF k.V3 j).Tj
  .rw[e5] at iz eK
   have CR:=AA iz;have cy:EI k (AF k.V3 j)=false:=by rw[eK];rfl
   clear iz e5 eK;have S:=AA (show k.V3.all (EI k)=false from JK (Kw a7) (cy));go_wp2_with fail;refine Ac 36 59 [.p wr.heap.size 0,.v (.slice ua (AF k.V3 j).Tj.length uc),.b false,.b true,.b true,.u,.u,.u,.u,.b true,.b true,.u,.u,.u,.u,.u,.u,.u,.u,.u,.u,.u,.u,.u,.b true,.b true,.u,.u,.u,.u,.u,.u,.u,.u,.u,.u] (λ_ _ _=>True) ?_ ?_
   .intro i hi o Z a H Y J L h2 A
    match i,hi with
    |0,_|3,_|4,_|9,_|10,_|24,_|25,_=>exact sP Z A Y J
    |1,_=>exact sL Z A Y J (hl:=KN (bc L f9 y0))
    |2,_=>exact sD Z A Y J (CR.out _ L)
    |5,_|6,_|7,_|8,_|11,_|12,_|13,_|14,_|15,_|16,_|17,_|18,_|19,_|20,_|21,_|22,_|23,_|26,_|27,_|28,_|29,_|30,_|31,_|32,_|33,_|34,_|35,_=>exact sB Z A J
    |_+36,hq=>omega
   .intro E H hR L
    have eL:(E 25)=.bool true:=Bg hR 25;clear hR;simp only[Aj,Ag,yN,yJ,yK,yI,eL];simp;clear eL;have eh:=dp.out.trans (L.mono dp.out.size);clear L X N y0 y1;go_wp2_with fail;go_ret;exact⟨AI (by rw[S.out];rfl),eo.out.trans (eh.mono eo.out.size)⟩
  .rw[e5] at iz eK
   have CR:=AA iz;clear iz e5;have fQ:=λW (hW:Below wa.heap.size wa W)=>A3 (Cx (AF k.V3 j).root (-1) 11 W)
   cases e6:Bh (AF k.V3 j).root (-1) 11
   .rw[e6] at fQ
    have CF:=AA fQ;have cy:EI k (AF k.V3 j)=false:=by
     rw[eK];have:¬(-1<=(AF k.V3 j).root/\(AF k.V3 j).root<=11):=λh=>by rw[AZ.2 h] at e6;cases e6
     have h1:decide ((AF k.V3 j).root= -1)=false:=decide_eq_false (by omega);have K:Bh (AF k.V3 j).root 0 11=false:=by cases hx:Bh (AF k.V3 j).root 0 11;rfl;exact absurd (AZ.1 hx) (by omega)
     rw[h1,K];rfl
    clear fQ e6 eK;have S:=AA (show k.V3.all (EI k)=false from JK (Kw a7) (cy));go_wp2_with fail;refine Ac 36 59 [.p wr.heap.size 0,.v (.slice ua (AF k.V3 j).Tj.length uc),.b true,.b false,.b false,.p wr.heap.size 1,.i ((AF k.V3 j).root),.b false,.b true,.b true,.b true,.u,.u,.u,.u,.u,.u,.u,.u,.u,.u,.u,.u,.u,.b true,.b true,.u,.u,.u,.u,.u,.u,.u,.u,.u,.u] (λ_ _ _=>True) ?_ ?_
    .intro i hi o Z a H Y J L h2 A
     match i,hi with
     |0,_|3,_|4,_|5,_|8,_|9,_|10,_|24,_|25,_=>exact sP Z A Y J
     |1,_=>exact sL Z A Y J (hl:=KN (bc L f9 y0))
     |2,_=>exact sD Z A Y J (CR.out _ L)
     |6,_=>exact sL Z A Y J (hl:=Fy (bc L f9 y1))
     |7,_=>exact sD Z A Y J (CF.out _ L)
     |11,_|12,_|13,_|14,_|15,_|16,_|17,_|18,_|19,_|20,_|21,_|22,_|23,_|26,_|27,_|28,_|29,_|30,_|31,_|32,_|33,_|34,_|35,_=>exact sB Z A J
     |_+36,hq=>omega
    .intro E H hR L
     have eL:(E 25)=.bool true:=Bg hR 25;clear hR;simp only[Aj,Ag,yN,yJ,yK,yI,eL];simp;clear eL;have eh:=dp.out.trans (L.mono dp.out.size);clear L X N y0 y1;go_wp2_with fail;go_ret;exact⟨AI (by rw[S.out];rfl),eo.out.trans (eh.mono eo.out.size)⟩
   .have l2:=AZ.1 e6
    rw[e6] at fQ;clear e6
    by_cases e7:(AF k.V3 j).root= -1
    .rw[e7] at fQ y1 eK
     have CF:=AA fQ;have RI:=HI.out;have CX:=AA (λW (hW:Below wa.heap.size wa W)=>JZ _ k.mem (-1) W ((HR.out.below dp.out).below hW) Hm.out (by decide));have gx:=λW (hW:Below wa.heap.size wa W) v2 (K:Ax W v2 (A4 (Ev k.mem (-1))))=>Gb _ v2 _ k.Xy (Ev k.mem (-1)) (AF k.V3 j).Tj W (BG.below (BG.below HI.out dp.out) hW) K (BG.below kU.out hW) (λf hf=>by have:=zH (root:= -1) (by decide) f ((Gd (by decide) f).1 hf);rw[Hl.out];exact this) l9.out (Hs.out j a7)
     rw[FO (Gd (by decide))] at gx;have hZ:EI k (AF k.V3 j)=BI k.Xy (Ba k.mem (-1)) (AF k.V3 j).Tj:=by rw[eK];simp
     generalize BI k.Xy (Ba k.mem (-1)) (AF k.V3 j).Tj=bb at gx hZ;have CA:=AA gx;have EO:=AA hZ;clear fQ gx eK hZ l2 e7 RI;go_wp2_with fail;refine A5 36 59 [.p wr.heap.size 0,.v (.slice ua (AF k.V3 j).Tj.length uc),.b true,.b false,.b false,.p wr.heap.size 1,.i (-1),.b true,.b false,.b false,.b false,.p wr.heap.size 1,.i (-1),.b false,.b false,.u,.u,.u,.u,.u,.u,.u,.u,.b false,.b false,.b false,.p w.heap.size 1,.v (.slice ai k.Xy.length ci),.p w.heap.size 0,.v (.slice am k.mem.length cm),.p wr.heap.size 1,.i (-1),.z,.p wr.heap.size 0,.v (.slice ua (AF k.V3 j).Tj.length uc),.b bb] (λix vv ww=>match ix with
      |32=>AG wa.heap.size ww vv (A4 (Ev k.mem (-1)))
      |_=>True) ?_ ?_ ?_
     .intro i hi o Z a H Y J L h2 A
      have bw:=bc L f9 y0;have bs:=bc L f9 y1;have bK:=bc L eF N;have bN:=bc L eF X
      match i,hi with
      |0,_|3,_|4,_|5,_|8,_|9,_|10,_|11,_|14,_|23,_|24,_|25,_|26,_|28,_|30,_|33,_=>exact sP Z A Y J
      |1,_|34,_=>exact sL Z A Y J (hl:=KN ‹_›)
      |2,_=>exact sD Z A Y J (CR.out _ L)
      |6,_|12,_|31,_=>exact sL Z A Y J (hl:=Fy ‹_›)
      |7,_=>exact sD Z A Y J (CF.out _ L)
      |15,_|16,_|17,_|18,_|19,_|20,_|21,_|22,_=>exact sB Z A J
      |27,_=>exact sL Z A Y J (hl:=GV ‹_›)
      |29,_=>exact sL Z A Y J (hl:=GQ ‹_›)
      |32,_=>exact sC Z A Y J (CX.out _ L) (by rintro e w_ ⟨v',rfl,hO,a0⟩;exact⟨_,rfl,(BZ hO L.size),a0⟩)
      |13,_=>clear bw bs bK bN;obtain rfl:=yQ Z;have fM:(a.tmps[29]?.getD undef)=.int .i64 (-1):=BY J 12;have es:(a.tmps[27]?.getD undef)=.bool false:=BY J 10;clear J Y;refine AY.yes rfl rfl es ?_;go_simp;exact A.out _ _ rfl (yO _ _)
      |35,_=>clear bw bs bK bN;obtain rfl:=yQ Z;have ol:(a.tmps[44]?.getD undef)=.slice ai k.Xy.length ci:=BY J 27;have je:AG wa.heap.size H (a.tmps[49]?.getD undef) (A4 (Ev k.mem (-1))):=BY J 32;have oj:(a.tmps[51]?.getD undef)=.slice ua (AF k.V3 j).Tj.length uc:=BY J 34;have jf:(a.tmps[42]?.getD undef)=.bool false:=BY J 25;clear J Y;generalize e49:a.tmps[49]?.getD undef=v2 at je;have lg:=CA.out H L v2 (AG.rd je);refine AY.yes rfl rfl jf ?_;go_simp;refine lg.mono ?_;rintro e w_ ⟨rfl,a0⟩;exact A.out _ _ rfl a0
      |_+36,hq=>omega
     .intro i hi vv wz cT bp hz
      match i,hi with
      |32,_=>exact(AG.below hz bp)
      |0,_|1,_|2,_|3,_|4,_|5,_|6,_|7,_|8,_|9,_|10,_|11,_|12,_|13,_|14,_|15,_|16,_|17,_|18,_|19,_|20,_|21,_|22,_|23,_|24,_|25,_|26,_|27,_|28,_|29,_|30,_|31,_|33,_|34,_|35,_=>exact hz
      |_+36,hq=>omega
     .intro E H hR L
      have eL:(E 25)=.bool false:=Bg hR 25;have iB:(E 35)=.bool bb:=Bg hR 35;clear hR;simp only[Aj,Ag,yN,yJ,yK,yI,eL,iB];simp;clear eL iB;have eh:=dp.out.trans (L.mono dp.out.size);clear L X N y0 y1;cases bb
      .have S:=AA (show k.V3.all (EI k)=false from JK (Kw a7) (EO.out))
       go_wp2_with fail;go_ret;exact⟨AI (by rw[S.out];rfl),eo.out.trans (eh.mono eo.out.size)⟩
      .go_wp2_with fail
       go_roundw;exact⟨j+1,by omega,by go_num,Al bl.out EO.out,eh⟩;simp[intOf];omega
    .obtain⟨r,hr⟩:∃n:Nat,(AF k.V3 j).root=(n:Int):=⟨(AF k.V3 j).root.toNat,by omega⟩
     have cp:r<12:=by omega
     have jy:(r:Int)<12:=by omega
     have nn:(r:Int)<k.Xy.length:=by have:=Hl.out;omega
     have py:(0:Int)<=(r:Int):=by omega
     rw[hr] at fQ y1 eK;have CF:=AA fQ;obtain⟨bi,bX,rfl,g7,kG,_,_⟩:=(HH.out.below dp.out).Dq (show r<k.Xy.length by rw[Hl.out];exact cp);have gh:=yM _ _ kG;have ed:Bh (r:Int) 0 11=true:=AZ.2 (by omega);have iR:decide ((r:Int)= -1)=false:=decide_eq_false (by omega);rw[ed,iR,yq] at eK;clear fQ l2 e7 g7 ed iR
     by_cases e8:(Sc k.Xy r).k=3
     .have t8:((Sc k.Xy r).k !=3)=false:=by simp[e8]
      have CX:=AA (λW (hW:Below wa.heap.size wa W)=>JZ _ k.mem (r:Int) W ((HR.out.below dp.out).below hW) Hm.out jy);have gx:=λW (hW:Below wa.heap.size wa W) v2 (K:Ax W v2 (A4 (Ev k.mem (r:Int))))=>Gb _ v2 _ k.Xy (Ev k.mem (r:Int)) (AF k.V3 j).Tj W (BG.below (BG.below HI.out dp.out) hW) K (BG.below kU.out hW) (λf hf=>by have:=zH (root:=(r:Int)) jy f ((Gd jy f).1 hf);rw[Hl.out];exact this) l9.out (Hs.out j a7)
      rw[FO (Gd jy)] at gx;have hZ:EI k (AF k.V3 j)=BI k.Xy (Ba k.mem (r:Int)) (AF k.V3 j).Tj:=by rw[eK,e8];simp
      generalize BI k.Xy (Ba k.mem (r:Int)) (AF k.V3 j).Tj=bb at gx hZ;have CA:=AA gx;have EO:=AA hZ;clear gx eK hZ e8 hr;go_wp2_with fail;refine A5 36 59 [.p wr.heap.size 0,.v (.slice ua (AF k.V3 j).Tj.length uc),.b true,.b false,.b false,.p wr.heap.size 1,.i ((r:Int)),.b true,.b false,.b false,.b false,.p wr.heap.size 1,.i ((r:Int)),.b true,.b true,.p w.heap.size 1,.v (.slice (some ⟨bi,bX,none⟩) k.Xy.length ci),.p wr.heap.size 1,.i ((r:Int)),.p bi (bX+r*3),.p bi (bX+r*3),.i ((Sc k.Xy r).k),.b false,.b false,.b false,.b false,.p w.heap.size 1,.v (.slice (some ⟨bi,bX,none⟩) k.Xy.length ci),.p w.heap.size 0,.v (.slice am k.mem.length cm),.p wr.heap.size 1,.i ((r:Int)),.z,.p wr.heap.size 0,.v (.slice ua (AF k.V3 j).Tj.length uc),.b bb] (λix vv ww=>match ix with
       |32=>AG wa.heap.size ww vv (A4 (Ev k.mem ((r:Int))))
       |_=>True) ?_ ?_ ?_
      .intro i hi o Z a H Y J L h2 A
       have bw:=bc L f9 y0;have bs:=bc L f9 y1;have bK:=bc L eF N;have bN:=bc L gh kG;have cC:=bc L eF X
       match i,hi with
       |0,_|3,_|4,_|5,_|8,_|9,_|10,_|11,_|14,_|15,_|17,_|20,_|23,_|24,_|25,_|26,_|28,_|30,_|33,_=>exact sP Z A Y J
       |1,_|34,_=>exact sL Z A Y J (hl:=KN ‹_›)
       |2,_=>exact sD Z A Y J (CR.out _ L)
       |6,_|12,_|18,_|21,_|31,_=>exact sL Z A Y J (hl:=Fy ‹_›)
       |7,_=>exact sD Z A Y J (CF.out _ L)
       |16,_|27,_=>exact sL Z A Y J (hl:=GV ‹_›)
       |19,_=>exact sI Z A Y J (hr:=by clear J Y A;go_simp)
       |29,_=>exact sL Z A Y J (hl:=GQ ‹_›)
       |32,_=>exact sC Z A Y J (CX.out _ L) (by rintro e w_ ⟨v',rfl,hO,a0⟩;exact⟨_,rfl,(BZ hO L.size),a0⟩)
       |13,_=>clear bw bs bK bN cC;obtain rfl:=yQ Z;have fM:(a.tmps[29]?.getD undef)=.int .i64 r:=BY J 12;have es:(a.tmps[27]?.getD undef)=.bool false:=BY J 10;clear J Y;refine AY.yes rfl rfl es ?_;go_simp;exact A.out _ _ rfl (yO _ _)
       |22,_=>clear bw bs bK bN cC;obtain rfl:=yQ Z;have oo:(a.tmps[38]?.getD undef)=.int .i64 ((Sc k.Xy r).k):=BY J 21;have kL:(a.tmps[31]?.getD undef)=.bool true:=BY J 14;clear J Y;refine AY.yes rfl rfl kL ?_;go_simp;exact A.out _ _ rfl (yO _ _)
       |35,_=>clear bw bs bK bN cC;obtain rfl:=yQ Z;have ol:(a.tmps[44]?.getD undef)=.slice (some ⟨bi,bX,none⟩) k.Xy.length ci:=BY J 27;have je:AG wa.heap.size H (a.tmps[49]?.getD undef) (A4 (Ev k.mem ((r:Int)))):=BY J 32;have oj:(a.tmps[51]?.getD undef)=.slice ua (AF k.V3 j).Tj.length uc:=BY J 34;have jf:(a.tmps[42]?.getD undef)=.bool false:=BY J 25;clear J Y;generalize e49:a.tmps[49]?.getD undef=v2 at je;have lg:=CA.out H L v2 (AG.rd je);refine AY.yes rfl rfl jf ?_;go_simp;refine lg.mono ?_;rintro e w_ ⟨rfl,a0⟩;exact A.out _ _ rfl a0
       |_+36,hq=>omega
      .intro i hi vv wz cT bp hz
       match i,hi with
       |32,_=>exact(AG.below hz bp)
       |0,_|1,_|2,_|3,_|4,_|5,_|6,_|7,_|8,_|9,_|10,_|11,_|12,_|13,_|14,_|15,_|16,_|17,_|18,_|19,_|20,_|21,_|22,_|23,_|24,_|25,_|26,_|27,_|28,_|29,_|30,_|31,_|33,_|34,_|35,_=>exact hz
       |_+36,hq=>omega
      .intro E H hR L
       have eL:(E 25)=.bool false:=Bg hR 25;have iB:(E 35)=.bool bb:=Bg hR 35;clear hR;simp only[Aj,Ag,yN,yJ,yK,yI,eL,iB];simp;clear eL iB;have eh:=dp.out.trans (L.mono dp.out.size);clear L X N y0 y1;cases bb
       .have S:=AA (show k.V3.all (EI k)=false from JK (Kw a7) (EO.out))
        go_wp2_with fail;go_ret;exact⟨AI (by rw[S.out];rfl),eo.out.trans (eh.mono eo.out.size)⟩
       .go_wp2_with fail
        go_roundw;exact⟨j+1,by omega,by go_num,Al bl.out EO.out,eh⟩;simp[intOf];omega
     .have t8:((Sc k.Xy r).k !=3)=true:=by simp[e8]
      have cy:EI k (AF k.V3 j)=false:=by rw[eK];simp[e8]
      clear eK e8 hr;have S:=AA (show k.V3.all (EI k)=false from JK (Kw a7) (cy));go_wp2_with fail;refine Ac 36 59 [.p wr.heap.size 0,.v (.slice ua (AF k.V3 j).Tj.length uc),.b true,.b false,.b false,.p wr.heap.size 1,.i ((r:Int)),.b true,.b false,.b false,.b false,.p wr.heap.size 1,.i ((r:Int)),.b true,.b true,.p w.heap.size 1,.v (.slice (some ⟨bi,bX,none⟩) k.Xy.length ci),.p wr.heap.size 1,.i ((r:Int)),.p bi (bX+r*3),.p bi (bX+r*3),.i ((Sc k.Xy r).k),.b true,.b true,.b true,.b true,.u,.u,.u,.u,.u,.u,.u,.u,.u,.u] (λ_ _ _=>True) ?_ ?_
      .intro i hi o Z a H Y J L h2 A
       have bw:=bc L f9 y0;have bs:=bc L f9 y1;have bK:=bc L eF N;have bN:=bc L gh kG
       match i,hi with
       |0,_|3,_|4,_|5,_|8,_|9,_|10,_|11,_|14,_|15,_|17,_|20,_|23,_|24,_|25,_=>exact sP Z A Y J
       |1,_=>exact sL Z A Y J (hl:=KN ‹_›)
       |2,_=>exact sD Z A Y J (CR.out _ L)
       |6,_|12,_|18,_|21,_=>exact sL Z A Y J (hl:=Fy ‹_›)
       |7,_=>exact sD Z A Y J (CF.out _ L)
       |16,_=>exact sL Z A Y J (hl:=GV ‹_›)
       |19,_=>exact sI Z A Y J (hr:=by clear J Y A;go_simp)
       |26,_|27,_|28,_|29,_|30,_|31,_|32,_|33,_|34,_|35,_=>exact sB Z A J
       |13,_=>clear bw bs bK bN;obtain rfl:=yQ Z;have fM:(a.tmps[29]?.getD undef)=.int .i64 r:=BY J 12;have es:(a.tmps[27]?.getD undef)=.bool false:=BY J 10;clear J Y;refine AY.yes rfl rfl es ?_;go_simp;exact A.out _ _ rfl (yO _ _)
       |22,_=>clear bw bs bK bN;obtain rfl:=yQ Z;have oo:(a.tmps[38]?.getD undef)=.int .i64 ((Sc k.Xy r).k):=BY J 21;have kL:(a.tmps[31]?.getD undef)=.bool true:=BY J 14;clear J Y;refine AY.yes rfl rfl kL ?_;go_simp;exact A.out _ _ rfl (yO _ _)
       |_+36,hq=>omega
      .intro E H hR L
       have eL:(E 25)=.bool true:=Bg hR 25;clear hR;simp only[Aj,Ag,yN,yJ,yK,yI,eL];simp;clear eL;have eh:=dp.out.trans (L.mono dp.out.size);clear L X N y0 y1;go_wp2_with fail;go_ret;exact⟨AI (by rw[S.out];rfl),eo.out.trans (eh.mono eo.out.size)⟩
 .have ek:j=k.V3.length:=by omega
  have ay:=bl.out;rw[ek] at ay;have S:=AA (show k.V3.all (EI k)=true from J6 (f:=AF k.V3) (λk hk=>Kw hk) ay);have dt:¬(j:Int)<k.V3.length:=by omega
  clear bl ay;go_wp2_with fail;go_ret;exact⟨AI (by rw[S.out,wl];by_cases h3:k.V3.length=3<;>simp[h3]<;>omega),eo.out.trans (bf.mono eo.out.size)⟩
theorem UC(m i e c:Value)(k:AN)(w:World)(h:Bf w m k.mem)(hm:Bq k.mem=true)(hE:GO w e k.V3)(eG:k.V3.length=3)(hC:DY w c k.V0)(ii:Bd k.V0=true)(hr:∀j,j<3->(AF k.V3 j).root<12):
 Calls prog 109 #[.agg #[m,i,e,c]] w λr w'=>r=.returned (.bool (k.V0.all (Cs k)))/\Below w.heap.size w w':=by
 obtain⟨N0,al⟩:=EH w (.cells #[m,i,e,c] 28);replace h:=h.below al;replace hC:=BG.below hC al;obtain⟨ae,ce,rfl,lT,g3,eT⟩:=(hE.below al).open;obtain⟨ac,cc,rfl,ks,nV,mz⟩:=BG.open Ce (by decide) hC;have H1:=AA h;obtain⟨am,cm,rfl,_⟩:=h.open;have T1:=AA hm;have T3:=AA ii;have T4:=AA eG;have Hr:=AA hr;have KT:=AA (λj (hj:j<k.V0.length) (hx:Cs k (AT k.V0 j)=false)=>show k.V0.all (Cs k)=false from JK (FP hj) hx);clear hm ii eG hr hE hC h;go_in;go_wp2_with fail;generalize w.alloc _=W0 at*;have HN:=AA N0;have HE:=AA eT;have H4:=AA mz;have pX:=AA (AW N0);have bL:=AA al;clear N0 eT mz al;go_loopw [3] (λi wr=>∃j:Nat,j<=k.V0.length/\i=.int .i64 j/\(∀j',j'<j->Cs k (AT k.V0 j')=true)/\Below W0.heap.size W0 wr) (λi _=>k.V0.length - (intOf i).toNat)
 exact⟨0,yu _,rfl,λj hj=>absurd hj (xW _),yO _ _⟩
 obtain⟨j,hj,rfl,ay,bf⟩:=hrel;have bl:=AA ay;clear ay;obtain⟨X,_,V,D⟩:=AE (AB HN.out bf)
 by_cases a7:j<k.V0.length
 .obtain⟨bi,bX,rfl,gh,D0,D1,D2,D3⟩:=(H4.out.below bf).zW a7
  have ii:Bu (AT k.V0 j)=true:=by have h1:=T3.out;unfold Bd at h1;simp only[yD,yr] at h1;have K:=h1.1 j (yj.2 a7);unfold DA at K;simp only[yD] at K;exact K.1
  unfold Bu at ii;simp only[yD,AZ] at ii;obtain⟨⟨⟨e0,e2⟩,p0,p2⟩,f0,f2⟩:=ii;obtain⟨en,cN⟩:∃n:Nat,(AT k.V0 j).e=(n:Int):=⟨(AT k.V0 j).e.toNat,by omega⟩
  obtain⟨pn,hpn⟩:∃n:Nat,(AT k.V0 j).p=(n:Int):=⟨(AT k.V0 j).p.toNat,by omega⟩
  obtain⟨fn,gJ⟩:∃n:Nat,(AT k.V0 j).f=(n:Int):=⟨(AT k.V0 j).f.toNat,by omega⟩
  have TO:=AA (show Cs k (AT k.V0 j)=(decide (0<=(AF k.V3 en).root)&&decide (Bv k.mem (AF k.V3 en).root.toNat (4*pn)=(0,fn,(AT k.V0 j).w))) by unfold Cs;rw[cN,hpn,gJ];rfl);have kl:en<3:=by omega
  have lO:pn<16:=by omega
  rw[cN] at D0;rw[hpn] at D1;rw[gJ] at D2;generalize g2:(AT k.V0 j).w=cw at*;obtain⟨x1,eQ⟩:=EH wr (.cells #[.int .i64 en,.int .i64 pn,.int .i64 fn,.bool cw] 96);have nz:(j:Int)<k.V0.length:=by omega
  have i5:k.V0.length<=4:=by have h1:=T3.out;unfold Bd at h1;simp only[yD,decide_eq_true_eq] at h1;exact h1.2
  have pE:(j:Int)<4:=by omega
  have fI:=bf.trans (eQ.mono bf.size);obtain⟨b,bA,ua,uc,rfl,fH,E0,E1,RR⟩:=HE.out en (by have:=T4.out;omega);replace E1:=(fI.cell (p:=⟨b,bA+en*2+1,none⟩) fH).trans E1;have lu:=(AE (AB HN.out fI)).1;have lq:=(AE (AB HN.out fI)).2.2.1;obtain⟨y0,y1,R,y3⟩:=AE x1;have oi:(en:Int)<k.V3.length:=by have:=T4.out;omega
  have dp:=AA fI;have eX:=Hr.out en kl;clear E0 RR eQ bf fI x1 e0 e2 p0 p2 f0 f2 cN hpn gJ
  by_cases fj:(AF k.V3 en).root<0
  .have S:=AA (KT.out j a7 (by rw[TO.out];simp;omega))
   have eh:=dp.out;go_wp2_with fail;go_ret;exact⟨AI S.out.symm,bL.out.trans (eh.mono bL.out.size)⟩
  .obtain⟨rn,hrn⟩:∃n:Nat,(AF k.V3 en).root=(n:Int):=⟨(AF k.V3 en).root.toNat,by omega⟩
   have iO:rn<12:=by omega
   have fi:=λW (hW:Below W0.heap.size W0 W)=>QW _ k.mem rn (4*pn) W (H1.out.below hW) T1.out iO (by omega)
   have j8:wr.heap.size<(wr.alloc (.cells #[.int .i64 en,.int .i64 pn,.int .i64 fn,.bool cw] 96)).heap.size:=by simp
   rw[hrn] at E1 TO fj;unfold IV at fi;rw[show((4*pn:Nat):Int)=4*(pn:Int) by omega] at fi;simp only[yq] at TO;obtain⟨code,fr,wb,hwp⟩:∃code fr wb,Bv k.mem rn (4*pn)=(code,fr,wb):=⟨_,_,_,rfl⟩
   simp only[hwp] at fi TO;clear hwp hrn eX;have jH:=AA (show Cs k (AT k.V0 j)=(decide (code=0)&&(decide (fr=fn)&&decide (wb=cw))) by
    rw[TO.out];have:(0:Int)<=(rn:Int):=by omega
    simp[this])
   by_cases eP:code=0
   .subst eP
    rw[if_pos rfl] at fi;unfold Lx at fi;rw[show((4*pn%4:Nat):Int)=0 by omega] at fi;have CW:=AA fi;clear fi;go_wp2_with fail;refine(CW.out _ dp.out).mono ?_;rintro e w2 ⟨rfl,a0⟩;have eH:=dp.out.trans (a0.mono dp.out.size);replace R:=(a0.cell (p:=⟨wr.heap.size,2,none⟩) j8).trans R;replace y3:=(a0.cell (p:=⟨wr.heap.size,3,none⟩) j8).trans y3;clear X V D lu lq E1 y0 y1 a0;have eh:=eH.trans ((AJ w2 (.cells #[.int .i64 fr,.int .i64 0,.bool wb] 98)).mono eH.size);replace R:=((AJ w2 (.cells #[.int .i64 fr,.int .i64 0,.bool wb] 98)).cell (yM w2 _ R)).trans R;replace y3:=((AJ w2 (.cells #[.int .i64 fr,.int .i64 0,.bool wb] 98)).cell (yM w2 _ y3)).trans y3;have HG:=AA eh;clear eH eh fj
    by_cases dy:fr=fn
    .have t1:((fr:Int) !=(fn:Int))=false:=by simp[dy]
     by_cases iG:wb=cw
     .have S:=AA (show Cs k (AT k.V0 j)=true by rw[jH.out];simp[dy,iG])
      subst iG;clear dy;cases wb
      all_goals
       go_wp2_with fail;go_roundw;exact⟨j+1,by omega,by go_num,Al bl.out S.out,HG.out⟩;simp[intOf];omega
     .have S:=AA (KT.out j a7 (by rw[jH.out];simp[iG]))
      have hq:=AA iG;clear dy iG;cases wb<;>cases cw
      .exact absurd rfl hq.out
      .go_wp2_with fail
       go_ret;exact⟨AI S.out.symm,bL.out.trans (HG.out.mono bL.out.size)⟩
      .go_wp2_with fail
       go_ret;exact⟨AI S.out.symm,bL.out.trans (HG.out.mono bL.out.size)⟩
      .exact absurd rfl hq.out
    .have t1:((fr:Int) !=(fn:Int))=true:=by simp;omega
     have S:=AA (KT.out j a7 (by rw[jH.out];simp[dy]));clear dy y3;go_wp2_with fail;go_ret;exact⟨AI S.out.symm,bL.out.trans (HG.out.mono bL.out.size)⟩
   .rw[if_neg eP] at fi
    unfold Ez at fi;have CW:=AA fi;have t1:(code !=0)=true:=by simp[eP]
    have S:=AA (KT.out j a7 (by rw[jH.out];simp[eP]));clear fi eP;go_wp2_with (refine(CW.out _ dp.out).mono ?_;rintro e w2 ⟨rfl,a0⟩;have eH:=dp.out.trans (a0.mono dp.out.size);have HG:=AA (eH.trans ((AJ w2 (.cells #[.int .i64 0,.int .i64 0,.bool false] 98)).mono eH.size));clear X V D lu lq E1 y0 y1 R y3 a0 eH fj);go_ret;exact⟨AI S.out.symm,bL.out.trans (HG.out.mono bL.out.size)⟩
 .have ek:j=k.V0.length:=by omega
  have ay:=bl.out;rw[ek] at ay;have S:=AA (show k.V0.all (Cs k)=true from J6 (f:=AT k.V0) (λk hk=>FP hk) ay);have nz:¬(j:Int)<k.V0.length:=by omega
  clear bl ay;go_wp2_with fail;go_ret;exact⟨AI S.out.symm,bL.out.trans (bf.mono bL.out.size)⟩
theorem Kh(m i e c:Value)(k:AN)(w:World)(h:Le w m i e c k)(hs:Jo k):
 Calls prog 48 #[.agg #[m,i,e,c]] w λr w'=>r=.returned (.bool (Cr k))/\Below w.heap.size w w':=by
 obtain⟨N0,al⟩:=EH w (.cells #[m,i,e,c] 28);replace h:=h.below al;have A:=AA h;have Hs:=AA hs;obtain⟨X,N,V,D⟩:=AE N0;have KO:=AA (show Cr k=(Bq k.mem&&A8 k.Xy&&Bd k.V0&&JL k&&(yN 12).all (Dp k)&&(yN 12).all (IB k)&&k.V0.all (Cs k)) from rfl);clear h hs;go_in;go_wp2_with fail;generalize w.alloc _=W0 at*;have HN:=AA N0;have bL:=AA al;have O:Below W0.heap.size W0 W0:=yO _ _;clear N0 al;cases e1:Bq k.mem
 .have S:=AA (show Cr k=false by rw[KO.out];simp[e1])
  have C:=Ii m k.mem _ (A.out.1.below O);rw[e1] at C;clear e1;go_wp2_with (refine C.mono ?_;rintro r w_ ⟨rfl,br⟩;clear X N V D);go_ret;exact⟨AI S.out.symm,bL.out.trans ((O.trans (br.mono O.size)).mono bL.out.size)⟩
 have C:=Ii m k.mem _ (A.out.1.below O);rw[e1] at C;have T1:=AA e1;rw[e1] at KO;clear e1;go_wp2_with fail;refine C.mono ?_;rintro r w_ ⟨rfl,br⟩;replace O:=O.trans (br.mono O.size);clear br C X N V D;obtain⟨X,N,V,D⟩:=AE (AB HN.out O);cases e2:A8 k.Xy
 .have S:=AA (show Cr k=false by rw[KO.out];simp[e2])
  have C:=Db i k.Xy _ (BG.below A.out.2.1 O) Hs.out.1;rw[e2] at C;clear e2;go_wp2_with (refine C.mono ?_;rintro r w_ ⟨rfl,br⟩;clear X N V D);go_ret;exact⟨AI S.out.symm,bL.out.trans ((O.trans (br.mono O.size)).mono bL.out.size)⟩
 have C:=Db i k.Xy _ (BG.below A.out.2.1 O) Hs.out.1;rw[e2] at C;have T2:=AA e2;rw[e2] at KO;clear e2;go_wp2_with fail;refine C.mono ?_;rintro r w_ ⟨rfl,br⟩;replace O:=O.trans (br.mono O.size);clear br C X N V D;obtain⟨X,N,V,D⟩:=AE (AB HN.out O);cases e3:Bd k.V0
 .have S:=AA (show Cr k=false by rw[KO.out];simp[e3])
  have C:=JO c k.V0 _ (BG.below A.out.2.2.2 O);rw[e3] at C;clear e3;go_wp2_with (refine C.mono ?_;rintro r w_ ⟨rfl,br⟩;clear X N V D);go_ret;exact⟨AI S.out.symm,bL.out.trans ((O.trans (br.mono O.size)).mono bL.out.size)⟩
 have C:=JO c k.V0 _ (BG.below A.out.2.2.2 O);rw[e3] at C;have T3:=AA e3;rw[e3] at KO;clear e3;go_wp2_with fail;refine C.mono ?_;rintro r w_ ⟨rfl,br⟩;replace O:=O.trans (br.mono O.size);clear br C X N V D;obtain⟨X,N,V,D⟩:=AE (AB HN.out O);cases e4:JL k
 .have S:=AA (show Cr k=false by rw[KO.out];simp[e4])
  have C:=Oz m i e c k _ (A.out.1.below O) T1.out (BG.below A.out.2.1 O) T2.out (A.out.2.2.1.below O) Hs.out.2;rw[e4] at C;clear e4;go_wp2_with (refine C.mono ?_;rintro r w_ ⟨rfl,br⟩;clear X N V D);go_ret;exact⟨AI S.out.symm,bL.out.trans ((O.trans (br.mono O.size)).mono bL.out.size)⟩
 have C:=Oz m i e c k _ (A.out.1.below O) T1.out (BG.below A.out.2.1 O) T2.out (A.out.2.2.1.below O) Hs.out.2;rw[e4] at C;have T4:=AA e4;rw[e4] at KO;clear e4;go_wp2_with fail;refine C.mono ?_;rintro r w_ ⟨rfl,br⟩;replace O:=O.trans (br.mono O.size);clear br C X N V D;obtain⟨X,N,V,D⟩:=AE (AB HN.out O);have eG:Hid (k.V3.length=3):=AA (by have:=T4.out;unfold JL at this;rw[yD,decide_eq_true_eq] at this;exact this.2);have eX:Hid (∀j,j<3->(AF k.V3 j).root<12):=AA (by
  intro j hj;have h4:=T4.out;unfold JL at h4;rw[yD,yr] at h4;have h5:=h4.1 _ (yx (Kw (show j<k.V3.length by have:=eG.out;omega)));unfold EI at h5;simp only[yD,xP,decide_eq_true_eq,AZ] at h5
  rcases h5.1.2 with h|h<;>omega)
 cases e5:(yN 12).all (Dp k)
 .have S:=AA (show Cr k=false by rw[KO.out];simp[e5])
  have C:=Mf m i e c k _ (A.out.1.below O) T1.out (BG.below A.out.2.1 O) T2.out;rw[e5] at C;clear e5;go_wp2_with (refine C.mono ?_;rintro r w_ ⟨rfl,br⟩;clear X N V D);go_ret;exact⟨AI S.out.symm,bL.out.trans ((O.trans (br.mono O.size)).mono bL.out.size)⟩
 have C:=Mf m i e c k _ (A.out.1.below O) T1.out (BG.below A.out.2.1 O) T2.out;rw[e5] at C;have T5:=AA e5;rw[e5] at KO;clear e5;go_wp2_with fail;refine C.mono ?_;rintro r w_ ⟨rfl,br⟩;replace O:=O.trans (br.mono O.size);clear br C X N V D;obtain⟨X,N,V,D⟩:=AE (AB HN.out O);cases e6:(yN 12).all (IB k)
 .have S:=AA (show Cr k=false by rw[KO.out];simp[e6])
  have C:=PA m i e c k _ (A.out.1.below O) T1.out (BG.below A.out.2.1 O) T2.out (A.out.2.2.1.below O) eG.out eX.out;rw[e6] at C;clear e6;go_wp2_with (refine C.mono ?_;rintro r w_ ⟨rfl,br⟩;clear X N V D);go_ret;exact⟨AI S.out.symm,bL.out.trans ((O.trans (br.mono O.size)).mono bL.out.size)⟩
 have C:=PA m i e c k _ (A.out.1.below O) T1.out (BG.below A.out.2.1 O) T2.out (A.out.2.2.1.below O) eG.out eX.out;rw[e6] at C;have T6:=AA e6;rw[e6] at KO;clear e6;go_wp2_with fail;refine C.mono ?_;rintro r w_ ⟨rfl,br⟩;replace O:=O.trans (br.mono O.size);clear br C X N V D;obtain⟨X,N,V,D⟩:=AE (AB HN.out O);have C:=UC m i e c k _ (A.out.1.below O) T1.out (A.out.2.2.1.below O) eG.out (BG.below A.out.2.2.2 O) T3.out eX.out;have S:=AA (show Cr k=k.V0.all (Cs k) by rw[KO.out];simp);go_wp2_with (refine C.mono ?_;rintro r w_ ⟨rfl,br⟩);go_ret;exact⟨AI S.out.symm,bL.out.trans ((O.trans (br.mono O.size)).mono bL.out.size)⟩
theorem SY(v1 v2:Value)(xs:List ByteArray)(w:World)(h1:BT w v1 xs)(K:BT w v2 xs):
 Calls prog 71 #[v1,v2] w λe w'=>e=.returned (.bool true)/\∃n,w'=w.drewN n:=by
 obtain⟨a1,c1,rfl,g4,dm,H1⟩:=BG.open FJ (by decide) h1;obtain⟨a2,c2,rfl,gK,dl,H2⟩:=BG.open FJ (by decide) K;unfold maxLen at dm dl;clear h1 K;have O:((xs.length:Int) !=xs.length)=false:=by simp
 go_in;go_wp2_with fail;go_loopw [5] (λi wr=>∃k:Nat,k<=xs.length/\i=.int .i64 k/\∃n,wr=w.drewN n) (λi _=>xs.length - (intOf i).toNat)
 exact⟨0,yu _,rfl,0,rfl⟩
 obtain⟨k,hk,rfl,n,rfl⟩:=hrel
 by_cases a7:k<xs.length
 .have cl:(k:Int)<(xs.length:Int):=by omega
  obtain⟨b1,o1,rfl,D1⟩:=H1.str a7;obtain⟨b2,o2,rfl,D2⟩:=H2.str a7;clear H1 H2;go_wp2_with fail;go_quiet (fail);go_wp2_with fail;go_roundw;exact⟨k+1,by omega,by go_num,_,rfl⟩;simp[intOf];omega
 .have cl:¬(k:Int)<(xs.length:Int):=by omega
  go_wp2_with fail;go_ret;exact⟨rfl,_,rfl⟩
theorem SU(v1 v2:Value)(xs:List AV)(w:World)(h1:BW w v1 xs)(K:BW w v2 xs):
 Calls prog 29 #[v1,v2] w λe w'=>e=.returned (.bool true)/\∃n,w'=w.drewN n:=by
 obtain⟨a1,c1,rfl,g4,dm,H1⟩:=BG.open Av (by decide) h1;obtain⟨a2,c2,rfl,gK,dl,H2⟩:=BG.open Av (by decide) K;unfold maxLen at dm dl;clear h1 K;have O:((xs.length:Int) !=xs.length)=false:=by simp
 go_in;go_wp2_with fail;go_loopw [5] (λi wr=>∃k:Nat,k<=xs.length/\i=.int .i64 k/\∃n,wr=w.drewN n) (λi _=>xs.length - (intOf i).toNat)
 exact⟨0,yu _,rfl,0,rfl⟩
 obtain⟨k,hk,rfl,n,rfl⟩:=hrel
 by_cases a7:k<xs.length
 .have cl:(k:Int)<(xs.length:Int):=by omega
  obtain⟨b1,o1,rfl,_,lb,k9,mC⟩:=H1.Dq a7;obtain⟨b2,o2,rfl,_,k8,k7,mB⟩:=H2.Dq a7;clear H1 H2;go_wp2_with fail;go_quiet (fail);go_wp2_with fail;go_roundw;exact⟨k+1,by omega,by go_num,_,rfl⟩;simp[intOf];omega
 .have cl:¬(k:Int)<(xs.length:Int):=by omega
  go_wp2_with fail;go_ret;exact⟨rfl,_,rfl⟩
theorem SQ(v1 v2:Value)(xs:List Ad)(w:World)(h1:DY w v1 xs)(K:DY w v2 xs):
 Calls prog 31 #[v1,v2] w λe w'=>e=.returned (.bool true)/\∃n,w'=w.drewN n:=by
 obtain⟨a1,c1,rfl,g4,dm,H1⟩:=BG.open Ce (by decide) h1;obtain⟨a2,c2,rfl,gK,dl,H2⟩:=BG.open Ce (by decide) K;unfold maxLen at dm dl;clear h1 K;have O:((xs.length:Int) !=xs.length)=false:=by simp
 go_in;go_wp2_with fail;go_loopw [5] (λi wr=>∃k:Nat,k<=xs.length/\i=.int .i64 k/\∃n,wr=w.drewN n) (λi _=>xs.length - (intOf i).toNat)
 exact⟨0,yu _,rfl,0,rfl⟩
 obtain⟨k,hk,rfl,n,rfl⟩:=hrel
 by_cases a7:k<xs.length
 .have cl:(k:Int)<(xs.length:Int):=by omega
  obtain⟨b1,o1,rfl,_,lb,k9,mC,p9⟩:=H1.zW a7;obtain⟨b2,o2,rfl,_,k8,k7,mB,p7⟩:=H2.zW a7;clear H1 H2;go_wp2_with fail;go_quiet (fail);go_wp2_with fail;go_roundw;exact⟨k+1,by omega,by go_num,_,rfl⟩;simp[intOf];omega
 .have cl:¬(k:Int)<(xs.length:Int):=by omega
  go_wp2_with fail;go_ret;exact⟨rfl,_,rfl⟩
theorem Tc.zC{w:World}{a:Option Addr}{xs:List Bs}(h:Tc 3 DI w a xs){k:Nat}(hk:k<xs.length):∃b bA,a=some ⟨b,bA,none⟩/\b<w.heap.size/\w.cell? ⟨b,bA+k*3,none⟩=some (.int .i64 (AC xs k).w)/\w.cell? ⟨b,bA+k*3+1,none⟩=some (.int .i64 (AC xs k).a)/\w.cell? ⟨b,bA+k*3+2,none⟩=some (.bool (AC xs k).u):=by obtain⟨b,bA,rfl,fH,hc⟩:=h k _ (show xs[k]?=some (AC xs k) from BD hk);exact⟨b,bA,rfl,fH,by simpa using hc 0 _ rfl,hc 1 _ rfl,hc 2 _ rfl⟩
theorem SV(v1 v2:Value)(xs:List Bs)(w:World)(h1:BG 3 DI w v1 xs)(K:BG 3 DI w v2 xs):
 Calls prog 25 #[v1,v2] w λe w'=>e=.returned (.bool true)/\∃n,w'=w.drewN n:=by
 obtain⟨a1,c1,rfl,g4,dm,H1⟩:=BG.open Es (by decide) h1;obtain⟨a2,c2,rfl,gK,dl,H2⟩:=BG.open Es (by decide) K;unfold maxLen at dm dl;clear h1 K;have O:((xs.length:Int) !=xs.length)=false:=by simp
 go_in;go_wp2_with fail;go_loopw [5] (λi wr=>∃k:Nat,k<=xs.length/\i=.int .i64 k/\∃n,wr=w.drewN n) (λi _=>xs.length - (intOf i).toNat)
 exact⟨0,yu _,rfl,0,rfl⟩
 obtain⟨k,hk,rfl,n,rfl⟩:=hrel
 by_cases a7:k<xs.length
 .have cl:(k:Int)<(xs.length:Int):=by omega
  obtain⟨b1,o1,rfl,_,lb,k9,mC⟩:=H1.zC a7;obtain⟨b2,o2,rfl,_,k8,k7,mB⟩:=H2.zC a7;clear H1 H2;go_wp2_with fail;go_quiet (fail);go_wp2_with fail;go_roundw;exact⟨k+1,by omega,by go_num,_,rfl⟩;simp[intOf];omega
 .have cl:¬(k:Int)<(xs.length:Int):=by omega
  go_wp2_with fail;go_ret;exact⟨rfl,_,rfl⟩
theorem Qt{P:Program}{f:FuncId}{ex:Array Value}{w:World}{n:Nat}(h:∀m,Calls P f ex (w.drewN m) λe w'=>e=.returned (.bool true)/\∃j,w'=(w.drewN m).drewN j):∀x,Calls P f ex (w.drewN (n+x)) λe mG=>e=.returned (.bool true)/\∃j,mG=w.drewN (n+j):=by intro x;refine(h (n+x)).mono ?_;rintro e w' ⟨rfl,j,rfl⟩;exact⟨rfl,x+j,by rw[Lm,Nat.add_assoc]⟩
theorem Mj(v1 v2:Value)(xs:List Int)(w:World)(h1:Ax w v1 xs)(K:Ax w v2 xs):
 Calls prog 12 #[v1,v2] w λe w'=>e=.returned (.bool true)/\∃n,w'=w.drewN n:=by
 refine(Ns v1 v2 xs xs w h1 K).mono ?_;rintro e w' ⟨rfl,h⟩;exact⟨by simp,h⟩
theorem L3(v1 v2:Value)(xs:List (List Int))(w:World)(h1:Bf w v1 xs)(K:Bf w v2 xs):
 Calls prog 24 #[v1,v2] w λe w'=>e=.returned (.bool true)/\∃n,w'=w.drewN n:=by
 obtain⟨a1,c1,rfl,g4,dm,H1⟩:=h1.open;obtain⟨a2,c2,rfl,gK,dl,H2⟩:=K.open;unfold maxLen at dm dl;clear h1 K;have O:((xs.length:Int) !=xs.length)=false:=by simp
 go_in;go_wp2_with fail;go_loopw [5] (λi wr=>∃k:Nat,k<=xs.length/\i=.int .i64 k/\∃n,wr=w.drewN n) (λi _=>xs.length - (intOf i).toNat)
 exact⟨0,yu _,rfl,0,rfl⟩
 obtain⟨k,hk,rfl,n,rfl⟩:=hrel
 by_cases a7:k<xs.length
 .have cl:(k:Int)<(xs.length:Int):=by omega
  obtain⟨b1,o1,u1,rfl,_,D1,R1⟩:=H1 k a7;obtain⟨b2,o2,u2,rfl,_,D2,R2⟩:=H2 k a7;have HQ:=AA (Qt (w:=w) (n:=n) λm=>Mj u1 u2 (AH xs k) (w.drewN m) (R1.below (A0 (yO _ _) m)) (R2.below (A0 (yO _ _) m)));clear H1 H2 R1 R2;go_wp2_with fail;go_quiet ((go_at_call 12;exact HQ.out _));go_wp2_with fail;go_roundw;exact⟨k+1,by omega,by go_num,_,rfl⟩;simp[intOf];omega
 .have cl:¬(k:Int)<(xs.length:Int):=by omega
  go_wp2_with fail;go_ret;exact⟨rfl,_,rfl⟩
theorem UZ(v1 v2:Value)(xs:List Em)(w:World)(h1:GO w v1 xs)(K:GO w v2 xs):
 Calls prog 30 #[v1,v2] w λe w'=>e=.returned (.bool true)/\∃n,w'=w.drewN n:=by
 obtain⟨a1,c1,rfl,g4,dm,H1⟩:=h1.open;obtain⟨a2,c2,rfl,gK,dl,H2⟩:=K.open;unfold maxLen at dm dl;clear h1 K;have O:((xs.length:Int) !=xs.length)=false:=by simp
 go_in;go_wp2_with fail;go_loopw [5] (λi wr=>∃k:Nat,k<=xs.length/\i=.int .i64 k/\∃n,wr=w.drewN n) (λi _=>xs.length - (intOf i).toNat)
 exact⟨0,yu _,rfl,0,rfl⟩
 obtain⟨k,hk,rfl,n,rfl⟩:=hrel
 by_cases a7:k<xs.length
 .have cl:(k:Int)<(xs.length:Int):=by omega
  obtain⟨b1,o1,pp,pm,rfl,_,lb,k9,R1⟩:=H1 k a7;obtain⟨b2,o2,po,pk,rfl,_,k8,k7,R2⟩:=H2 k a7;have HQ:=AA (Qt (w:=w) (n:=n) λm=>SY _ _ (AF xs k).Tj (w.drewN m) (BG.below R1 (A0 (yO _ _) m)) (BG.below R2 (A0 (yO _ _) m)));clear H1 H2 R1 R2;go_wp2_with fail;go_quiet ((go_at_call 71;exact HQ.out _));go_wp2_with fail;go_roundw;exact⟨k+1,by omega,by go_num,_,rfl⟩;simp[intOf];omega
 .have cl:¬(k:Int)<(xs.length:Int):=by omega
  go_wp2_with fail;go_ret;exact⟨rfl,_,rfl⟩
theorem HJ{P:Program}{f:FuncId}{ex:Array Value}{w:World}{v:Ending}(h:Calls P f ex w λe w'=>e=v/\∃n,w'=w.drewN n):Calls P f ex w λe w'=>e=v/\Below w.heap.size w w':=Ma h
theorem L0(m i e c m' i' e' c':Value)(k:AN)(w:World)(h1:Le w m i e c k)(K:Le w m' i' e' c' k):
 Calls prog 10 #[.agg #[m,i,e,c],.agg #[m',i',e',c']] w λr w'=>r=.returned (.bool true)/\Below w.heap.size w w':=by
 obtain⟨N0,N1,al,ds⟩:=Ki w (.cells #[m,i,e,c] 28) (.cells #[m',i',e',c'] 28);have H1:=AA (h1.below al);have H2:=AA (K.below al);clear h1 K;go_in;go_wp2_with fail;generalize(w.alloc _).alloc _=W0 at*;have HN:=AA (yk N0 N1);have bL:=AA al;obtain⟨X,N,V,D⟩:=AE N0;obtain⟨y0,y1,R,y3⟩:=AE N1;clear N0 N1 al ds;have O:Below W0.heap.size W0 W0:=yO _ _;go_wp2_with fail;refine(HJ (L3 m m' k.mem _ (H1.out.1.below O) (H2.out.1.below O))).mono ?_;rintro r w_ ⟨rfl,br⟩;replace O:=O.trans (br.mono O.size);clear br X N V D y0 y1 R y3;obtain⟨X,N,V,D⟩:=AE (AB HN.out.1 O);obtain⟨y0,y1,R,y3⟩:=AE (AB HN.out.2 O);go_wp2_with fail;refine(HJ (SU i i' k.Xy _ (BG.below H1.out.2.1 O) (BG.below H2.out.2.1 O))).mono ?_;rintro r w_ ⟨rfl,br⟩;replace O:=O.trans (br.mono O.size);clear br X N V D y0 y1 R y3;obtain⟨X,N,V,D⟩:=AE (AB HN.out.1 O);obtain⟨y0,y1,R,y3⟩:=AE (AB HN.out.2 O);go_wp2_with fail;refine(HJ (UZ e e' k.V3 _ (H1.out.2.2.1.below O) (H2.out.2.2.1.below O))).mono ?_;rintro r w_ ⟨rfl,br⟩;replace O:=O.trans (br.mono O.size);clear br X N V D y0 y1 R y3;obtain⟨X,N,V,D⟩:=AE (AB HN.out.1 O);obtain⟨y0,y1,R,y3⟩:=AE (AB HN.out.2 O);go_wp2_with (refine(HJ (SQ c c' k.V0 _ (BG.below H1.out.2.2.2 O) (BG.below H2.out.2.2.2 O))).mono ?_;rintro r w_ ⟨rfl,br⟩;replace O:=O.trans (br.mono O.size);clear br X N V D y0 y1 R y3;obtain⟨X,N,V,D⟩:=AE (AB HN.out.1 O);obtain⟨y0,y1,R,y3⟩:=AE (AB HN.out.2 O));go_ret;exact⟨rfl,bL.out.trans (O.mono bL.out.size)⟩
theorem Gs(m i e c s l q m' i' e' c' s' l' q':Value)(P:AR)(w:World)(h1:KR w m i e c s l q P)(K:KR w m' i' e' c' s' l' q' P):
 Calls prog 8 #[AQ m i e c s l q P.Il P.UQ,AQ m' i' e' c' s' l' q' P.Il P.UQ] w λr w'=>r=.returned (.bool true)/\Below w.heap.size w w':=by
 unfold AQ;obtain⟨N0,N1,al,ds⟩:=Ki w (.cells #[m,i,e,c,s,l,q,.int .i64 P.Il,.int .i64 P.UQ] 32) (.cells #[m',i',e',c',s',l',q',.int .i64 P.Il,.int .i64 P.UQ] 32);have H1:=AA (h1.below al);have H2:=AA (K.below al);clear h1 K;go_in;go_wp2_with fail;generalize(w.alloc _).alloc _=W0 at*;have HN:=AA (yk N0 N1);have bL:=AA al;obtain⟨X,N,V,D,x4,x5,x6,x7,x8⟩:=AD N0;obtain⟨y0,y1,R,y3,y4,y5,y6,y7,y8⟩:=AD N1;clear N0 N1 al ds;have O:Below W0.heap.size W0 W0:=yO _ _;go_wp2_with fail;refine(L0 m i e c m' i' e' c' P.Vw _ (H1.out.1.below O) (H2.out.1.below O)).mono ?_;rintro r w_ ⟨rfl,br⟩;replace O:=O.trans (br.mono O.size);clear br X N V D x4 x5 x6 x7 x8 y0 y1 R y3 y4 y5 y6 y7 y8;obtain⟨X,N,V,D,x4,x5,x6,x7,x8⟩:=AD (AB HN.out.1 O);obtain⟨y0,y1,R,y3,y4,y5,y6,y7,y8⟩:=AD (AB HN.out.2 O);go_wp2_with fail;refine(HJ (L3 s s' P.swap _ (H1.out.2.1.below O) (H2.out.2.1.below O))).mono ?_;rintro r w_ ⟨rfl,br⟩;replace O:=O.trans (br.mono O.size);clear br X N V D x4 x5 x6 x7 x8 y0 y1 R y3 y4 y5 y6 y7 y8;obtain⟨X,N,V,D,x4,x5,x6,x7,x8⟩:=AD (AB HN.out.1 O);obtain⟨y0,y1,R,y3,y4,y5,y6,y7,y8⟩:=AD (AB HN.out.2 O);go_wp2_with fail;refine(HJ (Mj l l' P.low _ (H1.out.2.2.1.below O) (H2.out.2.2.1.below O))).mono ?_;rintro r w_ ⟨rfl,br⟩;replace O:=O.trans (br.mono O.size);clear br X N V D x4 x5 x6 x7 x8 y0 y1 R y3 y4 y5 y6 y7 y8;obtain⟨X,N,V,D,x4,x5,x6,x7,x8⟩:=AD (AB HN.out.1 O);obtain⟨y0,y1,R,y3,y4,y5,y6,y7,y8⟩:=AD (AB HN.out.2 O);go_wp2_with (refine(HJ (SV q q' P.Xx _ (BG.below H1.out.2.2.2 O) (BG.below H2.out.2.2.2 O))).mono ?_;rintro r w_ ⟨rfl,br⟩;replace O:=O.trans (br.mono O.size);clear br X N V D x4 x5 x6 x7 x8 y0 y1 R y3 y4 y5 y6 y7 y8;obtain⟨X,N,V,D,x4,x5,x6,x7,x8⟩:=AD (AB HN.out.1 O);obtain⟨y0,y1,R,y3,y4,y5,y6,y7,y8⟩:=AD (AB HN.out.2 O));go_ret;exact⟨rfl,bL.out.trans (O.mono bL.out.size)⟩
def So(p:AR):Bool:=decide (p.UQ<=(As p.Xx 1:Int))||decide (Ar p.Vw.Xy<0)
theorem WO{Xy:List AV}:Ar Xy<0↔Xy.countP (λx=>decide (x.k=0))=0:=by
 unfold Ar;rw[List.countP_eq_zero];constructor
 .intro h x hx hk
  rw[if_pos (vV.2 ⟨x,hx,hk⟩)] at h;omega
 .intro h
  rw[if_neg]
  .decide
  .intro ha
   obtain⟨x,hx,hk⟩:=vV.1 ha;exact h x hx hk
def MT(r:List Int):Bool:=r.isEmpty||D8 r
theorem TW{s:List (List Int)}:Ff s=(s.all MT&&decide (s.length=16)):=rfl
theorem IN(v:Value)(s:List (List Int))(w:World)(h:Bf w v s):Calls prog 49 #[v] w λe w'=>e=.returned (.bool (Ff s))/\Below w.heap.size w w':=by
 obtain⟨ao,c,rfl,hc,fd,wx⟩:=h.open;unfold maxLen at fd;have HH:=AA wx;clear h wx;go_in;go_wp2_with fail;go_loopw [3] (λix wr=>∃k:Nat,k<=s.length/\ix=.int .i64 k/\(∀j,j<k->MT (AH s j)=true)/\Below w.heap.size w wr) (λix _=>s.length - (intOf ix).toNat)
 exact⟨0,yu _,rfl,λj hj=>absurd hj (xW _),yO _ _⟩
 obtain⟨k,hk,rfl,ay,O⟩:=hrel;have bl:=AA ay;clear ay
 by_cases a7:k<s.length
 .have cl:(k:Int)<(s.length:Int):=by omega
  obtain⟨b,bA,u,rfl,fH,x3,hr⟩:=(HH.out.below O) k a7;have C:=Lq u _ wr hr;obtain⟨au,cu,rfl,_,_,_⟩:=hr.open
  by_cases he:(AH s k).length=0
  .have t0:¬(0:Int)<(AH s k).length:=by omega
   have S:=AA (show MT (AH s k)=true by unfold MT;rw[tS.2 (yh he)];rfl);clear C hr he;go_wp2_with fail;go_roundw;exact⟨k+1,by omega,by go_num,Al bl.out S.out,O⟩;simp[intOf];omega
  .have t0:(0:Int)<(AH s k).length:=by omega
   have vs:MT (AH s k)=D8 (AH s k):=by
    unfold MT;have:(AH s k).isEmpty=false:=by cases hx:AH s k;rw[hx] at he;exact absurd rfl he;rfl
    rw[this,Bool.false_or]
   have C:=AA C;cases K:D8 (AH s k)
   .have S:=AA (show Ff s=false by rw[TW,JK (KD a7) (vs.trans K)];rfl)
    have T:=AA K;clear hr he vs K;go_wp2_with (refine C.out.mono ?_;rintro e w2 ⟨rfl,b2⟩;rw[T.out]);go_ret;exact⟨AI S.out.symm,O.trans (b2.mono O.size)⟩
   .have S:=AA (vs.trans K)
    have T:=AA K;clear hr he vs K;go_wp2_with fail;refine C.out.mono ?_;rintro e w2 ⟨rfl,b2⟩;rw[T.out];go_wp2_with fail;go_roundw;exact⟨k+1,by omega,by go_num,Al bl.out S.out,O.trans (b2.mono O.size)⟩;simp[intOf];omega
 .have ek:k=s.length:=by omega
  have ay:=bl.out;rw[ek] at ay;have S:=AA (show Ff s=((s.length:Int)==16) by
   rw[TW,J6 (λk hk=>KD hk) ay,wl]
   by_cases h3:s.length=16<;>simp[h3]<;>omega)
  have cl:¬(k:Int)<(s.length:Int):=by omega
  clear bl ay;go_wp2_with fail;go_ret;exact⟨AI S.out.symm,O⟩
theorem NV(m i e c:Value)(k:AN)(w:World)(hE:GO w e k.V3)(eG:k.V3.length=3)(iJ:∀j,j<k.V3.length->DH (AF k.V3 j).Tj):
 Calls prog 50 #[.agg #[m,i,e,c]] w λr w'=>r=.returned (.bool (Gx k))/\Below w.heap.size w w':=by
 obtain⟨N0,al⟩:=EH w (.cells #[m,i,e,c] 28);obtain⟨ae,ce,rfl,_,_,eT⟩:=(hE.below al).open;have AL:Gx k=(CQ (AF k.V3 0).Tj gA&&!CQ (AF k.V3 1).Tj gA&&!CQ (AF k.V3 2).Tj gA):=rfl;have CM:=AA (λv j (hj:j<3) W (hW:BT W v (AF k.V3 j).Tj)=>Ky v (AF k.V3 j).Tj gA W hW (iJ j (by omega)) (by decide));unfold gA at CM;have eR:=AA eG;clear eG iJ hE;go_in;go_wp2_with fail;generalize w.alloc _=W0 at*;have HN:=AA N0;have HE:=AA eT;have bL:=AA al;have HA:=AA AL;clear N0 eT al AL;go_loopw [3] (λix wr=>∃j:Nat,1<=j/\j<=3/\ix=.int .i64 j/\(∀j',1<=j'->j'<j->CQ (AF k.V3 j').Tj gA=false)/\Below W0.heap.size W0 wr) (λix _=>3 - (intOf ix).toNat)
 exact⟨1,by omega,by omega,rfl,λj h1 K=>by omega,yO _ _⟩
 obtain⟨j,nJ,hj,rfl,ay,O⟩:=hrel;have bl:=AA ay;clear ay;obtain⟨_,_,V,_⟩:=AE (AB HN.out O)
 by_cases a7:j<3
 .have dd:(j:Int)<k.V3.length:=by have:=eR.out;omega
  obtain⟨b,bA,ua,uc,rfl,fH,D0,_,RR⟩:=(HE.out.below O) j (by have:=eR.out;omega);have C:=CM.out _ j a7 wr RR;cases hm:CQ (AF k.V3 j).Tj ⟨#[97]⟩
  .rw[hm] at C
   have S:=AA (show CQ (AF k.V3 j).Tj gA=false from hm);clear hm RR;go_wp2_with fail;refine C.mono ?_;rintro r w2 ⟨rfl,b2⟩;go_wp2_with fail;go_roundw
   case rel=>exact⟨j+1,by omega,by omega,by go_num,λj' h1 K=>by
    rcases Nat.lt_succ_iff_lt_or_eq.1 K with h|rfl
    .exact bl.out j' h1 h
    .exact S.out,O.trans (b2.mono O.size)⟩
   case measure=>simp[intOf];omega
  .rw[hm] at C
   have S:=AA (show Gx k=false by
    have ny:CQ (AF k.V3 j).Tj gA=true:=hm;rw[HA.out];have:j=1∨j=2:=by omega
    rcases this with rfl|rfl<;>rw[ny]<;>simp)
   clear hm RR;go_wp2_with (refine C.mono ?_;rintro r w2 ⟨rfl,b2⟩);go_ret;exact⟨AI S.out.symm,bL.out.trans ((O.trans (b2.mono O.size)).mono bL.out.size)⟩
 .obtain rfl:j=3:=by omega
  obtain⟨b,bA,ua,uc,rfl,fH,D0,_,RR⟩:=(HE.out.below O) 0 (by have:=eR.out;omega);have C:=CM.out _ 0 (by omega) wr RR;have dd:¬((3:Nat):Int)<k.V3.length:=by have:=eR.out;omega
  have nG:¬(3:Int)<k.V3.length:=by have:=eR.out;omega
  have pM:(0:Int)<k.V3.length:=by have:=eR.out;omega
  have S:=AA (show Gx k=CQ (AF k.V3 0).Tj ⟨#[97]⟩ by rw[HA.out,bl.out 1 (by omega) (by omega),bl.out 2 (by omega) (by omega)];simp[gA])
  have e0:bA+0*2=bA:=by omega
  rw[e0] at D0;clear RR bl;go_wp2_with (refine C.mono ?_;rintro r w2 ⟨rfl,b2⟩);go_ret;exact⟨AI S.out.symm,bL.out.trans ((O.trans (b2.mono O.size)).mono bL.out.size)⟩
theorem Ux{l:List Bs}{k:Nat}{wh:Int}(hk:k<l.length):As (l.take (k+1)) wh=As (l.take k) wh+(if(AC l k).w=wh then 1 else 0):=by
 unfold As;rw[DF (x:=AC l k) (BD hk),sK]
 congr 1
 simp only[xA,r9,OY,decide_eq_true_eq,wK]
theorem X9{l:List Bs}{wh:Int}:As l wh<=l.length:=by unfold As;exact vy
theorem NW(mv iv ev cv sv lv qv:Value)(P:AR)(wh:Int)(w:World)(h:BG 3 DI w qv P.Xx)(hl:P.Xx.length<=1048576):
 Calls prog 54 #[AQ mv iv ev cv sv lv qv P.Il P.UQ,.int .i64 wh] w λr w'=>r=.returned (.int .i64 (As P.Xx wh:Nat))/\Below w.heap.size w w':=by
 unfold AQ;obtain⟨N0,al⟩:=EH w (.cells #[mv,iv,ev,cv,sv,lv,qv,.int .i64 P.Il,.int .i64 P.UQ] 32);obtain⟨aq,cq,rfl,_,_,mr⟩:=BG.open Es (by decide) (BG.below h al);obtain⟨_,_,_,_,_,_,x6,_,_⟩:=AD N0;clear h;go_in;go_wp2_with fail;generalize w.alloc _=W0 at*;have HQ:=AA mr;clear mr N0;go_loopw [5,6] (λn ix wr=>∃k:Nat,k<=P.Xx.length/\ix=.int .i64 k/\n=.int .i64 (As (P.Xx.take k) wh:Nat)/\W0=wr) (λn ix _=>P.Xx.length - (intOf ix).toNat)
 exact⟨0,yu _,rfl,rfl,rfl⟩
 obtain⟨k,hk,rfl,rfl,rfl⟩:=hrel
 by_cases a7:k<P.Xx.length
 .have kg:(k:Int)<P.Xx.length:=by omega
  obtain⟨b,bA,rfl,_,D0,_,_⟩:=HQ.out.zC a7;have S:=Ux (wh:=wh) a7;have i5:=X9 (l:=P.Xx.take k) (wh:=wh);rw[yt] at i5
  by_cases hw:(AC P.Xx k).w=wh
  .rw[if_pos hw] at S
   have t0:((AC P.Xx k).w==wh)=true:=by simp[hw]
   have S:=AA S;generalize As (P.Xx.take k) wh=n0 at*;clear hw;go_wp2_with fail;go_roundw;exact⟨k+1,by omega,by go_num,by rw[S.out];go_num,by first|rfl|trivial⟩;simp[intOf];omega
  .rw[if_neg hw] at S
   have t0:((AC P.Xx k).w==wh)=false:=by simp[hw]
   have S:=AA S;clear hw;go_wp2_with fail;go_roundw;exact⟨k+1,by omega,by go_num,by rw[S.out,Nat.add_zero],by first|rfl|trivial⟩;simp[intOf];omega
 .obtain rfl:k=P.Xx.length:=by omega
  have kg:¬(P.Xx.length:Int)<P.Xx.length:=by omega
  rw[xG];go_wp2_with fail;go_ret;exact⟨rfl,al⟩
theorem WN{l:List AV}{k:Nat}(hk:k<l.length):(l.take (k+1)).countP (λx=>decide (x.k=0))=(l.take k).countP (λx=>decide (x.k=0))+(if(Sc l k).k=0 then 1 else 0):=by
 rw[DF (Ca hk),sK]
 congr 1
 simp only[xA,r9,decide_eq_true_eq,wK]
theorem Q8(v:Value)(l:List AV)(w:World)(h:BW w v l)(df:A8 l=true):
 Calls prog 236 #[v] w λr w'=>r=.returned (.int .i64 (l.countP (λx=>decide (x.k=0)):Nat))/\Below w.heap.size w w':=by
 have CV:=Db v l w h (By df);rw[df] at CV;obtain⟨ai,ci,rfl,_,_,H0⟩:=BG.open Av (by decide) h;have j9:=(A1.1 df).1;have pC:(l.length:Int)<=12:=by omega
 have HH:=AA H0;have CV:=AA CV;clear h H0 df j9;go_in;go_wp2_with fail;go_loopw [3,4] (λn ix wr=>∃k:Nat,k<=l.length/\ix=.int .i64 k/\n=.int .i64 ((l.take k).countP (λx=>decide (x.k=0)):Nat)/\w=wr) (λn ix _=>l.length - (intOf ix).toNat)
 exact⟨0,yu _,rfl,rfl,rfl⟩
 obtain⟨k,hk,rfl,rfl,rfl⟩:=hrel
 by_cases a7:k<l.length
 .have kg:(k:Int)<l.length:=by omega
  obtain⟨b,bA,rfl,_,D0,_,_⟩:=HH.out.Dq a7;have S:=WN a7;have i5:=vy (p:=λx:AV=>decide (x.k=0)) (l:=l.take k);rw[yt] at i5
  by_cases hw:(Sc l k).k=0
  .rw[if_pos hw] at S
   have t0:((Sc l k).k==0)=true:=by simp[hw]
   have S:=AA S;generalize List.countP _ (l.take k)=n0 at*;clear hw;go_wp2_with fail;go_roundw;exact⟨k+1,by omega,by go_num,by rw[S.out];go_num,by first|rfl|trivial⟩;simp[intOf];omega
  .rw[if_neg hw] at S
   have t0:((Sc l k).k==0)=false:=by simp[hw]
   have S:=AA S;clear hw;go_wp2_with fail;go_roundw;exact⟨k+1,by omega,by go_num,by rw[S.out,Nat.add_zero],by first|rfl|trivial⟩;simp[intOf];omega
 .obtain rfl:k=l.length:=by omega
  have kg:¬(l.length:Int)<l.length:=by omega
  rw[xG];go_wp2_with (refine CV.out.mono ?_;rintro r w2 ⟨rfl,b2⟩);go_ret;exact⟨rfl,b2⟩
theorem U8{s:List (List Int)}{k:Nat}(hk:k<s.length)(h:∀j,j<k->(AH s j).isEmpty=false)(hp:(AH s k).isEmpty=true):Bo s=(k:Int):=by
 have g:∀j (hj:j<s.length),s[j]=AH s j:=λj hj=>by have:=KD hj;rw[yH hj] at this;exact yQ this
 unfold Bo;rw[if_pos (OS (KD hk) hp)];have:s.findIdx List.isEmpty=k:=by
  rw[List.findIdx_eq hk];exact⟨by rw[g k hk];exact hp,λj hj=>by rw[g j (by omega)];exact h j hj⟩
 rw[this]
theorem Tw{s:List (List Int)}(h:∀j,j<s.length->(AH s j).isEmpty=false):Bo s= -1:=by
 unfold Bo;rw[if_neg];rw[Lj (λk hk=>KD hk) h];simp
theorem VO(v:Value)(s:List (List Int))(w:World)(h:Bf w v s):Calls prog 268 #[v] w λe w'=>e=.returned (.int .i64 (Bo s))/\Below w.heap.size w w':=by
 obtain⟨ao,c,rfl,hc,fd,wx⟩:=h.open;unfold maxLen at fd;have HH:=AA wx;clear h wx;go_in;go_wp2_with fail;go_loopw [3] (λix wr=>∃k:Nat,k<=s.length/\ix=.int .i64 k/\(∀j,j<k->(AH s j).isEmpty=false)/\Below w.heap.size w wr) (λix _=>s.length - (intOf ix).toNat)
 exact⟨0,yu _,rfl,λj hj=>absurd hj (xW _),yO _ _⟩
 obtain⟨k,hk,rfl,ay,O⟩:=hrel;have bl:=AA ay;clear ay
 by_cases a7:k<s.length
 .have cl:(k:Int)<(s.length:Int):=by omega
  obtain⟨b,bA,u,rfl,fH,x3,hr⟩:=(HH.out.below O) k a7;obtain⟨au,cu,rfl,_,_,_⟩:=hr.open;cases hp:(AH s k).isEmpty
  .have t0:(((AH s k).length:Int)==0)=false:=by rw[<-hp];cases hx:AH s k<;>simp<;>omega
   have Hp:=AA hp;clear hp;go_wp2_with fail;go_roundw;exact⟨k+1,by omega,by go_num,Al bl.out Hp.out,O⟩;simp[intOf];omega
  .have t0:(((AH s k).length:Int)==0)=true:=by rw[<-hp];cases hx:AH s k<;>simp<;>omega
   have S:=AA (U8 a7 bl.out hp);have Hp:=AA hp;clear hp;go_wp2_with fail;go_ret;exact⟨Cl S.out.symm,O⟩
 .have ek:k=s.length:=by omega
  have ay:=bl.out;rw[ek] at ay;have S:=AA (Tw ay);clear bl ay;go_wp2_with fail;go_ret;exact⟨Cl S.out.symm,O⟩
theorem WD{k:AN}{c:AU}(h:c.k=1):Ae k c=JU k c:=by unfold Ae;rw[if_pos h]
theorem VN{lo:Nat}{m:Value}{k:AN}{w:World}(h:Dh lo w m iv ev cv k)(ar:lo<=w.heap.size)(hk:DP k)(call:AU)(he:0<=call.e/\call.e<3)(K:call.k=1)(ez:call.nm.size<=maxLen):
 Calls prog 167 #[.agg #[m,iv,ev,cv],.agg call.cs] w (LW lo w (Ae k call)):=by
 have bC:=SC.start h ar call;have P0:Ae k call=if BO call.nm=false then(k,0,3) else if CQ (AF k.V3 call.e.toNat).Tj call.nm=false then(k,0,1) else if Ar k.Xy<0 then(k,0,4) else({k with Xy:=k.Xy.set (Ar k.Xy).toNat ⟨1,call.nm,0⟩,mem:=k.mem.set (Ar k.Xy).toNat [0,0,0,0]},Ar k.Xy,0):=WD K
 have cF:=(Am hk).1;have df:=(Am hk).2.1;obtain⟨gm,a6,rfl,_⟩:=Eb.mems bC cF;obtain⟨am,dw,cm,ai,ni,ci,ae,ep,ce,ac,nc,cc,em,rfl,rfl,rfl⟩:=bC.Ex;clear em;have S0:=AA bC;obtain⟨kk,e,a,b,c,nm⟩:=call;simp only at he ez;obtain⟨en,rfl⟩:∃n:Nat,e=(n:Int):=⟨e.toNat,by omega⟩
 simp only[AU.cs,yq] at S0 P0 ⊢;have HP:=AA P0;have A:=AA hk;have CR:=AA (λW=>A3 (EY nm W ez));have CM:=AA (λW (h:GO W (.slice ae ep ce) k.V3)=>Jv (.slice (some ⟨gm,0,none⟩) 12 a6) (.slice ai ni ci) (.slice ae ep ce) (.slice ac nc cc) k en nm W h hk (by omega) ez);have CF:=AA (λW (h:BW W (.slice ai ni ci) k.Xy)=>Ox (.slice ai ni ci) k.Xy W h);obtain⟨X,N,V,D⟩:=S0.out.xs;obtain⟨y0,y1,R,y3,y4,y5⟩:=S0.out.ys6;have eJ:=AA cF;have oK:=AA df;generalize hrv:BO nm=rv at CR HP;generalize hmb:CQ (AF k.V3 en).Tj nm=mb at CM HP;have oF:=AA hrv;clear h K bC he hk cF df ez P0 hrv hmb;generalize hW0:((w.alloc _).alloc _).alloc _=W0 at*;go_in;go_wp2_with fail;refine(CR.out _).mono ?_;rintro r w0 ⟨rfl,al⟩;have S0:=AA (S0.out.below al);clear X N V D y0 y1 R y3 y4 y5 al hW0;cases rv
 .have a4:=AA (show Ae k ⟨kk,(en:Int),a,b,c,nm⟩=(k,0,3) by rw[HP.out];rfl)
  clear HP CR CM CF;obtain⟨⟨X,N,V,D⟩,⟨⟨z0,z1,z2,z3⟩,bt⟩,HE,HR⟩:=S0.out.yS ar (v:=0) (code:=3) (a4.out) (by decide);go_wp2_with ((try simp only[xV,Exit.then]);with_reducible refine yC ?_ rfl HR.out;obtain⟨E0,E1,E2,E3⟩:=HE.out;simp[results,uO,go_sem,E0,E1,E2,E3])
 .obtain⟨X,N,V,D⟩:=S0.out.xs
  obtain⟨y0,y1,R,y3,y4,y5⟩:=S0.out.ys6;go_wp2_with fail;refine(CM.out _ S0.out.K.2.2.1).mono ?_;rintro r w1 ⟨rfl,bO⟩;have S1:=AA (S0.out.below bO);clear X N V D y0 y1 R y3 y4 y5 bO;cases mb
  .have a4:=AA (show Ae k ⟨kk,(en:Int),a,b,c,nm⟩=(k,0,1) by rw[HP.out];rfl)
   obtain⟨⟨X,N,V,D⟩,⟨⟨z0,z1,z2,z3⟩,bt⟩,HE,HR⟩:=S1.out.yS ar (v:=0) (code:=1) (a4.out) (by decide);go_wp2_with ((try simp only[xV,Exit.then]);with_reducible refine yC ?_ rfl HR.out;obtain⟨E0,E1,E2,E3⟩:=HE.out;simp[results,uO,go_sem,E0,E1,E2,E3])
  .have bu:=AA (show Ae k ⟨kk,(en:Int),a,b,c,nm⟩=if Ar k.Xy<0 then(k,0,4) else({k with Xy:=k.Xy.set (Ar k.Xy).toNat ⟨1,nm,0⟩,mem:=k.mem.set (Ar k.Xy).toNat [0,0,0,0]},Ar k.Xy,0) by rw[HP.out];rfl)
   obtain⟨X,N,V,D⟩:=S1.out.xs;clear HP;go_wp2_with fail;refine(CF.out _ S1.out.K.2.1).mono ?_;rintro r w2 ⟨rfl,a0⟩;have S2:=AA (S1.out.below a0);clear X N V D a0
   by_cases ih:Ar k.Xy<0
   .have a4:=AA (show Ae k ⟨kk,(en:Int),a,b,c,nm⟩=(k,0,4) by rw[bu.out,if_pos ih])
    clear bu;obtain⟨⟨X,N,V,D⟩,⟨⟨z0,z1,z2,z3⟩,bt⟩,HE,HR⟩:=S2.out.yS ar (v:=0) (code:=4) (a4.out) (by decide);go_wp2_with ((try simp only[xV,Exit.then]);with_reducible refine yC ?_ rfl HR.out;obtain⟨E0,E1,E2,E3⟩:=HE.out;simp[results,uO,go_sem,E0,E1,E2,E3])
   .obtain⟨nR,_,_⟩:=GZ (Xy:=k.Xy) (by omega)
    obtain⟨f,hf⟩:∃f:Nat,Ar k.Xy=(f:Int):=⟨(Ar k.Xy).toNat,by omega⟩
    have gZ:f<12:=by have:=A.out.len;omega
    have a4:=AA (show Ae k ⟨kk,(en:Int),a,b,c,nm⟩=({k with Xy:=k.Xy.set f ⟨1,nm,0⟩,mem:=k.mem.set f [0,0,0,0]},(f:Int),0) by rw[bu.out,if_neg ih,hf];rfl);have CT:=AA (λW hi=>RA (.slice ai ni ci) k.Xy nm f W hi oK.out oF.out hf gZ);obtain⟨X,N,V,D⟩:=S2.out.xs;obtain⟨y0,y1,R,y3,y4,y5⟩:=S2.out.ys6;rw[hf];clear bu hf ih nR;go_wp2_with fail;refine(CT.out _ S2.out.K.2.1).mono ?_;rintro r w3 ⟨v',rfl,hO,bY⟩;clear X N V D y0 y1 R y3 y4 y5;have S3:=AA (S2.out.zz bY hO);have jb:=AK (S2.out.below bY).yT.1;have ls:=(S2.out.below bY).xs.2.1;obtain⟨a9,c9,e9,_,_⟩:=hO.rd.shape;generalize wZ _=n9 at e9;subst e9;clear hO bY;generalize hW9:w3.setCell _ _=W9 at S3;obtain⟨X,N,V,D⟩:=S3.out.xs;have a5:=S3.out.lts.2.1;have nQ:(f:Int)<12:=by omega
    have jA:=(Ah.1 eJ.out).1;go_wp2_with fail;refine A5 4 49 [.p w.heap.size 0,.s gm 12 a6,.i ((f:Int)),.z] (λix vv ww=>match ix with
     |3=>AG W9.heap.size ww vv [0,0,0,0]
     |_=>True) ?_ ?_ ?_
    .intro i hi o Z a H Y J L h2 A
     match i,hi with
     |0,_|2,_=>exact sP Z A Y J
     |1,_=>exact sL Z A Y J (hl:=GQ (bc L a5 X))
     |3,_=>obtain rfl:=yQ Z;clear J Y;obtain⟨i0,gI,gR,eM,fE⟩:=info_parts Tryz.zT;obtain⟨w9,bB,h3,h4⟩:=run_make_full (P:=prog) H H.heap.size 29 3 i0 _ 1 underlying29 gI gR eM .i64 .i64 4 (by rw[fE];decide) (by decide) (yG _);have h5:=Below.zF h4;rw[VR (.int .i64 0) rfl 4] at h3;have iL:(Instr.makeSlice 29 (.int .i64 4) (.int .i64 4)).run prog H=.ok (.slice (some ⟨H.heap.size,0,none⟩) 4 4) w9:=bB;clear gI gR eM fE bB;refine yP ?_;go_simp;exact A.out _ _ (BZ h3 L.size) h5
    .intro i hi vv wz cT bp hz
     match i,hi with
     |3,_=>exact(AG.below hz bp)
     |0,_|1,_|2,_=>exact hz
    .intro E H hR L
     have q1:(E 1)=.slice (some ⟨gm,0,none⟩) 12 a6:=Bg hR 1;have q2:(E 2)=.int .i64 f:=Bg hR 2;have q3:AG W9.heap.size H (E 3) [0,0,0,0]:=Bg hR 3;clear hR;simp only[Aj,Ag,yN,yJ,yK,yI,q1,q2];simp;generalize E 3=z3 at q3 ⊢;clear q1 q2;have S4:=AA (S3.out.newRow jA.symm L q3 (by rw[jA];exact gZ));obtain⟨pN,l4,kC,fv,lw,e2,_,_,D2,_⟩:=(S3.out.below L).yT.zp eJ.out gZ;cases e2;have Fr:=AK (A9 ((S3.out.below L).yT.2.2.1.choose_spec.1) gm rfl).choose_spec;obtain⟨a9,c9,e9,_,_⟩:=q3.rd.open;rw[show([0,0,0,0]:List Int).length=4 from rfl] at e9;subst e9;generalize hW10:H.setCell _ _=W10 at S4;clear X N V D q3 L a5;obtain⟨⟨X,N,V,D⟩,⟨⟨z0,z1,z2,z3⟩,bt⟩,HE,HR⟩:=S4.out.fin ar (v:=(f:Int)) (code:=0) (a4.out);go_wp2_with ((try simp only[xV,Exit.then]);with_reducible refine yC ?_ rfl HR.out;obtain⟨E0,E1,E2,E3⟩:=HE.out;simp[results,uO,go_sem,E0,E1,E2,E3])
theorem Yj{m:List (List Int)}{xs:List AV}{f:Nat}{kind:Int}:(F7 m xs f kind ss).2=0∨(F7 m xs f kind ss).2=1∨(F7 m xs f kind ss).2=2:=by
 unfold F7
 repeat' split
 all_goals simp
theorem Vl{m:List (List Int)}{xs:List AV}{f:Nat}:(Cy m xs f).2=0∨(Cy m xs f).2=1∨(Cy m xs f).2=2:=by
 unfold Cy
 repeat' split
 all_goals simp
theorem Wd{lo:Nat}{k:AN}{w:World}(h:Dh lo w mv iv ev cv k)(ar:lo<=w.heap.size)(hk:DP k)(call:AU)(he:0<=call.e/\call.e<3)(K:call.k=4∨call.k=5):
 Calls prog 170 #[.agg #[mv,iv,ev,cv],.agg call.cs] w (LW lo w (Ae k call)):=by
 have bC:=SC.start h ar call;have P0:=X2 (k:=k) K;obtain⟨gi,av,e8,eu,_⟩:=bC.Xy (by rw[hk.len];omega);rw[hk.len] at e8;obtain⟨am,dw,cm,ai,ni,ci,ae,ep,ce,ac,nc,cc,em,ei,ee,ec⟩:=bC.Ex;subst e8;clear ei;have S0:=AA bC;obtain⟨kk,e,a,b,c,nm⟩:=call;simp only at he K;obtain⟨en,rfl⟩:∃n:Nat,e=(n:Int):=⟨e.toNat,by omega⟩
 have cN:en<3:=by omega
 simp only[AU.cs] at S0 P0 ⊢;obtain⟨rfl,rfl,rfl⟩:=yk em (yk ee ec);have HP:=AA P0;have A:=AA hk;have Hl:=AA hk.len;obtain⟨bad,cy⟩:∃b',decide (Bh a 0 11=false∨(Sc k.Xy a.toNat).k=0∨(kk=4/\Bi b=false))=b':=⟨_,rfl⟩
 have HB:=AA cy;obtain⟨X,N,V,D⟩:=S0.out.xs;obtain⟨y0,y1,R,y3,y4,y5⟩:=S0.out.ys6;clear h bC he hk P0 K cy;go_in;go_upto_region 1 with fail;go_cut [33] (λmX H=>mX=.bool bad/\SC lo w.heap.size ⟨kk,(en:Int),a,b,c,nm⟩ w H (.slice am dw cm) (.slice (some ⟨gi,0,none⟩) 12 av) (.slice ae ep ce) (.slice ac nc cc) k)
 case first=>
  go_wp2_with fail;refine(A3 (EN _ _)).mono ?_;rintro r w1 ⟨rfl,bO⟩;have S1:=AA (S0.out.below bO);clear X N V D y0 y1 R y3 y4 y5 bO;cases e1:Bh a 0 11
  .have E1:=AA e1
   clear e1;go_wp2_with fail;go_meet
   case rel=>exact⟨by rw[<-HB.out];simp[E1.out],S1.out⟩
  have ab:=AZ.1 e1;have E1:=AA e1;clear e1;obtain⟨z,rfl⟩:∃n:Nat,a=(n:Int):=⟨a.toNat,by omega⟩
  have ft:(z:Int)<12:=by omega
  obtain⟨X,N,V,D⟩:=S1.out.xs;obtain⟨y0,y1,R,y3,y4,y5⟩:=S1.out.ys6;obtain⟨D0,_,_⟩:=S1.out.Sc (f:=z) (by rw[Hl.out];omega);have HB:=AA (show decide (Bh (z:Int) 0 11=false∨(Sc k.Xy z).k=0∨(kk=4/\Bi b=false))=bad from HB.out);generalize(Sc k.Xy z).k=kd at*
  by_cases e0:kd=0
  .subst e0
   go_wp2_with fail;go_meet
   case rel=>exact⟨by rw[<-HB.out];simp,S1.out⟩
  have t0:(kd==0)=false:=by simp[e0]
  have E0:=AA e0;clear e0;cases tk:(kk==4)
  .have TK:=AA (show kk≠4 by simpa using tk)
   go_wp2_with fail;go_meet
   case rel=>exact⟨by rw[<-HB.out];simp[E1.out,E0.out,TK.out],S1.out⟩
  have TK:=AA (show kk=4 by simpa using tk);go_wp2_with fail;refine(A3 (Fx _ _)).mono ?_;rintro r w2 ⟨rfl,a0⟩;have S2:=AA (S1.out.below a0);clear X N V D y0 y1 R y3 y4 y5 D0 a0;go_wp2_with fail;go_meet
  case rel=>exact⟨by rw[<-HB.out];cases hw:Bi b<;>simp[E1.out,E0.out,TK.out],S2.out⟩
 case rest=>
 obtain⟨rfl,hS⟩:=hcut;have S2:=AA hS;obtain⟨w2,rfl⟩:∃w2,w2=wc:=⟨_,rfl⟩
 clear X N V D y0 y1 R y3 y4 y5 hS S0;cases bad
 rotate_left
 .have a4:=AA (HP.out.trans (if_pos (of_decide_eq_true HB.out)))
  clear HP HB;obtain⟨⟨X,N,V,D⟩,⟨⟨z0,z1,z2,z3⟩,bt⟩,HE,HR⟩:=S2.out.yS ar (v:=0) (code:=3) (a4.out) (by decide);go_wp2_with ((try simp only[xV,Exit.then]);with_reducible refine yC ?_ rfl HR.out;obtain⟨E0,E1,E2,E3⟩:=HE.out;simp[results,uN,go_sem,E0,E1,E2,E3])
 have gF:=of_decide_eq_false HB.out;have jz:=HP.out.trans (if_neg gF);have ab:=AZ.1 (show Bh a 0 11=true by cases e1:Bh a 0 11;(· exact absurd (.inl e1) gF);(· rfl));obtain⟨z,rfl⟩:∃n:Nat,a=(n:Int):=⟨a.toNat,by omega⟩
 have cg:z<12:=by omega
 have ft:(z:Int)<12:=by omega
 have gX:kk=4->Bi b=true:=λx=>by cases e:Bi b;(· exact absurd (.inr (.inr ⟨x,e⟩)) gF);(· rfl)
 have HG:=AA (By (Am A.out).2.1 _ (yx (Ca (show z<k.Xy.length by rw[Hl.out];exact cg))));have CP:=AA (λW (h:Le W (.slice am dw cm) (.slice (some ⟨gi,0,none⟩) 12 av) (.slice ae ep ce) (.slice ac nc cc) k)=>Rs _ _ _ _ k kk b c en z nm W h A.out cN cg gX);replace jz:Ae k ⟨kk,(en:Int),(z:Int),b,c,nm⟩=if CQ (AF k.V3 en).Tj (Sc k.Xy z).g=false then(k,0,1) else Do k (if kk=4 then F7 k.mem k.Xy z b (AF k.V3 en).Tj else Cy k.mem k.Xy z):=jz
 have bu:=AA jz;have HC:=AA (show(if kk=4 then F7 k.mem k.Xy z b (AF k.V3 en).Tj else Cy k.mem k.Xy z).2=0∨(if kk=4 then F7 k.mem k.Xy z b (AF k.V3 en).Tj else Cy k.mem k.Xy z).2=1∨(if kk=4 then F7 k.mem k.Xy z b (AF k.V3 en).Tj else Cy k.mem k.Xy z).2=2 by
  split
  .exact Yj
  .exact Vl)
 generalize(if kk=4 then F7 k.mem k.Xy z b (AF k.V3 en).Tj else Cy k.mem k.Xy z)=res at CP bu HC;clear HP HB gF ab gX jz;obtain⟨X,N,V,D⟩:=S2.out.xs;obtain⟨y0,y1,R,y3,y4,y5⟩:=S2.out.ys6;obtain⟨_,D1,_⟩:=S2.out.Sc (f:=z) (by rw[Hl.out];exact cg);obtain⟨bm,a5,_,_⟩:=S2.out.lts;have ki:=S2.out.zy;have CM:=AA (λW (h:GO W (.slice ae ep ce) k.V3)=>Jv (.slice am dw cm) (.slice (some ⟨gi,0,none⟩) 12 av) (.slice ae ep ce) (.slice ac nc cc) k en (Sc k.Xy z).g W h A.out cN HG.out);generalize(Sc k.Xy z).g=gd at D1 CM bu;generalize CQ (AF k.V3 en).Tj gd=mb at CM bu;go_wp2_with fail;refine Ac 10 64 [.a #[.slice am dw cm,.slice (some ⟨gi,0,none⟩) 12 av,.slice ae ep ce,.slice ac nc cc],.p (w.heap.size+1) 1,.i ((en:Int)),.p w.heap.size 1,.s gi 12 av,.p (w.heap.size+1) 2,.i ((z:Int)),.p gi (z*3),.p gi (z*3+1),.t gd] (λ_ _ _=>True) ?_ ?_
 .intro i hi o Z a H Y J L h2 A
  have bw:=bc L a5 X;have bs:=bc L a5 N;have bK:=bc L a5 V;have bN:=bc L a5 D;have cC:=bc L bm y1;have dx:=bc L bm R;have gQ:=bc L ki D1
  match i,hi with
  |0,_=>exact sL Z A Y J (hl:=PZ ‹_› ‹_› ‹_› ‹_›)
  |1,_|3,_|5,_|8,_=>exact sP Z A Y J
  |2,_|6,_=>exact sL Z A Y J (hl:=Fy ‹_›)
  |4,_=>exact sL Z A Y J (hl:=GV ‹_›)
  |7,_=>exact sI Z A Y J (hr:=by clear J Y A;go_simp)
  |9,_=>exact sL Z A Y J (hl:=YW ‹_›)
 .intro E H hR L
  have q0:(E 0)=.agg #[.slice am dw cm,.slice (some ⟨gi,0,none⟩) 12 av,.slice ae ep ce,.slice ac nc cc]:=Bg hR 0;have q2:(E 2)=.int .i64 en:=Bg hR 2;have q9:(E 9)=.string gd:=Bg hR 9;clear hR;simp only[Aj,Ag,yN,yJ,yK,yI,q0,q2,q9];simp;clear q0 q2 q9;have S3:=AA (S2.out.below L);clear X N V D y0 y1 R y3 y4 y5 D1 L;go_wp2_with fail;refine(CM.out _ S3.out.K.2.2.1).mono ?_;rintro r w4 ⟨rfl,eI⟩;have S4:=AA (S3.out.below eI);clear eI;cases mb
  .have a4:=AA (show Ae k ⟨kk,(en:Int),(z:Int),b,c,nm⟩=(k,0,1) by rw[bu.out];rfl)
   obtain⟨⟨X,N,V,D⟩,⟨⟨z0,z1,z2,z3⟩,bt⟩,HE,HR⟩:=S4.out.yS ar (v:=0) (code:=1) (a4.out) (by decide);go_wp2_with ((try simp only[xV,Exit.then]);with_reducible refine yC ?_ rfl HR.out;obtain⟨E0,E1,E2,E3⟩:=HE.out;simp[results,uN,go_sem,E0,E1,E2,E3])
  .obtain⟨X,N,V,D⟩:=S4.out.xs
   obtain⟨y0,y1,R,y3,y4,y5⟩:=S4.out.ys6;obtain⟨ri,rc⟩:=res;have a4:=AA (show Ae k ⟨kk,(en:Int),(z:Int),b,c,nm⟩=Do k (ri,rc) by rw[bu.out];rfl);go_wp2_with fail;refine(CP.out _ S4.out.K).mono ?_;rintro r w5 ⟨v',rfl,hO,dg⟩;simp only at hO ⊢;clear X N V D y0 y1 R y3 y4 y5 bu
   rcases HC.out with e|e|e<;>subst e
   .have S5:=AA (S4.out.zz dg hO)
    have jb:=AK (S4.out.below dg).yT.1;have ls:=(S4.out.below dg).xs.2.1;obtain⟨a9,c9,e9,_,_⟩:=hO.rd.shape;generalize wZ _=n9 at e9;subst e9;clear hO dg;generalize hW9:w5.setCell _ _=W9 at S5;obtain⟨⟨X,N,V,D⟩,⟨⟨z0,z1,z2,z3⟩,bt⟩,HE,HR⟩:=S5.out.fin ar (v:=0) (code:=0) (a4.out);go_wp2_with ((try simp only[xV,Exit.then]);with_reducible refine yC ?_ rfl HR.out;obtain⟨E0,E1,E2,E3⟩:=HE.out;simp[results,uN,go_sem,E0,E1,E2,E3])
   all_goals
    have S5:=AA (S4.out.below dg);obtain⟨a9,c9,e9,_,_⟩:=hO.rd.shape;generalize wZ _=n9 at e9;subst e9;clear hO dg;obtain⟨⟨X,N,V,D⟩,⟨⟨z0,z1,z2,z3⟩,bt⟩,HE,HR⟩:=S5.out.yS ar (v:=0) (code:=_) (a4.out) (by first|exact(by decide:Gv 1≠0)|exact(by decide:Gv 2≠0));go_wp2_with ((try simp only[xV,Exit.then]);with_reducible refine yC ?_ rfl HR.out;obtain⟨E0,E1,E2,E3⟩:=HE.out;simp[results,uN,Gv,go_sem,E0,E1,E2,E3])
theorem bZ{k:AN}(h:DP k){o:Int}:(Fm k.Xy o).length=12/\∀n<12,0 - 1<=(Sc (Fm k.Xy o) n).r/\(Sc (Fm k.Xy o) n).r<=47:=by
 unfold Fm
 split
 .refine⟨Cz.trans h.len,λn hn=>?_⟩
  have r1:=h.zb hn;rw[Fb]
  split
  .next hx=>
   rw[hx.1] at r1
   show 0 - 1<=(Sc k.Xy _).r+ -1/\(Sc k.Xy _).r+ -1<=47
   omega
  .omega
 .exact⟨h.len,λn hn=>by have r1:=h.zb hn;omega⟩
theorem VM{lo:Nat}{k:AN}{w:World}(h:Dh lo w mv iv ev cv k)(ar:lo<=w.heap.size)(hk:DP k)(call:AU)(he:0<=call.e/\call.e<3)(K:call.k=7):
 Calls prog 172 #[.agg #[mv,iv,ev,cv],.agg call.cs] w (LW lo w (Ae k call)):=by
 have bC:=SC.start h ar call;have P0:=(WC (k:=k) K).trans Vf;obtain⟨ge,bk,e9,_,_⟩:=bC.V3 (by rw[hk.zY];omega);rw[hk.zY] at e9;obtain⟨gi,av,e8,_,_⟩:=bC.Xy (by rw[hk.len];omega);rw[hk.len] at e8;obtain⟨am,dw,cm,ai,ni,ci,ae,ep,ce,ac,nc,cc,em,ei,ee,ec⟩:=bC.Ex;subst e8 e9 em ec;clear ei ee;have S0:=AA bC;obtain⟨kk,e,ra,b,c,nm⟩:=call;simp only at he K;subst K;obtain⟨en,rfl⟩:∃n:Nat,e=(n:Int):=⟨e.toNat,by omega⟩
 have cN:en<3:=by omega
 have g0:(en:Int)<3:=by omega
 simp only[AU.cs,yq] at S0 P0 ⊢;obtain⟨rt,eX⟩:∃r,(AF k.V3 en).root=r:=⟨_,rfl⟩
 rw[eX] at P0;have md:=AA eX;have HP:=AA P0;have A:=AA hk;obtain⟨bad,cy⟩:∃b,decide (ra≠ -1/\(Bh ra 0 11=false∨(Sc k.Xy ra.toNat).k≠3))=b:=⟨_,rfl⟩
 have HB:=AA cy;obtain⟨X,N,V,D⟩:=S0.out.xs;obtain⟨y0,y1,R,y3,y4,y5⟩:=S0.out.ys6;clear h bC he hk eX cy P0;go_in;go_upto_region 1 with fail;go_cut [26] (λmY H=>mY=.bool bad/\SC lo w.heap.size ⟨7,(en:Int),ra,b,c,nm⟩ w H (.slice am dw cm) (.slice (some ⟨gi,0,none⟩) 12 av) (.slice (some ⟨ge,0,none⟩) 3 bk) (.slice ac nc cc) k)
 case first=>
  by_cases e1:ra= -1
  .have t1:(ra != -1)=false:=by simp[e1]
   have E1:=AA e1;clear e1;go_wp2_with fail;go_meet
   case rel=>exact⟨by rw[<-HB.out];simp[E1.out],S0.out⟩
  .have t1:(ra != -1)=true:=by simp[e1]
   have E1:=AA e1;clear e1;go_wp2_with fail;refine(A3 (EN _ _)).mono ?_;rintro r w1 ⟨rfl,bO⟩;have S1:=AA (S0.out.below bO);clear X N V D y0 y1 R y3 y4 y5;cases e2:Bh ra 0 11
   .go_wp2_with fail
    go_meet
    case rel=>exact⟨by rw[<-HB.out];simp[E1.out,e2],S1.out⟩
   .have ab:=AZ.1 e2
    have E2:=AA e2;clear e2;obtain⟨z,rfl⟩:∃n:Nat,ra=(n:Int):=⟨ra.toNat,by omega⟩
    have ft:(z:Int)<12:=by omega
    obtain⟨X,N,V,D⟩:=S1.out.xs;obtain⟨y0,y1,R,y3,y4,y5⟩:=S1.out.ys6;obtain⟨d0,_,_⟩:=S1.out.Sc (f:=z) (by rw[A.out.len];omega);go_wp2_with fail;go_meet
    case rel=>exact⟨by rw[<-HB.out];by_cases h3:(Sc k.Xy z).k=3<;>simp[E1.out,E2.out,h3],S1.out⟩
 case rest=>
 obtain⟨rfl,hS⟩:=hcut;have S2:=AA hS;obtain⟨w2,rfl⟩:∃w2,w2=wc:=⟨_,rfl⟩
 clear X N V D y0 y1 R y3 y4 y5 hS S0;cases bad
 .have bu:=AA (HP.out.trans (if_neg (of_decide_eq_false HB.out)))
  have Ha:=AA (show(ra= -1∨0<=ra)/\ra<12 by
   have:=of_decide_eq_false HB.out
   by_cases e1:ra= -1
   .omega
   .cases e2:Bh ra 0 11
    .exact absurd ⟨e1,.inl e2⟩ this
    .have:=AZ.1 e2
     omega)
  clear HP HB;obtain⟨X,N,V,D⟩:=S2.out.xs;obtain⟨y0,y1,R,y3,y4,y5⟩:=S2.out.ys6;obtain⟨bm,a5,_,_⟩:=S2.out.lts;have fp:=S2.out.zh;obtain⟨ua,uc,D0,D1,y2⟩:=S2.out.env (j:=en) (by rw[A.out.zY];exact cN);have RM:=S2.out.K.1;have RI:=S2.out.K.2.1;have CX:=AA (λW (hW:Below w2.heap.size w2 W)=>JZ _ k.mem ra W (RM.below hW) (Am A.out).1 Ha.out.2);have CA:=AA (λW (hW:Below w2.heap.size w2 W) v2 (K:Ax W v2 (A4 (Ev k.mem ra)))=>by have:=Gb _ v2 _ k.Xy (Ev k.mem ra) (AF k.V3 en).Tj W (BG.below RI hW) K (BG.below y2 hW) (λf hf=>by have:=zH Ha.out.2 f ((Gd Ha.out.2 f).1 hf);have:=A.out.len;omega) (By (Am A.out).2.1) (If A.out cN);rw[FO (Gd Ha.out.2)] at this;exact this);generalize BI k.Xy (Ba k.mem ra) (AF k.V3 en).Tj=bb at CA bu;clear RM RI y2;go_wp2_with fail;refine A5 14 98 [.p w.heap.size 1,.s gi 12 av,.p w.heap.size 0,.v (.slice am dw cm),.p (w.heap.size+1) 2,.i ra,.z,.p w.heap.size 2,.s ge 3 bk,.p (w.heap.size+1) 1,.i ((en:Int)),.p ge (en*2),.p ge (en*2),.v (.slice ua (AF k.V3 en).Tj.length uc)] (λix vv ww=>match ix with
   |6=>AG w2.heap.size ww vv (A4 (Ev k.mem (ra)))
   |_=>True) ?_ ?_ ?_
  .intro i hi o Z a H Y J L h2 A
   have bK:=bc L bm R;have cC:=bc L bm y1
   match i,hi with
   |0,_|2,_|4,_|7,_|9,_|12,_=>exact sP Z A Y J
   |1,_=>exact sL Z A Y J (hl:=GV (bc L a5 N))
   |3,_=>exact sL Z A Y J (hl:=GQ (bc L a5 X))
   |5,_|10,_=>exact sL Z A Y J (hl:=Fy ‹_›)
   |6,_=>exact sC Z A Y J (CX.out _ L) (by rintro e w_ ⟨v',rfl,hO,a0⟩;exact⟨_,rfl,(BZ hO L.size),a0⟩)
   |8,_=>exact sL Z A Y J (hl:=OZ (bc L a5 V))
   |11,_=>exact sI Z A Y J (hr:=by clear J Y A;go_simp)
   |13,_=>exact sL Z A Y J (hl:=KN (bc L fp D0))
  .intro i hi vv wz cT bp hz
   match i,hi with
   |6,_=>exact(AG.below hz bp)
   |0,_|1,_|2,_|3,_|4,_|5,_|7,_|8,_|9,_|10,_|11,_|12,_|13,_=>exact hz
  .intro E H hR L
   have q1:(E 1)=.slice (some ⟨gi,0,none⟩) 12 av:=Bg hR 1;have q6:AG w2.heap.size H (E 6) (A4 (Ev k.mem (ra))):=Bg hR 6;have dq:(E 13)=.slice ua (AF k.V3 en).Tj.length uc:=Bg hR 13;clear hR;simp only[Aj,Ag,yN,yJ,yK,yI,q1,dq];simp;generalize E 6=z6 at q6 ⊢;clear q1 dq;have S3:=AA (S2.out.below L);obtain⟨a8,c8,e8,_⟩:=q6.rd.open;have HQ:=AA q6.rd;generalize wZ _=n8 at e8;subst e8;have eS:=AA L;clear X N V D y0 y1 R y3 y4 y5 D0 D1 L q6;go_wp2_with fail;refine(CA.out _ eS.out _ HQ.out).mono ?_;rintro r w4 ⟨rfl,eI⟩;have S4:=AA (S3.out.below eI);clear eI eS HQ CA;cases bb
   .have a4:=AA (bu.out.trans (if_pos rfl))
    obtain⟨⟨X,N,V,D⟩,⟨⟨z0,z1,z2,z3⟩,bt⟩,HE,HR⟩:=S4.out.yS ar (v:=0) (code:=1) (a4.out) (by decide);go_wp2_with ((try simp only[xV,Exit.then]);with_reducible refine yC ?_ rfl HR.out;obtain⟨E0,E1,E2,E3⟩:=HE.out;simp[results,tV,go_sem,E0,E1,E2,E3])
   have a4:=AA (bu.out.trans (if_neg (by decide)));clear bu;obtain⟨X,N,V,D⟩:=S4.out.xs;obtain⟨y0,y1,R,y3,y4,y5⟩:=S4.out.ys6;obtain⟨_,_,_,D1,_⟩:=S4.out.env (j:=en) (by rw[A.out.zY];exact cN);rw[md.out] at D1;go_upto_if 53 with fail;clear X N V D y0 y1 R y3 y4 y5 D1;go_cut [] (λH=>SC lo w.heap.size ⟨7,(en:Int),ra,b,c,nm⟩ w H (.slice am dw cm) (.slice (some ⟨gi,0,none⟩) 12 av) (.slice (some ⟨ge,0,none⟩) 3 bk) (.slice ac nc cc) {k with Xy:=Fm k.Xy rt})
   case first=>
    by_cases Z:rt<0
    .have t5:¬(0:Int)<=rt:=by omega
     go_wp2_with fail;go_meet
     case rel=>exact(by unfold Fm;rw[if_neg (by omega)];exact S4.out)
    .obtain⟨rn,rfl⟩:∃n:Nat,rt=(n:Int):=⟨rt.toNat,by omega⟩
     have cp:rn<12:=by have:=zL A.out cN;rw[md.out] at this;omega
     have t5:(0:Int)<=(rn:Int):=by omega
     clear Z;obtain⟨X,N,V,D⟩:=S4.out.xs;obtain⟨y0,y1,R,y3,y4,y5⟩:=S4.out.ys6;obtain⟨bm,a5,_,_⟩:=S4.out.lts;have eu:=S4.out.zy;obtain⟨_,_,d2⟩:=S4.out.Sc (f:=rn) (by show rn<(k.Xy).length;have:=A.out.len;omega)
     try simp only at d2
     have eB:=A.out.zb cp;generalize hrv:(Sc (k.Xy) rn).r=rv at d2 eB;obtain⟨nr,hnr⟩:∃nr,rv - 1=nr:=⟨_,rfl⟩
     have fB:=AA hnr;clear hnr;have g8:(rn:Int)<12:=by omega
     go_wp2_with fail;refine Ac 10 98 [.p w.heap.size 1,.s gi 12 av,.i ((rn:Int)),.p w.heap.size 1,.s gi 12 av,.i ((rn:Int)),.p gi (rn*3),.p gi (rn*3+2),.i rv,.i nr] (λ_ _ _=>True) ?_ ?_
     .intro i hi o Z a H Y J L h2 A
      have bw:=bc L a5 N;have bs:=bc L eu d2
      match i,hi with
      |0,_|2,_|3,_|5,_|7,_=>exact sP Z A Y J
      |1,_|4,_=>exact sL Z A Y J (hl:=GV ‹_›)
      |6,_=>exact sI Z A Y J (hr:=by clear J Y A;go_simp)
      |8,_=>exact sL Z A Y J (hl:=Fy ‹_›)
      |9,_=>clear bw bs;obtain rfl:=yQ Z;have d8:(a.tmps[62]?.getD undef)=.int .i64 rv:=BY J 8;clear J Y;refine yP ?_;go_simp;exact A.out _ _ (by show ym .i64 (xj.wrap (rv - 1))=.int .i64 nr;rw[xM _ (by omega),fB.out]) (yO _ _)
     .intro E H hR L
      have q1:(E 1)=.slice (some ⟨gi,0,none⟩) 12 av:=Bg hR 1;have q2:(E 2)=.int .i64 rn:=Bg hR 2;have q9:(E 9)=.int .i64 nr:=Bg hR 9;clear hR;simp only[Aj,Ag,yN,yJ,yK,yI,q1,q2,q9];simp;clear q1 q2 q9;have SB:=AA (S4.out.below L);obtain⟨_,_,fu⟩:=SB.out.Sc (f:=rn) (by show rn<(k.Xy).length;have:=A.out.len;omega);have Fr:=SB.out.fzi (rn*3+2);have S5:=SB.out.info (by show 12=(k.Xy).length;have:=A.out.len;omega) (f:=rn) (by show rn<(k.Xy).length;have:=A.out.len;omega) (-1)
      try simp only at S5 fu
      rw[hrv] at S5 fu;rw[show rv+ -1=nr by have:=fB.out;omega] at S5;replace S5:=AA S5;generalize hW5:H.setCell _ _=W5 at S5;clear X N V D y0 y1 R y3 y4 y5 d2 L SB;go_wp2_with fail;go_meet
      case rel=>exact(by unfold Fm;rw[if_pos (by omega),yq];exact S5.out)
   case rest=>
   have hX:=bZ (o:=rt) A.out;generalize Fm k.Xy rt=x0 at*;obtain⟨pK,lU⟩:=hX;have S5:=AA hcut;obtain⟨W5,rfl⟩:∃W5,W5=wc:=⟨_,rfl⟩
   clear hcut S4;obtain⟨y0,y1,R,y3,y4,y5⟩:=S5.out.ys6;go_upto_if 68 with fail;clear y0 y1 R y3 y4 y5;go_cut [] (λH=>SC lo w.heap.size ⟨7,(en:Int),ra,b,c,nm⟩ w H (.slice am dw cm) (.slice (some ⟨gi,0,none⟩) 12 av) (.slice (some ⟨ge,0,none⟩) 3 bk) (.slice ac nc cc) {k with Xy:=Jz x0 ra})
   case first=>
    by_cases Z:ra<0
    .have t7:¬(0:Int)<=ra:=by omega
     go_wp2_with fail;go_meet
     case rel=>exact(by unfold Jz;rw[if_neg (by omega)];exact S5.out)
    .obtain⟨z,rfl⟩:∃n:Nat,ra=(n:Int):=⟨ra.toNat,by omega⟩
     have cg:z<12:=by have:=Ha.out.2;omega
     have t7:(0:Int)<=(z:Int):=by omega
     clear Z;obtain⟨X,N,V,D⟩:=S5.out.xs;obtain⟨y0,y1,R,y3,y4,y5⟩:=S5.out.ys6;obtain⟨bm,a5,_,_⟩:=S5.out.lts;have eu:=S5.out.zy;obtain⟨_,_,d2⟩:=S5.out.Sc (f:=z) (by show z<(x0).length;have:=A.out.len;omega)
     try simp only at d2
     have eB:=lU z cg;generalize hrv:(Sc (x0) z).r=rv at d2 eB;obtain⟨nr,hnr⟩:∃nr,rv+1=nr:=⟨_,rfl⟩
     have fB:=AA hnr;clear hnr;have g8:(z:Int)<12:=by omega
     go_wp2_with fail;refine Ac 12 98 [.p w.heap.size 1,.s gi 12 av,.p (w.heap.size+1) 2,.i ((z:Int)),.p w.heap.size 1,.s gi 12 av,.p (w.heap.size+1) 2,.i ((z:Int)),.p gi (z*3),.p gi (z*3+2),.i rv,.i nr] (λ_ _ _=>True) ?_ ?_
     .intro i hi o Z a H Y J L h2 A
      have bw:=bc L a5 N;have bs:=bc L bm R;have bK:=bc L eu d2
      match i,hi with
      |0,_|2,_|4,_|6,_|9,_=>exact sP Z A Y J
      |1,_|5,_=>exact sL Z A Y J (hl:=GV ‹_›)
      |3,_|7,_|10,_=>exact sL Z A Y J (hl:=Fy ‹_›)
      |8,_=>exact sI Z A Y J (hr:=by clear J Y A;go_simp)
      |11,_=>clear bw bs bK;obtain rfl:=yQ Z;have es:(a.tmps[79]?.getD undef)=.int .i64 rv:=BY J 10;clear J Y;refine yP ?_;go_simp;exact A.out _ _ (by show ym .i64 (xj.wrap (rv+1))=.int .i64 nr;rw[xM _ (by omega),fB.out]) (yO _ _)
     .intro E H hR L
      have q1:(E 1)=.slice (some ⟨gi,0,none⟩) 12 av:=Bg hR 1;have q3:(E 3)=.int .i64 z:=Bg hR 3;have eV:(E 11)=.int .i64 nr:=Bg hR 11;clear hR;simp only[Aj,Ag,yN,yJ,yK,yI,q1,q3,eV];simp;clear q1 q3 eV;have SB:=AA (S5.out.below L);obtain⟨_,_,fu⟩:=SB.out.Sc (f:=z) (by show z<(x0).length;have:=A.out.len;omega);have Fr:=SB.out.fzi (z*3+2);have S6:=SB.out.info (by show 12=(x0).length;have:=A.out.len;omega) (f:=z) (by show z<(x0).length;have:=A.out.len;omega) (1)
      try simp only at S6 fu
      rw[hrv] at S6 fu;rw[show rv+1=nr by have:=fB.out;omega] at S6;replace S6:=AA S6;generalize hW6:H.setCell _ _=W6 at S6;clear X N V D y0 y1 R y3 y4 y5 d2 L SB;go_wp2_with fail;go_meet
      case rel=>exact(by unfold Jz;rw[if_pos (by omega),yq];exact S6.out)
   case rest=>
   have S6:=AA hcut;obtain⟨W6,rfl⟩:∃W6,W6=wc:=⟨_,rfl⟩
   clear hcut S5 lU;obtain⟨X,N,V,D⟩:=S6.out.xs;obtain⟨y0,y1,R,y3,y4,y5⟩:=S6.out.ys6;obtain⟨_,_,D0,D1,_⟩:=S6.out.env (j:=en) (by show en<k.V3.length;rw[A.out.zY];exact cN);have Fe:=S6.out.fze (en*2+1);have T1:=AA (S6.out.root A.out.zY.symm (by show en<k.V3.length;rw[A.out.zY];exact cN) ra);generalize hW7:W6.setCell _ _=W7 at T1;have CD:=AA (λW (h:DY W (.slice ac nc cc) k.V0)=>QX (.slice ac nc cc) k.V0 (en:Int) W h (by have:=QT A.out;omega));have jp:=T1.out.xs.2.2.2;obtain⟨_,yo,_⟩:=T1.out.ys6;go_wp2_with fail;refine(CD.out _ T1.out.K.2.2.2).mono ?_;rintro r w8 ⟨v',rfl,hO,jE⟩;have T2:=AA (T1.out.V0 jE hO);have jb:=AK (T1.out.below jE).yT.1;have mE:=(T1.out.below jE).xs.2.2.2;clear X N V D y0 y1 R y3 y4 y5 jp yo D0 D1 Fe hW7;obtain⟨a9,c9,e9,_,_⟩:=hO.rd.shape;generalize wZ _=n9 at e9;subst e9;clear hO jE;generalize hW10:w8.setCell _ _=W10 at T2;obtain⟨⟨X,N,V,D⟩,⟨⟨z0,z1,z2,z3⟩,bt⟩,HE,HR⟩:=T2.out.fin ar (v:=0) (code:=0) (a4.out);go_wp2_with ((try simp only[xV,Exit.then]);with_reducible refine yC ?_ rfl HR.out;obtain⟨E0,E1,E2,E3⟩:=HE.out;simp[results,tV,go_sem,E0,E1,E2,E3])
 .have a4:=AA (HP.out.trans (if_pos (of_decide_eq_true HB.out)))
  clear HP HB;obtain⟨⟨X,N,V,D⟩,⟨⟨z0,z1,z2,z3⟩,bt⟩,HE,HR⟩:=S2.out.yS ar (v:=0) (code:=3) (a4.out) (by decide);go_wp2_with ((try simp only[xV,Exit.then]);with_reducible refine yC ?_ rfl HR.out;obtain⟨E0,E1,E2,E3⟩:=HE.out;simp[results,tV,go_sem,E0,E1,E2,E3])
theorem aX{s:ByteArray}(h1:BS ss=true)(K:BO s=true):Hz ss s=if(decide (OW ss s<ss.length)&&decide (Cp ss (OW ss s)=s))=true then(ss,true) else if ss.length=6 then(ss,false) else(Cg ss (OW ss s) s,true):=by
 unfold Hz;rw[h1,K,<-aa h1]
 show BR ss s=_
 unfold BR;rw[ZI];rfl
theorem Ot{k:Nat}{s:ByteArray}:Cg ss k s=(ss.take k++[s])++ss.drop k:=by simp[Cg]
theorem No{w:World}{g T:Nat}{x:Value}(h:w.heap[g]?=some (.cells #[x] T (0,0))):Rd w (.slice (some ⟨g,0,none⟩) 1 1) 1 1 [x]:=by
 have h0:=yz _ _ 0 _ _ _ h;refine⟨_,_,rfl,yG _,by simp[maxLen],rfl,nofun,λ_=>⟨g,0,rfl,λj hj=>?_⟩⟩;rw[wK]
 match j,hj with
 |0,_=>exact h0
 |_+1,hj=>exact absurd hj (by omega)
theorem Vi{w:World}{a:Option Addr}{c:Nat}(h:BT w (.slice a ss.length c) ss)(a':Option Addr)(ha:a'=none->a=none):BT w (.slice a' 0 (c - ss.length)) (ss.drop ss.length):=by
 obtain⟨ao,c',hv,j5,fd,hl,eY,hc⟩:=h;simp only[xS] at hv;obtain⟨rfl,_,rfl⟩:=hv;rw[List.drop_length];exact⟨_,_,rfl,yu _,by omega,rfl,λh=>by have:=eY (ha h);omega,λh=>absurd h (Nat.lt_irrefl 0)⟩
theorem Lz(v:Value)(ss:List ByteArray)(s:ByteArray)(w:World)(h:BT w v ss)(hs:DH ss)(hz:s.size<=maxLen):Calls prog 141 #[v,.string s] w (aS w (Hz ss s)):=by
 have C1:=AA (Nn (Gi v ss w h hs));have C2:=AA (λW=>A3 (EY s W hz));obtain⟨pa,c,rfl,hc,fd,wx⟩:=BG.open FJ (by decide) h;have HR:=AA (λW (hW:Below w.heap.size w W)=>BG.below h hW);have HH:=AA wx;unfold maxLen at fd;clear h hs hz wx;generalize hrv:BS ss=rv at C1;generalize hsv:BO s=sv at C2;have HV:=AA (yk hrv hsv);clear hrv hsv;cases rv
 .have P:=AA (show Hz ss s=([],false) by unfold Hz;rw[HV.out.1];rfl)
  go_in;go_wp2_with (refine C1.out.mono ?_;rintro r w1 ⟨rfl,b1⟩);go_ret2;exact⟨_,by rw[P.out];rfl,by rw[P.out];exact AO.lower (Cd Ay _ _ _) b1.size,b1.alloc b1.size _⟩
 .cases sv
  .have P:=AA (show Hz ss s=([],false) by unfold Hz;rw[HV.out.1,HV.out.2];rfl)
   go_in;go_wp2_with fail;refine C1.out.mono ?_;rintro r w1 ⟨rfl,b1⟩;go_wp2_with (refine(C2.out _).mono ?_;rintro r w2 ⟨rfl,b2⟩;have b3:=b1.trans (b2.mono b1.size);clear b1 b2);go_ret2;exact⟨_,by rw[P.out];rfl,by rw[P.out];exact AO.lower (Cd Ay _ _ _) b3.size,b3.alloc b3.size _⟩
  .have pD:=(Eh.1 HV.out.1).2.2
   have HP:=AA (aX (ss:=ss) (s:=s) HV.out.1 HV.out.2);go_in;go_wp2_with fail;refine C1.out.mono ?_;rintro r w1 ⟨rfl,b1⟩;go_wp2_with fail;refine(C2.out _).mono ?_;rintro r w2 ⟨rfl,b2⟩;have b3:=b1.trans (b2.mono b1.size);clear b1 b2 C1 C2;go_wp2_with fail;go_loopw [6] (λix wr=>∃k:Nat,k<=ss.length/\ix=.int .i64 k/\(∀j,j<k->M9 (Cp ss j) s=true)/\Below w.heap.size w wr) (λix _=>ss.length - (intOf ix).toNat)
   exact⟨0,yu _,rfl,λj hj=>absurd hj (xW _),b3⟩
   obtain⟨k,hk,rfl,ay,O⟩:=hrel;have bl:=AA ay;have HB:=AA O;clear ay b3
   by_cases a7:k<ss.length
   .have cl:(k:Int)<(ss.length:Int):=by omega
    obtain⟨b,bA,rfl,x3⟩:=(HH.out.below O).str a7;cases ht:Op.bytesLess (Cp ss k).toList s.toList
    .have gv:=AA (show OW ss s=k from Ts hk bl.out (λ_=>ht))
     have Ht:=AA ht;clear O
     by_cases he:Cp ss k=s
     .have te:((Cp ss k).toList==s.toList)=true:=by rw[he];simp
      have P:=AA (show Hz ss s=(ss,true) by rw[HP.out,gv.out,if_pos (by simp[a7,he])]);clear he HP;go_wp2_with (at_builtin;go_must (refine Fo (cs:=Ay) rfl rfl 9 (.string ⟨#[]⟩) 1 16 underlying64 Tryz.zU rfl (by decide) rfl (Cd Ay _ _ _) rfl (HR.out _ (HB.out.trans ((AJ _ _).mono HB.out.size))) (IA _) (by omega) (by decide) (by simp) ?_;intro v' w9 hO dn));have HO:=AA hO;obtain⟨a9,c9,e9,_,_⟩:=hO.rd.shape;generalize wZ _=n9 at e9;subst e9;have cP:=AA ((HB.out.trans ((AJ _ _).mono HB.out.size)).trans (dn.mono HB.out.size));clear hO dn;go_wp2_with fail;go_ret2;exact⟨_,by rw[P.out];rfl,by rw[P.out];exact HO.out.lower HB.out.size,cP.out⟩
     .have te:((Cp ss k).toList==s.toList)=false:=by
       rw[beq_eq_false_iff_ne];exact λe=>he (ByteArray.ext (Array.toList_inj.mp (by rw[<-Lib.toList_data,<-Lib.toList_data];exact e)))
      have bu:=AA (show Hz ss s=if ss.length=6 then(ss,false) else(Cg ss k s,true) by rw[HP.out,gv.out,if_neg (by simp[he])]);clear he HP
      by_cases h6:ss.length=6
      .have P:=AA (show Hz ss s=(ss,false) by rw[bu.out,if_pos h6])
       have kA:(6:Int)<=(ss.length:Int):=by omega
       clear h6;go_wp2_with (at_builtin;go_must (refine Fo (cs:=Ay) rfl rfl 9 (.string ⟨#[]⟩) 1 16 underlying64 Tryz.zU rfl (by decide) rfl (Cd Ay _ _ _) rfl (HR.out _ (HB.out.trans ((AJ _ _).mono HB.out.size))) (IA _) (by omega) (by decide) (by simp) ?_;intro v' w9 hO dn));have HO:=AA hO;obtain⟨a9,c9,e9,_,_⟩:=hO.rd.shape;generalize wZ _=n9 at e9;subst e9;have cP:=AA ((HB.out.trans ((AJ _ _).mono HB.out.size)).trans (dn.mono HB.out.size));clear hO dn;go_wp2_with fail;go_ret2;exact⟨_,by rw[P.out];rfl,by rw[P.out];exact HO.out.lower HB.out.size,cP.out⟩
      .have P:=AA (show Hz ss s=(Cg ss k s,true) by rw[bu.out,if_neg h6])
       have kA:¬(6:Int)<=(ss.length:Int):=by omega
       have nE:k<=c:=by omega
       clear h6;go_wp2_with fail;refine Dn 14 63 (λix=>ix==7||ix==11) [.z,.v (.slice (some ⟨b,bA,none⟩) ss.length c),.i ((k:Int)),.z,.z,.t s,.z,.z,.v (.slice (some ⟨b,bA,none⟩) ss.length c),.i ((k:Int)),.z,.z,.z,.b true] (λll ix vv ww=>match ix with
        |0=>(ll 4=false->LT wr.heap.size 9 ww vv)
        |3=>(∀W',Below wr.heap.size wr W'->BT W' vv (ss.take k))
        |4=>(ll 7=false->AO wr.heap.size 9 1 Ay ww vv (ss.take k))
        |6=>(ll 7=false->∃g,vv=.slice (some ⟨g,0,none⟩) 1 1/\ww.heap[g]?=some (.cells #[.string s] 9 (0,0)))
        |7=>(ll 11=false->AO wr.heap.size 9 1 Ay ww vv (ss.take k++[s]))
        |10=>(∀W',Below wr.heap.size wr W'->BT W' vv (ss.drop k))
        |11|12=>AO wr.heap.size 9 1 Ay ww vv (Cg ss k s)
        |_=>True) (λll ww=>Below wr.heap.size wr ww) ?_ ?_ ?_ ?_ ?_ ?_
       .exact A0 (yO _ _) 1
       .intro j hj ll i vv wz cT hi hS gL kz bp hz
        match j,hj with
        |0,_=>exact(λhL=>LT.below (hz (Dg hL)) bp)
        |3,_|10,_=>exact hz
        |4,_|7,_=>exact(λhL=>AO.below (hz (Dg hL)) bp)
        |6,_=>exact(λhL=>by obtain⟨g,h0,h1⟩:=hz (Dg hL);exact⟨g,h0,AB h1 bp⟩)
        |11,_|12,_=>exact(AO.below hz bp)
        |1,_|2,_|5,_|8,_|9,_|13,_=>exact hz
       .intro ll i wz cT hi hS gL bp hg
        exact hg.trans (bp.mono hg.size)
       .intro i hi hS o Z a H Y ll J HL L h2 A
        match i,hi,hS with
        |1,_,_|2,_,_|5,_,_|8,_,_|9,_,_|13,_,_=>exact WP Z A Y J HL
        |7,_,hs|11,_,hs=>cases hs
        |0,_,_=>obtain rfl:=yQ Z;clear J Y;refine yP ?_;go_simp;exact A.out _ _ (λ_=>⟨_,rfl,L.size,yw _ _⟩) (AJ _ _)
        |3,_,_=>obtain rfl:=yQ Z;have d1:(a.tmps[52]?.getD undef)=.slice (some ⟨b,bA,none⟩) ss.length c:=Dc J HL 1;have d2:(a.tmps[53]?.getD undef)=.int .i64 k:=Dc J HL 2;clear J Y;refine yP ?_;go_simp;exact A.out _ _ (λW' hW=>TU (HR.out W' (HB.out.trans (hW.mono HB.out.size))) rfl (by omega)) (yO _ _)
        |4,_,_=>obtain rfl:=yQ Z;have d0:(ll 4=false->LT wr.heap.size 9 H (a.tmps[51]?.getD undef)):=Dc J HL 0;have d3:(∀W',Below wr.heap.size wr W'->BT W' (a.tmps[54]?.getD undef) (ss.take k)):=Dc J HL 3;have u7:=Bb HL 7;clear J Y;refine yP ?_;obtain⟨g_,gp,gl,gj⟩:=d0 HL.out.1;obtain⟨v7,w4,bB,r1,r2,_⟩:=Dm (lo:=wr.heap.size) (w:=H) (t:=64) (ty:=64) 9 _ 1 16 underlying64 Tryz.zU rfl (by decide) gj gl (d3 _ L) (IA _) (by rw[yt];omega);refine Cq rfl (Bp gp) (Bp rfl) bB ?_;exact A.out _ _ (λ_=>r1) r2
        |6,_,_=>obtain rfl:=yQ Z;have d5:(a.tmps[56]?.getD undef)=.string s:=Dc J HL 5;have u7:=Bb HL 7;clear J Y;refine yP ?_;go_simp;exact A.out _ _ (λ_=>⟨_,rfl,yw _ _⟩) (AJ _ _)
        |10,_,_=>obtain rfl:=yQ Z;have d8:(a.tmps[59]?.getD undef)=.slice (some ⟨b,bA,none⟩) ss.length c:=Dc J HL 8;have d9:(a.tmps[60]?.getD undef)=.int .i64 k:=Dc J HL 9;have fC:=Bb HL 11;clear J Y;refine yP ?_;go_simp;rw[show(if c=k then some (⟨b,bA,none⟩:Addr) else some ⟨b,bA+k,none⟩)=some ⟨b,if c=k then bA else bA+k,none⟩ by split<;>rfl];exact A.out _ _ (λW' hW=>Yz (HR.out W' (HB.out.trans (hW.mono HB.out.size))) rfl (by omega) b _ (λh=>⟨rfl,if_neg (by omega)⟩)) (yO _ _)
        |12,_,_=>obtain rfl:=yQ Z;have fN:AO wr.heap.size 9 1 Ay H (a.tmps[62]?.getD undef) (Cg ss k s):=Dc J HL 11;have u7:ll 7=true:=HL.out.2.1 7 (by kernel_rfl);have fC:ll 11=true:=HL.out.2.1 11 (by kernel_rfl);clear J Y;refine yP ?_;go_simp;exact A.out _ _ fN (yO _ _)
       .intro i hi hS o Z a H Y ll J HL L h2 A
        match i,hi,hS with
        |0,_,hs|1,_,hs|2,_,hs|3,_,hs|4,_,hs|5,_,hs|6,_,hs|8,_,hs|9,_,hs|10,_,hs|12,_,hs|13,_,hs=>cases hs
        |7,_,_=>
         obtain rfl:=yQ Z;have d4:(ll 7=false->AO wr.heap.size 9 1 Ay H (a.tmps[55]?.getD undef) (ss.take k)):=Dc J HL 4;have d6:(ll 7=false->∃g,(a.tmps[57]?.getD undef)=.slice (some ⟨g,0,none⟩) 1 1/\H.heap[g]?=some (.cells #[.string s] 9 (0,0))):=Dc J HL 6;have fC:=Bb HL 11;clear J Y;refine yP ?_;have D4:=d4 HL.out.1;obtain⟨g6,e6,B6⟩:=d6 HL.out.1;obtain⟨v7,w4,bB,r1,_,r3⟩:=KE (lo:=wr.heap.size) (w:=H) (t:=64) 64 9 _ 1 16 underlying64 Tryz.zU rfl (by decide) D4 (No B6) (by simp[xR]) (by rw[yt];unfold maxLen;omega) (by rw[yt];omega) L.size;refine Cq rfl (Bp rfl) (Bp e6) bB ?_;have gO:AO wr.heap.size 9 1 Ay w4 v7 (ss.take k++[s]):=by unfold AO;rw[Bj,Ee,yA];exact r1
         exact A.out _ _ (λ_=>gO) (L.trans r3) (λj dt eE dd hu=>match j,eE with
          |1,_|2,_|3,_|5,_|8,_|9,_|10,_|13,_=>hu
          |0,_=>(λh=>absurd ((Dg h).symm.trans (HL.out.2.1 4 (by kernel_rfl))) (by decide))
          |4,_|6,_=>(λh=>absurd h (by rw[GR];decide))
          |7,_=>absurd rfl dt
          |11,_=>absurd (fC.symm.trans dd) (by decide)
          |12,_=>absurd (fC.symm.trans (HL.out.2.2 12 11 dd (by kernel_rfl))) (by decide))
        |11,_,_=>
         obtain rfl:=yQ Z;have d7:(ll 11=false->AO wr.heap.size 9 1 Ay H (a.tmps[58]?.getD undef) (ss.take k++[s])):=Dc J HL 7;have es:(∀W',Below wr.heap.size wr W'->BT W' (a.tmps[61]?.getD undef) (ss.drop k)):=Dc J HL 10;have u7:ll 7=true:=HL.out.2.1 7 (by kernel_rfl);clear J Y;refine yP ?_;have D7:=d7 HL.out.1;obtain⟨v7,w4,bB,r1,_,r3⟩:=KE (lo:=wr.heap.size) (w:=H) (t:=64) 64 9 _ 1 16 underlying64 Tryz.zU rfl (by decide) D7 (es _ L) (IA _) (by simp only[yA,yt,xm];unfold maxLen;simp;omega) (by simp only[yA,yt,xm];simp;omega) L.size;refine Cq rfl (Bp rfl) (Bp rfl) bB ?_;have gO:AO wr.heap.size 9 1 Ay w4 v7 (Cg ss k s):=by unfold AO;rw[Ot,Bj,yA];exact r1
         exact A.out _ _ gO (L.trans r3) (λj dt eE dd hu=>match j,eE with
          |1,_|2,_|3,_|5,_|8,_|9,_|10,_|13,_=>hu
          |0,_=>(λh=>absurd ((Dg h).symm.trans (HL.out.2.2 7 4 u7 (by kernel_rfl))) (by decide))
          |4,_|6,_=>(λh=>absurd ((Dg h).symm.trans (u7)) (by decide))
          |7,_=>(λh=>absurd h (by rw[GR];decide))
          |11,_=>absurd rfl dt
          |12,_=>absurd (HL.out.1.symm.trans (HL.out.2.2 12 11 dd (by kernel_rfl))) (by decide))
       .intro E H ll cr hR L
        have dk:AO wr.heap.size 9 1 Ay H (E 12) (Cg ss k s):=Bg hR 12;have dq:(E 13)=.bool true:=Bg hR 13;clear hR;simp only[DQ,Bk,yN,yJ,yK,yI,dq];simp;generalize E 12=z12 at dk ⊢;clear dq;have HO:=AA dk;have cP:=AA (HB.out.trans (L.mono HB.out.size));go_wp2_with fail;go_ret2;exact⟨_,by rw[P.out];rfl,by rw[P.out];exact HO.out.lower HB.out.size,cP.out⟩
    .have Ht:=AA (show M9 (Cp ss k) s=true from ht)
     go_wp2_with fail;go_roundw;exact⟨k+1,by omega,by go_num,Al bl.out Ht.out,O⟩;simp[intOf];omega
   .obtain rfl:k=ss.length:=by omega
    have gv:=AA (show OW ss s=ss.length from Ts hk bl.out (λh=>absurd h (by omega)));have bu:=AA (show Hz ss s=if ss.length=6 then(ss,false) else(Cg ss ss.length s,true) by rw[HP.out,gv.out,if_neg (by simp)]);clear HP
    by_cases h6:ss.length=6
    .have P:=AA (show Hz ss s=(ss,false) by rw[bu.out,if_pos h6])
     have kA:(6:Int)<=(ss.length:Int):=by omega
     clear h6;go_wp2_with (at_builtin;go_must (refine Fo (cs:=Ay) rfl rfl 9 (.string ⟨#[]⟩) 1 16 underlying64 Tryz.zU rfl (by decide) rfl (Cd Ay _ _ _) rfl (HR.out _ (HB.out.trans ((AJ _ _).mono HB.out.size))) (IA _) (by omega) (by decide) (by simp) ?_;intro v' w9 hO dn));have HO:=AA hO;obtain⟨a9,c9,e9,_,_⟩:=hO.rd.shape;generalize wZ _=n9 at e9;subst e9;have cP:=AA ((HB.out.trans ((AJ _ _).mono HB.out.size)).trans (dn.mono HB.out.size));clear hO dn;go_wp2_with fail;go_ret2;exact⟨_,by rw[P.out];rfl,by rw[P.out];exact HO.out.lower HB.out.size,cP.out⟩
    .have P:=AA (show Hz ss s=(Cg ss ss.length s,true) by rw[bu.out,if_neg h6])
     have kA:¬(6:Int)<=(ss.length:Int):=by omega
     have nE:ss.length<=c:=by omega
     clear h6;go_wp2_with fail;refine Dn 14 63 (λix=>ix==7||ix==11) [.z,.v (.slice pa ss.length c),.i ((ss.length:Int)),.z,.z,.t s,.z,.z,.v (.slice pa ss.length c),.i ((ss.length:Int)),.z,.z,.z,.b true] (λll ix vv ww=>match ix with
      |0=>(ll 4=false->LT wr.heap.size 9 ww vv)
      |3=>(∀W',Below wr.heap.size wr W'->BT W' vv (ss.take ss.length))
      |4=>(ll 7=false->AO wr.heap.size 9 1 Ay ww vv (ss.take ss.length))
      |6=>(ll 7=false->∃g,vv=.slice (some ⟨g,0,none⟩) 1 1/\ww.heap[g]?=some (.cells #[.string s] 9 (0,0)))
      |7=>(ll 11=false->AO wr.heap.size 9 1 Ay ww vv (ss.take ss.length++[s]))
      |10=>(∀W',Below wr.heap.size wr W'->BT W' vv (ss.drop ss.length))
      |11|12=>AO wr.heap.size 9 1 Ay ww vv (Cg ss ss.length s)
      |_=>True) (λll ww=>Below wr.heap.size wr ww) ?_ ?_ ?_ ?_ ?_ ?_
     .exact A0 (yO _ _) 1
     .intro j hj ll i vv wz cT hi hS gL kz bp hz
      match j,hj with
      |0,_=>exact(λhL=>LT.below (hz (Dg hL)) bp)
      |3,_|10,_=>exact hz
      |4,_|7,_=>exact(λhL=>AO.below (hz (Dg hL)) bp)
      |6,_=>exact(λhL=>by obtain⟨g,h0,h1⟩:=hz (Dg hL);exact⟨g,h0,AB h1 bp⟩)
      |11,_|12,_=>exact(AO.below hz bp)
      |1,_|2,_|5,_|8,_|9,_|13,_=>exact hz
     .intro ll i wz cT hi hS gL bp hg
      exact hg.trans (bp.mono hg.size)
     .intro i hi hS o Z a H Y ll J HL L h2 A
      match i,hi,hS with
      |1,_,_|2,_,_|5,_,_|8,_,_|9,_,_|13,_,_=>exact WP Z A Y J HL
      |7,_,hs|11,_,hs=>cases hs
      |0,_,_=>obtain rfl:=yQ Z;clear J Y;refine yP ?_;go_simp;exact A.out _ _ (λ_=>⟨_,rfl,L.size,yw _ _⟩) (AJ _ _)
      |3,_,_=>obtain rfl:=yQ Z;have d1:(a.tmps[52]?.getD undef)=.slice pa ss.length c:=Dc J HL 1;have d2:(a.tmps[53]?.getD undef)=.int .i64 ((ss.length:Int)):=Dc J HL 2;clear J Y;refine yP ?_;go_simp;exact A.out _ _ (λW' hW=>TU (HR.out W' (HB.out.trans (hW.mono HB.out.size))) rfl (by omega)) (yO _ _)
      |4,_,_=>obtain rfl:=yQ Z;have d0:(ll 4=false->LT wr.heap.size 9 H (a.tmps[51]?.getD undef)):=Dc J HL 0;have d3:(∀W',Below wr.heap.size wr W'->BT W' (a.tmps[54]?.getD undef) (ss.take ss.length)):=Dc J HL 3;have u7:=Bb HL 7;clear J Y;refine yP ?_;obtain⟨g_,gp,gl,gj⟩:=d0 HL.out.1;obtain⟨v7,w4,bB,r1,r2,_⟩:=Dm (lo:=wr.heap.size) (w:=H) (t:=64) (ty:=64) 9 _ 1 16 underlying64 Tryz.zU rfl (by decide) gj gl (d3 _ L) (IA _) (by rw[yt];omega);refine Cq rfl (Bp gp) (Bp rfl) bB ?_;exact A.out _ _ (λ_=>r1) r2
      |6,_,_=>obtain rfl:=yQ Z;have d5:(a.tmps[56]?.getD undef)=.string s:=Dc J HL 5;have u7:=Bb HL 7;clear J Y;refine yP ?_;go_simp;exact A.out _ _ (λ_=>⟨_,rfl,yw _ _⟩) (AJ _ _)
      |10,_,_=>
       obtain rfl:=yQ Z;have d8:(a.tmps[59]?.getD undef)=.slice pa ss.length c:=Dc J HL 8;have d9:(a.tmps[60]?.getD undef)=.int .i64 ((ss.length:Int)):=Dc J HL 9;have fC:=Bb HL 11;clear J Y;refine yP ?_;go_simp
       rcases pa with _|ad
       .go_simp
        exact A.out _ _ (λW' hW=>Vi (HR.out W' (HB.out.trans (hW.mono HB.out.size))) none (λ_=>rfl)) (yO _ _)
       .go_simp
        exact A.out _ _ (λW' hW=>Vi (HR.out W' (HB.out.trans (hW.mono HB.out.size))) _ (λh=>by split at h<;>cases h)) (yO _ _)
      |12,_,_=>obtain rfl:=yQ Z;have fN:AO wr.heap.size 9 1 Ay H (a.tmps[62]?.getD undef) (Cg ss ss.length s):=Dc J HL 11;have u7:ll 7=true:=HL.out.2.1 7 (by kernel_rfl);have fC:ll 11=true:=HL.out.2.1 11 (by kernel_rfl);clear J Y;refine yP ?_;go_simp;exact A.out _ _ fN (yO _ _)
     .intro i hi hS o Z a H Y ll J HL L h2 A
      match i,hi,hS with
      |0,_,hs|1,_,hs|2,_,hs|3,_,hs|4,_,hs|5,_,hs|6,_,hs|8,_,hs|9,_,hs|10,_,hs|12,_,hs|13,_,hs=>cases hs
      |7,_,_=>
       obtain rfl:=yQ Z;have d4:(ll 7=false->AO wr.heap.size 9 1 Ay H (a.tmps[55]?.getD undef) (ss.take ss.length)):=Dc J HL 4;have d6:(ll 7=false->∃g,(a.tmps[57]?.getD undef)=.slice (some ⟨g,0,none⟩) 1 1/\H.heap[g]?=some (.cells #[.string s] 9 (0,0))):=Dc J HL 6;have fC:=Bb HL 11;clear J Y;refine yP ?_;have D4:=d4 HL.out.1;obtain⟨g6,e6,B6⟩:=d6 HL.out.1;obtain⟨v7,w4,bB,r1,_,r3⟩:=KE (lo:=wr.heap.size) (w:=H) (t:=64) 64 9 _ 1 16 underlying64 Tryz.zU rfl (by decide) D4 (No B6) (by simp[xR]) (by rw[yt];unfold maxLen;omega) (by rw[yt];omega) L.size;refine Cq rfl (Bp rfl) (Bp e6) bB ?_;have gO:AO wr.heap.size 9 1 Ay w4 v7 (ss.take ss.length++[s]):=by unfold AO;rw[Bj,Ee,yA];exact r1
       exact A.out _ _ (λ_=>gO) (L.trans r3) (λj dt eE dd hu=>match j,eE with
        |1,_|2,_|3,_|5,_|8,_|9,_|10,_|13,_=>hu
        |0,_=>(λh=>absurd ((Dg h).symm.trans (HL.out.2.1 4 (by kernel_rfl))) (by decide))
        |4,_|6,_=>(λh=>absurd h (by rw[GR];decide))
        |7,_=>absurd rfl dt
        |11,_=>absurd (fC.symm.trans dd) (by decide)
        |12,_=>absurd (fC.symm.trans (HL.out.2.2 12 11 dd (by kernel_rfl))) (by decide))
      |11,_,_=>
       obtain rfl:=yQ Z;have d7:(ll 11=false->AO wr.heap.size 9 1 Ay H (a.tmps[58]?.getD undef) (ss.take ss.length++[s])):=Dc J HL 7;have es:(∀W',Below wr.heap.size wr W'->BT W' (a.tmps[61]?.getD undef) (ss.drop ss.length)):=Dc J HL 10;have u7:ll 7=true:=HL.out.2.1 7 (by kernel_rfl);clear J Y;refine yP ?_;have D7:=d7 HL.out.1;obtain⟨v7,w4,bB,r1,_,r3⟩:=KE (lo:=wr.heap.size) (w:=H) (t:=64) 64 9 _ 1 16 underlying64 Tryz.zU rfl (by decide) D7 (es _ L) (IA _) (by simp only[yA,yt,xm];unfold maxLen;simp;omega) (by simp only[yA,yt,xm];simp;omega) L.size;refine Cq rfl (Bp rfl) (Bp rfl) bB ?_;have gO:AO wr.heap.size 9 1 Ay w4 v7 (Cg ss ss.length s):=by unfold AO;rw[Ot,Bj,yA];exact r1
       exact A.out _ _ gO (L.trans r3) (λj dt eE dd hu=>match j,eE with
        |1,_|2,_|3,_|5,_|8,_|9,_|10,_|13,_=>hu
        |0,_=>(λh=>absurd ((Dg h).symm.trans (HL.out.2.2 7 4 u7 (by kernel_rfl))) (by decide))
        |4,_|6,_=>(λh=>absurd ((Dg h).symm.trans (u7)) (by decide))
        |7,_=>(λh=>absurd h (by rw[GR];decide))
        |11,_=>absurd rfl dt
        |12,_=>absurd (HL.out.1.symm.trans (HL.out.2.2 12 11 dd (by kernel_rfl))) (by decide))
     .intro E H ll cr hR L
      have dk:AO wr.heap.size 9 1 Ay H (E 12) (Cg ss ss.length s):=Bg hR 12;have dq:(E 13)=.bool true:=Bg hR 13;clear hR;simp only[DQ,Bk,yN,yJ,yK,yI,dq];simp;generalize E 12=z12 at dk ⊢;clear dq;have HO:=AA dk;have cP:=AA (HB.out.trans (L.mono HB.out.size));go_wp2_with fail;go_ret2;exact⟨_,by rw[P.out];rfl,by rw[P.out];exact HO.out.lower HB.out.size,cP.out⟩
theorem Eb.Tj{T:Nat}{cs:Array Value}{y2:List Nat}{lo g b0:Nat}{w W W':World}{m i c:Value}{k:AN}{ge n dz:Nat}(h:Eb T cs y2 lo g b0 w W m i (.slice (some ⟨ge,0,none⟩) n dz) c k)(hn:n=k.V3.length)(O:Below W.heap.size W W'){j:Nat}(hj:j<k.V3.length){u:Value}{ss:List ByteArray}(hu:AO W.heap.size 9 1 Ay W' u ss):
 Eb T cs y2 lo g b0 w (W'.setCell ⟨ge,j*2,none⟩ u) m i (.slice (some ⟨ge,0,none⟩) n dz) c {k with V3:=An k.V3 j (BQ ss)}:=by
 have S:=h.yT.Tj hn h.lo O hj hu;have h':=h.below O;obtain⟨ps,o⟩:=h'.yT.2.2.2.2.1;obtain⟨c2,K⟩:=A9 o.1 ge rfl;exact⟨S.1,Ap h'.yV S.2.1 (Bt K h'.yV h.ty.2.2.1),AM h'.bel S.2.1 S.2.2 h'.lo,yL h'.lo S.2.1.size,h.ty,h'.kf.row S.2.1 K (by decide),λb hr=>⟨(h.rs b hr).1,Ap (h'.rs b hr).2 S.2.1 (Bt K (h'.rs b hr).2 (by decide))⟩⟩
theorem Rt{lo:Nat}{k:AN}{w:World}(h:Dh lo w mv iv ev cv k)(ar:lo<=w.heap.size)(hk:DP k)(call:AU)(he:0<=call.e/\call.e<3)(K:call.k=8∨call.k=9)(ez:call.nm.size<=maxLen):
 Calls prog 173 #[.agg #[mv,iv,ev,cv],.agg call.cs] w (LW lo w (Ae k call)):=by
 have bC:=SC.start h ar call;obtain⟨ge,bk,e9,_,_⟩:=bC.V3 (by rw[hk.zY];omega);rw[hk.zY] at e9;obtain⟨gi,av,e8,_,_⟩:=bC.Xy (by rw[hk.len];omega);rw[hk.len] at e8;obtain⟨am,dw,cm,ai,ni,ci,ae,ep,ce,ac,nc,cc,em,ei,ee,ec⟩:=bC.Ex;subst e8 e9 em ec;clear ei ee;have S0:=AA bC;obtain⟨kk,e,ra,b,c,nm⟩:=call;simp only at he K ez;obtain⟨en,rfl⟩:∃n:Nat,e=(n:Int):=⟨e.toNat,by omega⟩
 have cN:en<3:=by omega
 have g0:(en:Int)<3:=by omega
 simp only[AU.cs] at S0 ⊢;have A:=AA hk;have CR:=AA (λW=>A3 (EY nm W ez));have HN:=AA ez;have CM:=AA (λW (h:GO W (.slice (some ⟨ge,0,none⟩) 3 bk) k.V3)=>Jv (.slice am dw cm) (.slice (some ⟨gi,0,none⟩) 12 av) (.slice (some ⟨ge,0,none⟩) 3 bk) (.slice ac nc cc) k en nm W h hk cN ez);obtain⟨X,N,V,D⟩:=S0.out.xs;obtain⟨y0,y1,R,y3,y4,y5⟩:=S0.out.ys6;have HP:Hid (Ae k ⟨kk,(en:Int),ra,b,c,nm⟩=if Bh ra 0 2=false∨BO nm=false∨(kk=9/\ra=(en:Int)) then(k,0,3)
  else if CQ (AF k.V3 en).Tj nm=false then(k,0,1)
  else if kk=8 then(if(BR (AF k.V3 ra.toNat).Tj nm).2=false then(k,0,4) else({k with V3:=An k.V3 ra.toNat (BQ (BR (AF k.V3 ra.toNat).Tj nm).1)},0,0))
  else(if BI k.Xy (Ba k.mem (AF k.V3 ra.toNat).root) (Bc (AF k.V3 ra.toNat).Tj nm)=false then(k,0,2) else({k with V3:=An k.V3 ra.toNat (BQ (Bc (AF k.V3 ra.toNat).Tj nm))},0,0))):=by
  refine Lib.hid ?_
  rcases K with rfl|rfl
  .rw[Us rfl]
   unfold Fa FF;simp
  .rw[Tp rfl]
   unfold EC FF;simp only[yq]
   by_cases a1:Bh ra 0 2=false<;>by_cases a2:BO nm=false<;>by_cases a3:ra=(en:Int)<;>simp[a1,a2,a3]
 have H2:=AA K;clear h bC he hk K ez;generalize hW0:((w.alloc _).alloc _).alloc _=W0 at*;cases e1:Bh ra 0 2
 .have a4:=AA (show Ae k ⟨kk,(en:Int),ra,b,c,nm⟩=(k,0,3) by rw[HP.out,if_pos (.inl e1)])
  have E1:=AA e1;clear e1 HP;go_in;go_wp2_with fail;refine(A3 (Jh _ _)).mono ?_;rintro r w1 ⟨rfl,bO⟩;rw[E1.out];have S1:=AA (S0.out.below bO);clear X N V D y0 y1 R y3 y4 y5 bO hW0;obtain⟨⟨X,N,V,D⟩,⟨⟨z0,z1,z2,z3⟩,bt⟩,HE,HR⟩:=S1.out.yS ar (v:=0) (code:=3) (a4.out) (by decide);go_wp2_with ((try simp only[xV,Exit.then]);with_reducible refine yC ?_ rfl HR.out;obtain⟨E0,E1,E2,E3⟩:=HE.out;simp[results,wu,go_sem,E0,E1,E2,E3])
 .have E1:=AA e1
  have ab:=AZ.1 e1;obtain⟨z,rfl⟩:∃n:Nat,ra=(n:Int):=⟨ra.toNat,by omega⟩
  have cg:z<3:=by omega
  have ft:(z:Int)<3:=by omega
  generalize hrv:BO nm=rv at CR;have HV:=AA hrv;clear e1 ab hrv;cases rv
  .have a4:=AA (show Ae k ⟨kk,(en:Int),(z:Int),b,c,nm⟩=(k,0,3) by rw[HP.out,if_pos (.inr (.inl HV.out))])
   clear HP;go_in;go_wp2_with fail;refine(A3 (Jh _ _)).mono ?_;rintro r w1 ⟨rfl,bO⟩;rw[E1.out];have S1:=AA (S0.out.below bO);clear X N V D y0 y1 R y3 y4 y5 bO hW0;obtain⟨y0,y1,R,y3,y4,y5⟩:=S1.out.ys6;go_wp2_with fail;refine(CR.out _).mono ?_;rintro r w2 ⟨rfl,a0⟩;have S2:=AA (S1.out.below a0);clear y0 y1 R y3 y4 y5 a0;obtain⟨⟨X,N,V,D⟩,⟨⟨z0,z1,z2,z3⟩,bt⟩,HE,HR⟩:=S2.out.yS ar (v:=0) (code:=3) (a4.out) (by decide);go_wp2_with ((try simp only[xV,Exit.then]);with_reducible refine yC ?_ rfl HR.out;obtain⟨E0,E1,E2,E3⟩:=HE.out;simp[results,wu,go_sem,E0,E1,E2,E3])
  .rcases H2.out with rfl|rfl
   .have bu:=AA (show Ae k ⟨8,(en:Int),(z:Int),b,c,nm⟩=if CQ (AF k.V3 en).Tj nm=false then(k,0,1) else if(BR (AF k.V3 z).Tj nm).2=false then(k,0,4) else({k with V3:=An k.V3 z (BQ (BR (AF k.V3 z).Tj nm).1)},0,0) by rw[HP.out,if_neg (by rintro(x|x|⟨x,_⟩);(· rw[E1.out] at x;cases x);(· rw[HV.out] at x;cases x);cases x)];rfl)
    clear HP;go_in;go_wp2_with fail;refine(A3 (Jh _ _)).mono ?_;rintro r w1 ⟨rfl,bO⟩;rw[E1.out];have S1:=AA (S0.out.below bO);clear X N V D y0 y1 R y3 y4 y5 bO hW0;obtain⟨y0,y1,R,y3,y4,y5⟩:=S1.out.ys6;go_wp2_with fail;refine(CR.out _).mono ?_;rintro r w2 ⟨rfl,a0⟩;have S2:=AA (S1.out.below a0);clear y0 y1 R y3 y4 y5 a0;obtain⟨y0,y1,R,y3,y4,y5⟩:=S2.out.ys6;obtain⟨X,N,V,D⟩:=S2.out.xs;generalize hmb:CQ (AF k.V3 en).Tj nm=mb at CM bu;clear hmb;go_wp2_with fail;refine(CM.out _ S2.out.K.2.2.1).mono ?_;rintro r w4 ⟨rfl,eI⟩;have S4:=AA (S2.out.below eI);clear X N V D y0 y1 R y3 y4 y5 eI CM;cases mb
    .have a4:=AA (show Ae k ⟨8,(en:Int),(z:Int),b,c,nm⟩=(k,0,1) by rw[bu.out];rfl)
     obtain⟨⟨X,N,V,D⟩,⟨⟨z0,z1,z2,z3⟩,bt⟩,HE,HR⟩:=S4.out.yS ar (v:=0) (code:=1) (a4.out) (by decide);go_wp2_with ((try simp only[xV,Exit.then]);with_reducible refine yC ?_ rfl HR.out;obtain⟨E0,E1,E2,E3⟩:=HE.out;simp[results,wu,go_sem,E0,E1,E2,E3])
    .skip
     obtain⟨X,N,V,D⟩:=S4.out.xs;obtain⟨y0,y1,R,y3,y4,y5⟩:=S4.out.ys6;obtain⟨bm,a5,_,_⟩:=S4.out.lts;have fp:=S4.out.zh;obtain⟨ua,uc,D0,D1,y2⟩:=S4.out.env (j:=z) (by rw[A.out.zY];exact cg);have CP:=AA (λW (hW:Below w4.heap.size w4 W)=>by have:=Lz _ (AF k.V3 z).Tj nm W (BG.below y2 hW) (If A.out cg) HN.out;rw[show Hz (AF k.V3 z).Tj nm=BR (AF k.V3 z).Tj nm by unfold Hz;rw[show BS (AF k.V3 z).Tj=true from A.out.Tj z cg,HV.out];rfl] at this;exact this);have a4:=AA (show Ae k ⟨8,(en:Int),(z:Int),b,c,nm⟩=if(BR (AF k.V3 z).Tj nm).2=false then(k,0,4) else({k with V3:=An k.V3 z (BQ (BR (AF k.V3 z).Tj nm).1)},0,0) by rw[bu.out];rfl);generalize BR (AF k.V3 z).Tj nm=res at CP a4;clear y2 bu;go_wp2_with fail;refine A5 14 102 [.p w.heap.size 2,.s ge 3 bk,.p (w.heap.size+1) 2,.i ((z:Int)),.p ge (z*2),.p ge (z*2),.v (.slice ua (AF k.V3 z).Tj.length uc),.p (w.heap.size+1) 5,.t nm,.z,.z,.z,.b (res.2),.z] (λix vv ww=>match ix with
      |9|10=>∃v',vv=.tuple #[v',.bool res.2]/\AO w4.heap.size 9 1 Ay ww v' res.1
      |11|13=>AO w4.heap.size 9 1 Ay ww vv res.1
      |_=>True) ?_ ?_ ?_
     .intro i hi o Z a H Y J L h2 A
      match i,hi with
      |0,_|2,_|5,_|7,_=>exact sP Z A Y J
      |1,_=>exact sL Z A Y J (hl:=OZ (bc L a5 V))
      |3,_=>exact sL Z A Y J (hl:=Fy (bc L bm R))
      |4,_=>exact sI Z A Y J (hr:=by clear J Y A;go_simp)
      |6,_=>exact sL Z A Y J (hl:=KN (bc L fp D0))
      |8,_=>exact sL Z A Y J (hl:=YW (bc L bm y5))
      |9,_=>exact sC Z A Y J (CP.out _ L) (by rintro e w_ ⟨v',rfl,hO,a0⟩;exact⟨_,rfl,⟨_,rfl,hO.lower L.size⟩,a0⟩)
      |10,_=>
       obtain rfl:=yQ Z;have d9:∃v',(a.tmps[54]?.getD undef)=.tuple #[v',.bool res.2]/\AO w4.heap.size 9 1 Ay H v' res.1:=BY J 9
       clear J Y;refine yP ?_;go_simp;exact A.out _ _ d9 (yO _ _)
      |11,_=>
       obtain rfl:=yQ Z;have es:∃v',(a.tmps[44]?.getD undef)=.tuple #[v',.bool res.2]/\AO w4.heap.size 9 1 Ay H v' res.1:=BY J 10
       clear J Y;obtain⟨v',es,hO⟩:=es;refine yP ?_;go_simp;exact A.out _ _ hO (yO _ _)
      |12,_=>
       obtain rfl:=yQ Z;have es:∃v',(a.tmps[44]?.getD undef)=.tuple #[v',.bool res.2]/\AO w4.heap.size 9 1 Ay H v' res.1:=BY J 10
       clear J Y;obtain⟨v',es,hO⟩:=es;refine yP ?_;go_simp;exact A.out _ _ rfl (yO _ _)
      |13,_=>obtain rfl:=yQ Z;have fN:AO w4.heap.size 9 1 Ay H (a.tmps[55]?.getD undef) res.1:=BY J 11;clear J Y;refine yP ?_;go_simp;exact A.out _ _ fN (yO _ _)
     .intro i hi vv wz cT bp hz
      match i,hi with
      |9,_|10,_=>exact(by obtain⟨v',h0,h1⟩:=hz;exact⟨v',h0,AO.below h1 bp⟩)
      |11,_|13,_=>exact(AO.below hz bp)
      |0,_|1,_|2,_|3,_|4,_|5,_|6,_|7,_|8,_|12,_=>exact hz
     .intro E H hR L
      have dk:(E 12)=.bool (res.2):=Bg hR 12;have dq:AO w4.heap.size 9 1 Ay H (E 13) res.1:=Bg hR 13;clear hR;simp only[Aj,Ag,yN,yJ,yK,yI,dk];simp;generalize E 13=z13 at dq ⊢;clear dk;have S5:=AA (S4.out.below L);have HO:=AA dq;have eS:=AA L;obtain⟨a9,c9,e9,_,_⟩:=dq.rd.shape;generalize wZ _=n9 at e9;subst e9;clear X N V D y0 y1 R y3 y4 y5 D0 D1 dq L;obtain⟨rs,rb⟩:=res;cases rb
      focus
       have du:=AA (show Ae k ⟨8,(en:Int),(z:Int),b,c,nm⟩=(k,0,4) by rw[a4.out];rfl)
       obtain⟨⟨X,N,V,D⟩,⟨⟨z0,z1,z2,z3⟩,bt⟩,HE,HR⟩:=S5.out.yS ar (v:=0) (code:=4) (du.out) (by decide)
      rotate_left
      focus
       have du:=AA (show Ae k ⟨8,(en:Int),(z:Int),b,c,nm⟩=({k with V3:=An k.V3 z (BQ rs)},0,0) by rw[a4.out];rfl)
       have T:=AA (S4.out.Tj A.out.zY.symm eS.out (j:=z) (by rw[A.out.zY];exact cg) HO.out);obtain⟨_,_,oq,_,_⟩:=S5.out.env (j:=z) (by rw[A.out.zY];exact cg);have Fe:=S5.out.fze (z*2);have mF:=S5.out.xs.2.2.1;obtain⟨_,_,yo,_⟩:=S5.out.ys6;generalize hW9:H.setCell _ _=W9 at T;obtain⟨⟨X,N,V,D⟩,⟨⟨z0,z1,z2,z3⟩,bt⟩,HE,HR⟩:=T.out.fin ar (v:=0) (code:=0) (du.out)
      rotate_left
      all_goals
       go_wp2_with ((try simp only[xV,Exit.then]);with_reducible refine yC ?_ rfl HR.out;obtain⟨E0,E1,E2,E3⟩:=HE.out;simp[results,wu,go_sem,E0,E1,E2,E3])
   .by_cases ee:z=en
    .have a4:=AA (show Ae k ⟨9,(en:Int),(z:Int),b,c,nm⟩=(k,0,3) by rw[HP.out,if_pos (.inr (.inr ⟨rfl,by rw[ee]⟩))])
     have te:((z:Int)==(en:Int))=true:=by rw[ee];simp
     clear HP ee;go_in;go_wp2_with fail;refine(A3 (Jh _ _)).mono ?_;rintro r w1 ⟨rfl,bO⟩;rw[E1.out];have S1:=AA (S0.out.below bO);clear X N V D y0 y1 R y3 y4 y5 bO hW0;obtain⟨y0,y1,R,y3,y4,y5⟩:=S1.out.ys6;go_wp2_with fail;refine(CR.out _).mono ?_;rintro r w2 ⟨rfl,a0⟩;have S2:=AA (S1.out.below a0);clear y0 y1 R y3 y4 y5 a0;obtain⟨y0,y1,R,y3,y4,y5⟩:=S2.out.ys6;obtain⟨⟨X,N,V,D⟩,⟨⟨z0,z1,z2,z3⟩,bt⟩,HE,HR⟩:=S2.out.yS ar (v:=0) (code:=3) (a4.out) (by decide);go_wp2_with ((try simp only[xV,Exit.then]);with_reducible refine yC ?_ rfl HR.out;obtain⟨E0,E1,E2,E3⟩:=HE.out;simp[results,wu,go_sem,E0,E1,E2,E3])
    .have bu:=AA (show Ae k ⟨9,(en:Int),(z:Int),b,c,nm⟩=if CQ (AF k.V3 en).Tj nm=false then(k,0,1) else if BI k.Xy (Ba k.mem (AF k.V3 z).root) (Bc (AF k.V3 z).Tj nm)=false then(k,0,2) else({k with V3:=An k.V3 z (BQ (Bc (AF k.V3 z).Tj nm))},0,0) by rw[HP.out,if_neg (by rintro(x|x|⟨_,x⟩);(· rw[E1.out] at x;cases x);(· rw[HV.out] at x;cases x);exact ee (by omega))];rfl)
     have te:((z:Int)==(en:Int))=false:=by simp;omega
     clear HP ee;go_in;go_wp2_with fail;refine(A3 (Jh _ _)).mono ?_;rintro r w1 ⟨rfl,bO⟩;rw[E1.out];have S1:=AA (S0.out.below bO);clear X N V D y0 y1 R y3 y4 y5 bO hW0;obtain⟨y0,y1,R,y3,y4,y5⟩:=S1.out.ys6;go_wp2_with fail;refine(CR.out _).mono ?_;rintro r w2 ⟨rfl,a0⟩;have S2:=AA (S1.out.below a0);clear y0 y1 R y3 y4 y5 a0;obtain⟨y0,y1,R,y3,y4,y5⟩:=S2.out.ys6;obtain⟨X,N,V,D⟩:=S2.out.xs;generalize hmb:CQ (AF k.V3 en).Tj nm=mb at CM bu;clear hmb;go_wp2_with fail;refine(CM.out _ S2.out.K.2.2.1).mono ?_;rintro r w4 ⟨rfl,eI⟩;have S4:=AA (S2.out.below eI);clear X N V D y0 y1 R y3 y4 y5 eI CM;cases mb
     .have a4:=AA (show Ae k ⟨9,(en:Int),(z:Int),b,c,nm⟩=(k,0,1) by rw[bu.out];rfl)
      obtain⟨⟨X,N,V,D⟩,⟨⟨z0,z1,z2,z3⟩,bt⟩,HE,HR⟩:=S4.out.yS ar (v:=0) (code:=1) (a4.out) (by decide);go_wp2_with ((try simp only[xV,Exit.then]);with_reducible refine yC ?_ rfl HR.out;obtain⟨E0,E1,E2,E3⟩:=HE.out;simp[results,wu,go_sem,E0,E1,E2,E3])
     .skip
      obtain⟨X,N,V,D⟩:=S4.out.xs;obtain⟨y0,y1,R,y3,y4,y5⟩:=S4.out.ys6;obtain⟨bm,a5,_,_⟩:=S4.out.lts;have fp:=S4.out.zh;obtain⟨ua,uc,D0,D1,y2⟩:=S4.out.env (j:=z) (by rw[A.out.zY];exact cg);have h7:=If A.out cg;have CD:=AA (λW (hW:Below w4.heap.size w4 W)=>VI _ (AF k.V3 z).Tj nm W (BG.below y2 hW) h7 HN.out (by have:(AF k.V3 z).Tj.length<=6:=(Eh.1 (A.out.Tj z cg)).2.2;omega));have a4:=AA (show Ae k ⟨9,(en:Int),(z:Int),b,c,nm⟩=if BI k.Xy (Ba k.mem (AF k.V3 z).root) (Bc (AF k.V3 z).Tj nm)=false then(k,0,2) else({k with V3:=An k.V3 z (BQ (Bc (AF k.V3 z).Tj nm))},0,0) by rw[bu.out];rfl);have j1:DH (Bc (AF k.V3 z).Tj nm):=λs hs=>h7 s (List.mem_filter.1 hs).1
      generalize Bc (AF k.V3 z).Tj nm=rs at CD a4 j1;have oD:=AA j1;clear y2 bu h7 j1;go_wp2_with fail;refine Ac 9 102 [.p w.heap.size 2,.s ge 3 bk,.p (w.heap.size+1) 2,.i ((z:Int)),.p ge (z*2),.p ge (z*2),.v (.slice ua (AF k.V3 z).Tj.length uc),.p (w.heap.size+1) 5,.t nm] (λ_ _ _=>True) ?_ ?_
      .intro i hi o Z a H Y J L h2 A
       match i,hi with
       |0,_|2,_|5,_|7,_=>exact sP Z A Y J
       |1,_=>exact sL Z A Y J (hl:=OZ (bc L a5 V))
       |3,_=>exact sL Z A Y J (hl:=Fy (bc L bm R))
       |4,_=>exact sI Z A Y J (hr:=by clear J Y A;go_simp)
       |6,_=>exact sL Z A Y J (hl:=KN (bc L fp D0))
       |8,_=>exact sL Z A Y J (hl:=YW (bc L bm y5))
      .intro E H hR L
       have q6:(E 6)=.slice ua (AF k.V3 z).Tj.length uc:=Bg hR 6;have q8:(E 8)=.string nm:=Bg hR 8;clear hR;simp only[Aj,Ag,yN,yJ,yK,yI,q6,q8];simp;clear q6 q8;have eS:=AA L;clear X N V D y0 y1 R y3 y4 y5 D0 D1 L bm a5 fp;go_wp2_with fail;refine(CD.out _ eS.out).mono ?_;rintro r w5 ⟨v',rfl,hO,dg⟩;have gt:=AA (eS.out.trans (dg.mono eS.out.size));have S5:=AA (S4.out.below gt.out);have HO:=AA (hO.lower eS.out.size);obtain⟨a9,c9,e9,_,_⟩:=hO.rd.shape;have oS:=AA hO.rd;generalize wZ _=n9 at e9;subst e9;clear hO dg CD;obtain⟨X,N,V,D⟩:=S5.out.xs;obtain⟨y0,y1,R,y3,y4,y5⟩:=S5.out.ys6;obtain⟨bm,a5,_,_⟩:=S5.out.lts;have fp:=S5.out.zh;obtain⟨_,_,D0,D1,_⟩:=S5.out.env (j:=z) (by rw[A.out.zY];exact cg);have cp:(AF k.V3 z).root<12:=by have:=zL A.out cg;omega
       have RM:=S5.out.K.1;have RI:=S5.out.K.2.1;have CX:=AA (λW (hW:Below w5.heap.size w5 W)=>JZ _ k.mem (AF k.V3 z).root W (RM.below hW) (Am A.out).1 cp);have CA:=AA (λW (hW:Below w5.heap.size w5 W) v2 (K:Ax W v2 (A4 (Ev k.mem (AF k.V3 z).root)))=>by have:=Gb _ v2 _ k.Xy (Ev k.mem (AF k.V3 z).root) rs W (BG.below RI hW) K (BG.below oS.out hW) (λf hf=>by have:=zH cp f ((Gd cp f).1 hf);have:=A.out.len;omega) (By (Am A.out).2.1) oD.out;rw[FO (Gd cp)] at this;exact this);generalize hbb:BI k.Xy (Ba k.mem (AF k.V3 z).root) rs=bb at CA a4;clear hbb RM RI cp;go_wp2_with fail;refine A5 13 102 [.p w.heap.size 1,.s gi 12 av,.p w.heap.size 0,.v (.slice am dw cm),.p w.heap.size 2,.s ge 3 bk,.p (w.heap.size+1) 2,.i ((z:Int)),.p ge (z*2),.p ge (z*2+1),.i ((AF k.V3 z).root),.z,.v (.slice a9 n9 c9)] (λix vv ww=>match ix with
        |11=>AG w5.heap.size ww vv (A4 (Ev k.mem (AF k.V3 z).root))
        |_=>True) ?_ ?_ ?_
       .intro i hi o Z a H Y J L h2 A
        have bN:=bc L bm R;have cC:=bc L fp D1
        match i,hi with
        |0,_|2,_|4,_|6,_|9,_|12,_=>exact sP Z A Y J
        |1,_=>exact sL Z A Y J (hl:=GV (bc L a5 N))
        |3,_=>exact sL Z A Y J (hl:=GQ (bc L a5 X))
        |5,_=>exact sL Z A Y J (hl:=OZ (bc L a5 V))
        |7,_|10,_=>exact sL Z A Y J (hl:=Fy ‹_›)
        |8,_=>exact sI Z A Y J (hr:=by clear J Y A;go_simp)
        |11,_=>exact sC Z A Y J (CX.out _ L) (by rintro e w_ ⟨v9,rfl,hO,a0⟩;exact⟨_,rfl,(BZ hO L.size),a0⟩)
       .intro i hi vv wz cT bp hz
        match i,hi with
        |11,_=>exact(AG.below hz bp)
        |0,_|1,_|2,_|3,_|4,_|5,_|6,_|7,_|8,_|9,_|10,_|12,_=>exact hz
       .intro E H hR L
        have q1:(E 1)=.slice (some ⟨gi,0,none⟩) 12 av:=Bg hR 1;have eV:AG w5.heap.size H (E 11) (A4 (Ev k.mem (AF k.V3 z).root)):=Bg hR 11;have dk:(E 12)=.slice a9 n9 c9:=Bg hR 12;clear hR;simp only[Aj,Ag,yN,yJ,yK,yI,q1,dk];simp;generalize E 11=z11 at eV ⊢;clear q1 dk;have HQ:=AA eV.rd;obtain⟨a8,c8,e8,_⟩:=eV.rd.open;generalize wZ _=n8 at e8;subst e8;have jK:=AA L;clear X N V D y0 y1 R y3 y4 y5 D0 D1 L bm a5 fp eV;go_wp2_with fail;refine(CA.out _ jK.out _ HQ.out).mono ?_;rintro r w7 ⟨rfl,fJ⟩;have mi:=AA ((gt.out.trans (jK.out.mono gt.out.size)).trans (fJ.mono (yL gt.out.size jK.out.size)));have S7:=AA (S4.out.below mi.out);have oX:=AA (AO.below (AO.below HO.out jK.out) fJ);clear fJ CA HQ;cases bb
        focus
         have du:=AA (show Ae k ⟨9,(en:Int),(z:Int),b,c,nm⟩=(k,0,2) by rw[a4.out];rfl)
         obtain⟨⟨X,N,V,D⟩,⟨⟨z0,z1,z2,z3⟩,bt⟩,HE,HR⟩:=S7.out.yS ar (v:=0) (code:=2) (du.out) (by decide)
        rotate_left
        focus
         have du:=AA (show Ae k ⟨9,(en:Int),(z:Int),b,c,nm⟩=({k with V3:=An k.V3 z (BQ rs)},0,0) by rw[a4.out];rfl)
         have T:=AA (S4.out.Tj A.out.zY.symm mi.out (j:=z) (by rw[A.out.zY];exact cg) oX.out);obtain⟨_,_,oq,_,_⟩:=S7.out.env (j:=z) (by rw[A.out.zY];exact cg);have Fe:=S7.out.fze (z*2);have mF:=S7.out.xs.2.2.1;obtain⟨_,_,yo,_⟩:=S7.out.ys6;generalize hW9:w7.setCell _ _=W9 at T;obtain⟨⟨X,N,V,D⟩,⟨⟨z0,z1,z2,z3⟩,bt⟩,HE,HR⟩:=T.out.fin ar (v:=0) (code:=0) (du.out)
        rotate_left
        all_goals
         go_wp2_with ((try simp only[xV,Exit.then]);with_reducible refine yC ?_ rfl HR.out;obtain⟨E0,E1,E2,E3⟩:=HE.out;simp[results,wu,go_sem,E0,E1,E2,E3])
theorem Wc{lo:Nat}{k:AN}{w:World}(h:Dh lo w mv iv ev cv k)(ar:lo<=w.heap.size)(hk:DP k)(call:AU)(he:0<=call.e/\call.e<3)(K:call.k=10∨call.k=11):
 Calls prog 174 #[.agg #[mv,iv,ev,cv],.agg call.cs] w (LW lo w (Ae k call)):=by
 have bC:=SC.start h ar call;have P0:=(X5 (k:=k) K).trans Xs;have cF:=(Am hk).1;obtain⟨gm,a6,e7,_⟩:=Eb.mems bC cF;obtain⟨ge,bk,e9,_,_⟩:=bC.V3 (by rw[hk.zY];omega);rw[hk.zY] at e9;obtain⟨am,dw,cm,ai,ni,ci,ae,ep,ce,ac,nc,cc,em,ei,ee,ec⟩:=bC.Ex;subst e7 e9 ei ec;clear em ee;have S0:=AA bC;obtain⟨kk,e,ra,b,c,nm⟩:=call;simp only at he K;obtain⟨en,rfl⟩:∃n:Nat,e=(n:Int):=⟨e.toNat,by omega⟩
 have cN:en<3:=by omega
 have g0:(en:Int)<3:=by omega
 simp only[AU.cs,yq] at S0 P0 ⊢;obtain⟨X,N,V,D⟩:=S0.out.xs;obtain⟨y0,y1,R,y3,y4,y5⟩:=S0.out.ys6;obtain⟨_,_,_,D1,_⟩:=S0.out.env (j:=en) (by rw[hk.zY];exact cN);obtain⟨rt,eX⟩:∃r,(AF k.V3 en).root=r:=⟨_,rfl⟩
 rw[eX] at P0 D1;have iM:=AA eX;have HP:=AA P0;have A:=AA hk;have eJ:=AA cF;obtain⟨bad,cy⟩:∃b',decide (Bh ra 0 63=false∨rt<0∨(kk=11/\EB b=false))=b':=⟨_,rfl⟩
 have HB:=AA cy;clear h bC he hk P0 cF eX cy K;go_in;go_upto_region 2 with fail;clear D1;go_cut [37] (λmW H=>mW=.bool bad/\SC lo w.heap.size ⟨kk,(en:Int),ra,b,c,nm⟩ w H (.slice (some ⟨gm,0,none⟩) 12 a6) (.slice ai ni ci) (.slice (some ⟨ge,0,none⟩) 3 bk) (.slice ac nc cc) k)
 case first=>
  go_wp2_with fail;refine(A3 (KM _ _)).mono ?_;rintro r w1 ⟨rfl,bO⟩;have S1:=AA (S0.out.below bO);clear X N V D y0 y1 R y3 y4 y5 bO;obtain⟨y0,y1,R,y3,y4,y5⟩:=S1.out.ys6;cases e1:Bh ra 0 63
  .have E1:=AA e1
   clear e1;go_wp2_with fail;go_meet
   case rel=>exact⟨by rw[<-HB.out];simp[E1.out],S1.out⟩
  have E1:=AA e1;clear e1
  by_cases h0:rt<0
  .have H0:=AA h0
   go_wp2_with fail;go_meet
   case rel=>exact⟨by rw[<-HB.out];simp[H0.out],S1.out⟩
  have H0:=AA h0;cases tk:(kk==11)
  .have TK:=AA (show kk≠11 by simpa using tk)
   go_wp2_with fail;go_meet
   case rel=>exact⟨by rw[<-HB.out];simp[E1.out,H0.out,TK.out],S1.out⟩
  have TK:=AA (show kk=11 by simpa using tk);go_wp2_with fail;refine(A3 (Cx _ _ _ _)).mono ?_;rintro r w2 ⟨rfl,a0⟩;have S2:=AA (S1.out.below a0);clear y0 y1 R y3 y4 y5 a0;go_wp2_with fail;go_meet
  case rel=>exact⟨by rw[<-HB.out];unfold EB;cases hw:Bh b 0 9999<;>simp[E1.out,H0.out,TK.out,hw],S2.out⟩
 case rest=>
 obtain⟨rfl,hS⟩:=hcut;have S2:=AA hS;obtain⟨w2,rfl⟩:∃w2,w2=wc:=⟨_,rfl⟩
 clear X N V D y0 y1 R y3 y4 y5 hS S0;cases bad
 rotate_left
 .have a4:=AA (HP.out.trans (if_pos (of_decide_eq_true HB.out)))
  clear HP HB;obtain⟨⟨X,N,V,D⟩,⟨⟨z0,z1,z2,z3⟩,bt⟩,HE,HR⟩:=S2.out.yS ar (v:=0) (code:=3) (a4.out) (by decide);go_wp2_with ((try simp only[xV,Exit.then]);with_reducible refine yC ?_ rfl HR.out;obtain⟨E0,E1,E2,E3⟩:=HE.out;simp[results,vA,go_sem,E0,E1,E2,E3])
 have fV:=HP.out.trans (if_neg (of_decide_eq_false HB.out));have gF:=of_decide_eq_false HB.out;have ab:=AZ.1 (show Bh ra 0 63=true by cases e1:Bh ra 0 63;(· exact absurd (.inl e1) gF);(· rfl));obtain⟨z,rfl⟩:∃n:Nat,ra=(n:Int):=⟨ra.toNat,by omega⟩
 have cg:z<64:=by omega
 obtain⟨rn,rfl⟩:∃n:Nat,rt=(n:Int):=⟨rt.toNat,by have:¬rt<0:=λx=>gF (.inr (.inl x));omega⟩
 have cp:rn<12:=by have:=zL A.out cN;rw[iM.out] at this;omega
 simp only[yq] at fV;have kV:=AA fV;clear fV HP HB gF ab;obtain⟨X,N,V,D⟩:=S2.out.xs;obtain⟨y0,y1,R,y3,y4,y5⟩:=S2.out.ys6;have CF:=AA (QY _ k.V0 (en:Int) ((z:Int)/4) w2 S2.out.K.2.2.2);go_wp2_with fail;refine CF.out.mono ?_;rintro r w3 ⟨rfl,bY⟩;have S3:=AA (S2.out.below bY);clear X N V D y0 y1 R y3 y4 y5 bY CF;obtain⟨X,N,V,D⟩:=S3.out.xs;obtain⟨y0,y1,R,y3,y4,y5⟩:=S3.out.ys6;have FC:=AA (λh=>WJ (c:=k.V0) (e:=(en:Int)) (p:=((z:Int)/4)) h);generalize hat:Gr k.V0 (en:Int) ((z:Int)/4)=at_ at*;have mj:=AA hat;clear hat;go_upto_if 52 with fail;obtain⟨n5,dg⟩:=EH w3 (.cells #[.int .i64 0,.int .i64 ((z:Int)%4),.bool false] 98);have h8:=S3.out.lts.2.1;have S5:=AA (S3.out.below dg);have jh:=AA S3.out.lo;have gt:=AA dg;have nY:=dg.size;clear X N V D y0 y1 R y3 y4 y5 dg;generalize hW5:w3.alloc _=W5 at*;generalize hqq:w3.heap.size=q at*;have oG:=AA hqq;clear hqq;have N5:=AA n5;clear n5 hW5;have pA:q≠w.heap.size:=by omega
 have lS:w.heap.size≠q:=by omega
 go_cut [10,11] (λjr pt H=>∃(fr:Nat) (wb:Bool),fr<12/\Bv k.mem rn z=(0,fr,wb)/\(SC lo w.heap.size ⟨kk,(en:Int),(z:Int),b,c,nm⟩ w H (.slice (some ⟨gm,0,none⟩) 12 a6) (.slice ai ni ci) (.slice (some ⟨ge,0,none⟩) 3 bk) (.slice ac nc cc) k)/\H.heap[q]?=some (.cells #[.int .i64 fr,.int .i64 ((z:Int)%4),.bool wb] 98 (0,0)))
 case first=>
  obtain⟨X,N,V,D⟩:=S5.out.xs;obtain⟨y0,y1,R,y3,y4,y5⟩:=S5.out.ys6;obtain⟨c0,c1,c2⟩:=GX N5.out;have bt:=AK N5.out
  by_cases a7:at_<0
  .have CW:=AA (QW _ k.mem rn z W5 S5.out.K.1 eJ.out cp cg)
   go_wp2_with fail;refine CW.out.mono ?_;rintro r w6 ⟨rfl,kw⟩;have S6:=AA (S5.out.below kw);have N6:=AA (AB N5.out kw);clear X N V D y0 y1 R y3 y4 y5 c0 c1 c2 bt kw CW;rw[show IV k.mem rn z=.tuple #[if(Bv k.mem rn z).1=0 then Lx (Bv k.mem rn z).2.1 z (Bv k.mem rn z).2.2 else Ez,.int .i64 (Bv k.mem rn z).1] from rfl];have oy:=AA (λfr wb (h:Bv k.mem rn z=(0,fr,wb))=>XX h);generalize fU:Bv k.mem rn z=res at*;clear fU;obtain⟨cd,fr,wb⟩:=res
   by_cases jD:cd=0
   .subst jD
    have dy:=oy.out fr wb rfl;rw[if_pos rfl];unfold Lx;rw[show((z%4:Nat):Int)=(z:Int)%4 by omega];have B7:=AJ w6 (.cells #[.int .i64 fr,.int .i64 ((z:Int)%4),.bool wb] 98);obtain⟨T8,n8⟩:=(S6.out.below B7).place (by decide) (AB N6.out B7) (yL jh.out (yG _)) (.int .i64 fr) (.int .i64 ((z:Int)%4)) (.bool wb);have T8:=AA T8;have N8:=AA n8;obtain⟨c0,c1,c2⟩:=GX (AB N6.out B7);have bt:=AK (AB N6.out B7);have nu:q≠w6.heap.size:=by have:=AW N6.out;omega
    have nt:w6.heap.size≠q:=λe=>nu e.symm
    clear B7 n8;go_wp2_with fail;go_meet
    case rel=>exact⟨fr,wb,dy,rfl,T8.out,N8.out⟩
   .rw[if_neg jD]
    unfold Ez;have B7:=AJ w6 (.cells #[.int .i64 0,.int .i64 0,.bool false] 98);have S7:=AA (S6.out.below B7);have nU:(cd !=0)=true:=by simp[jD]
    have a4:=AA (kV.out.trans (if_pos jD));clear B7;obtain⟨⟨X,N,V,D⟩,⟨⟨z0,z1,z2,z3⟩,bt⟩,HE,HR⟩:=S7.out.yS ar (v:=0) (code:=3) (a4.out) (by decide);go_wp2_with ((try simp only[xV,Exit.then]);with_reducible refine yC ?_ rfl HR.out;obtain⟨E0,E1,E2,E3⟩:=HE.out;simp[results,vA,go_sem,E0,E1,E2,E3])
  .obtain⟨j,hj,ej,hs⟩:=FC.out (by omega)
   rw[show(z:Int)/4=((z/4:Nat):Int) by omega] at hs;obtain⟨fr,dy,kq,fU⟩:=Ur A.out hj hs rfl;generalize(AT k.V0 j).w=wb at kq fU;obtain⟨a8,c8,e8,_,_,H8⟩:=BG.open Ce (by decide) S3.out.K.2.2.2;cases e8;obtain⟨bc,iD,rfl,kv,D0,D1,D2,D3⟩:=H8.zW hj;rw[kq] at D2 D3;rw[oG.out] at kv;simp only at D2 D3;have p6:=(gt.out.cell (p:=⟨bc,iD+j*4+2,none⟩) kv).trans D2;have p4:=(gt.out.cell (p:=⟨bc,iD+j*4+3,none⟩) kv).trans D3;obtain⟨T8,n8⟩:=S5.out.place2 (by decide) N5.out (yL jh.out (yG _)) (.int .i64 fr) (.bool wb);have T8:=AA T8;have N8:=AA n8;have dt:(j:Int)<k.V0.length:=by omega
   have nX:bc≠q:=by omega
   have ns:q≠bc:=by omega
   rw[iM.out] at fU;rw[yq] at fU;subst ej;clear hs kq D0 D1 D2 D3 n8 H8;go_wp2_with fail;go_meet
   case rel=>exact⟨fr,wb,dy,fU,T8.out,N8.out⟩
 case rest=>
  obtain⟨fr,wb,dy,fU,s8,n8⟩:=hcut;generalize wc=w8 at*;have S8:=AA s8;have N8:=AA n8;have fV:=kV.out;rw[fU,if_neg (by simp),show((z:Int)%4).toNat=z%4 by omega] at fV;simp only at fV;clear s8 n8 kV fU;obtain⟨X,N,V,D⟩:=S8.out.xs;obtain⟨y0,y1,R,y3,y4,y5⟩:=S8.out.ys6;obtain⟨p0,p1,p2⟩:=GX N8.out;go_upto_region 13 with fail;go_cut [87] (λmU H=>mU=.bool ((kk==11)&&!wb)/\H=w8)
  case first=>
   cases tk:(kk==11)
   all_goals
    go_wp2_with fail;go_meet
    case rel=>exact⟨by rw[tk];rfl,rfl⟩
  case rest=>
  obtain⟨rfl,rfl⟩:=hcut;obtain⟨w8,rfl⟩:∃w8,w8=wc:=⟨_,rfl⟩
  cases a0:((kk==11)&&!wb)
  rotate_left
  .have a4:=AA (fV.trans (if_pos (by simpa using a0)))
   obtain⟨⟨X,N,V,D⟩,⟨⟨z0,z1,z2,z3⟩,bt⟩,HE,HR⟩:=S8.out.yS ar (v:=0) (code:=1) (a4.out) (by decide);go_wp2_with ((try simp only[xV,Exit.then]);with_reducible refine yC ?_ rfl HR.out;obtain⟨E0,E1,E2,E3⟩:=HE.out;simp[results,vA,go_sem,E0,E1,E2,E3])
  have a4:=AA (fV.trans (if_neg (by simpa using a0)));clear fV a0;go_upto_if 90 with fail;clear X N V D y0 y1 R y3 y4 y5 p0 p1 p2;go_cut [] (λH=>∃cv,(SC lo w.heap.size ⟨kk,(en:Int),(z:Int),b,c,nm⟩ w H (.slice (some ⟨gm,0,none⟩) 12 a6) (.slice ai ni ci) (.slice (some ⟨ge,0,none⟩) 3 bk) cv {k with V0:=KG k.V0 (en:Int) ((z:Int)/4) fr wb})/\H.heap[q]?=some (.cells #[.int .i64 fr,.int .i64 ((z:Int)%4),.bool wb] 98 (0,0)))
  case first=>
   by_cases a7:at_<0
   .obtain⟨X,N,V,D⟩:=S8.out.xs
    obtain⟨y0,y1,R,y3,y4,y5⟩:=S8.out.ys6;obtain⟨p0,p1,p2⟩:=GX N8.out;have CP:=AA (Ss _ k.V0 ⟨(en:Int),(z:Int)/4,(fr:Int),wb⟩ w8 S8.out.K.2.2.2 (QT A.out));go_wp2_with fail;refine CP.out.mono ?_;rintro r w9 ⟨v',rfl,hO,dn⟩;have T9:=AA (S8.out.V0 dn hO);have N9:=AA (show(w9.setCell ⟨w.heap.size,3,none⟩ v').heap[q]?=_ from Ap (AB N8.out dn) (Ak w9 w.heap.size 3 v') lS);have hU:=AA (show KG k.V0 (en:Int) ((z:Int)/4) fr wb=JN k.V0 ⟨(en:Int),(z:Int)/4,(fr:Int),wb⟩ by unfold KG;rw[mj.out,if_pos a7]);have jb:=AK (S8.out.below dn).yT.1;have jp:=(S8.out.below dn).xs.2.2.2;clear X N V D y0 y1 R y3 y4 y5 p0 p1 p2 CP;obtain⟨a9,c9,e9,_,_⟩:=hO.rd.shape;generalize wZ _=n9 at e9;subst e9;clear hO dn;go_wp2_with fail;go_meet
    case rel=>exact⟨_,by rw[hU.out];exact T9.out,N9.out⟩
   .have hU:=AA (show KG k.V0 (en:Int) ((z:Int)/4) fr wb=k.V0 by unfold KG;rw[mj.out,if_neg (by omega)])
    go_wp2_with fail;go_meet
    case rel=>exact⟨_,by rw[hU.out];exact S8.out,N8.out⟩
  case rest=>
   obtain⟨cv,jr,lD⟩:=hcut;generalize wc=eU at*;have fh:=AA jr;have jI:=AA lD;obtain⟨iq,c9,e9,_,_⟩:=(jr.K.2.2.2).shape;generalize wZ _=nc9 at e9;subst e9;generalize c9=cc9 at*;clear jr lD S8 N8;obtain⟨X,N,V,D⟩:=fh.out.xs;obtain⟨y0,y1,R,y3,y4,y5⟩:=fh.out.ys6;obtain⟨p0,p1,p2⟩:=GX jI.out;obtain⟨bm,a5,_,_⟩:=fh.out.lts;have iU:=AW jI.out;cases tk:(kk==11)
   .have hY:=AA tk
    obtain⟨gw,cz,x3,fm,g2,hC,_,_,_,eN,_⟩:=Eb.mrow fh.out eJ.out dy;have eO:gm<eU.heap.size:=yM _ _ x3;have iY:(fr:Int)<12:=by omega
    have l0:(z:Int)%4<4:=by omega
    have Dw:=hC (z%4) (by omega);obtain⟨nx,fe⟩:=fh.out.rs _ (xF.2 rfl);have m0:gw≠w.heap.size+2:=eN _ _ _ fe (by decide);clear eN;have lC:q≠w.heap.size+2:=λe=>by rw[e] at jI;rw[jI.out] at fe;simp at fe
    have m7:gm≠w.heap.size+2:=λe=>by obtain⟨E,o⟩:=fh.out.yT.2.2.1;obtain⟨cu,kp⟩:=A9 o.1 gm rfl;exact Bt kp fe (by decide) e
    have du:=a4.out.trans (if_neg (by simpa using hY.out));generalize Au k.mem fr (z%4)=wd at Dw du;have du:=AA du;obtain⟨⟨z0,z1,z2,z3⟩,bt⟩:=fh.out.zs;go_wp2_with fail;refine Dn 14 131 (λix=>ix==11) [.a #[.slice (some ⟨gm,0,none⟩) 12 a6,.slice ai ni ci,.slice (some ⟨ge,0,none⟩) 3 bk,.slice iq nc9 cc9],.p w.heap.size 0,.s gm 12 a6,.p q 0,.i ((fr:Int)),.p gm fr,.s gw 4 cz,.p q 1,.i (((z:Int)%4)),.p gw (z%4),.i wd,.z,.i wd,.i 0] (λll ix vv ww=>match ix with
     |_=>True) (λll ww=>GA eU (w.heap.size+2) (.slice (some ⟨gm,0,none⟩) 12 a6) (.slice ai ni ci) (.slice (some ⟨ge,0,none⟩) 3 bk) (.slice iq nc9 cc9) (ll 11) ww) ?_ ?_ ?_ ?_ ?_ ?_
    .exact A0 (yO _ _) 1
    .exact λ_ _ _ _ _ _ _ _ _ _ _ _ h=>h
    .intro ll i wz cT hi hS gL bp hg
     show GA _ _ _ _ _ _ (Gn ll i 11) _
     rw[Fn (by rintro rfl;cases hS)];exact GA.grow hg bp
    .intro i hi hS o Z a H Y ll J HL L h2 A
     match i,hi,hS with
     |0,_,_=>have fC:=Bb HL 11;have bw:=(show H.cell? ⟨w.heap.size,0,none⟩=some (.slice (some ⟨gm,0,none⟩) 12 a6) from(GA.cell L a5 (by simp)).trans X);have bs:=(show H.cell? ⟨w.heap.size,1,none⟩=some (.slice ai ni ci) from(GA.cell L a5 (by simp)).trans N);have bK:=(show H.cell? ⟨w.heap.size,2,none⟩=some (.slice (some ⟨ge,0,none⟩) 3 bk) from(GA.cell L a5 (by simp)).trans V);have bN:=(show H.cell? ⟨w.heap.size,3,none⟩=some (.slice iq nc9 cc9) from(GA.cell L a5 (by simp)).trans D);exact LY Z A Y J HL (hl:=PZ ‹_› ‹_› ‹_› ‹_›)
     |1,_,_|3,_,_|7,_,_|12,_,_|13,_,_=>exact WP Z A Y J HL
     |2,_,_=>have bw:=(show H.cell? ⟨w.heap.size,0,none⟩=some (.slice (some ⟨gm,0,none⟩) 12 a6) from(GA.cell L a5 (by simp)).trans X);exact LY Z A Y J HL (hl:=GQ ‹_›)
     |4,_,_=>have cC:=(show H.cell? ⟨q,0,none⟩=some (.int .i64 fr) from(GA.cell L iU lC).trans p0);exact LY Z A Y J HL (hl:=Fy ‹_›)
     |6,_,_=>have dx:=(show H.cell? ⟨gm,fr,none⟩=some (.slice (some ⟨gw,0,none⟩) 4 cz) from(GA.cell L eO m7).trans x3);exact LY Z A Y J HL (hl:=K9 ‹_›)
     |8,_,_=>have gQ:=(show H.cell? ⟨q,1,none⟩=some (.int .i64 (((z:Int)%4))) from(GA.cell L iU lC).trans p1);exact LY Z A Y J HL (hl:=Fy ‹_›)
     |10,_,_=>have iE:=(show H.cell? ⟨gw,z%4,none⟩=some (.int .i64 wd) from(GA.cell L fm m0).trans Dw);exact LY Z A Y J HL (hl:=Fy ‹_›)
     |11,_,hs=>cases hs
     |5,_,_=>obtain rfl:=yQ Z;have d2:(a.tmps[122]?.getD undef)=.slice (some ⟨gm,0,none⟩) 12 a6:=Dc J HL 2;have d4:(a.tmps[124]?.getD undef)=.int .i64 fr:=Dc J HL 4;clear J Y;refine yP ?_;go_simp;exact A.out _ _ rfl (yO _ _)
     |9,_,_=>obtain rfl:=yQ Z;have d6:(a.tmps[126]?.getD undef)=.slice (some ⟨gw,0,none⟩) 4 cz:=Dc J HL 6;have d8:(a.tmps[128]?.getD undef)=.int .i64 (((z:Int)%4)):=Dc J HL 8;clear J Y;refine yP ?_;go_simp;exact A.out _ _ rfl (yO _ _)
    .intro i hi hS o Z a H Y ll J HL L h2 A
     match i,hi,hS with
     |0,_,hs|1,_,hs|2,_,hs|3,_,hs|4,_,hs|5,_,hs|6,_,hs|7,_,hs|8,_,hs|9,_,hs|10,_,hs|12,_,hs|13,_,hs=>cases hs
     |11,_,_=>
      obtain rfl:=yQ Z;have e4:a.tmps[4]?.getD undef=.pointer (some ⟨w.heap.size+2,0,none⟩):=eg (PV Y 4);have d0:(a.tmps[120]?.getD undef)=.agg #[.slice (some ⟨gm,0,none⟩) 12 a6,.slice ai ni ci,.slice (some ⟨ge,0,none⟩) 3 bk,.slice iq nc9 cc9]:=Dc J HL 0;clear J Y;rw[HL.out.1] at L;replace L:Below eU.heap.size eU H:=L;have B2:=AB fe L;obtain⟨c0,c1,c2,c3⟩:=AE B2;have pG:=AK B2;refine yP ?_;go_simp;exact A.out undef _ trivial (by show GA _ _ _ _ _ _ (Gn ll 11 11) _;rw[GR];exact⟨H,L,yO _ _⟩) (λj dt eE dd hu=>match j,eE with
       |0,_|1,_|2,_|3,_|4,_|5,_|6,_|7,_|8,_|9,_|10,_|12,_|13,_=>hu
       |11,_=>absurd rfl dt)
    .intro E H ll cr hR L
     have dk:(E 12)=.int .i64 wd:=Bg hR 12;have dq:(E 13)=.int .i64 0:=Bg hR 13;clear hR;simp only[DQ,Bk,yN,yJ,yK,yI,dk,dq];simp;clear dk dq;rw[cr 11 (by decide)] at L;obtain⟨wz,h1,K⟩:=L;have kB:Below (FV wz (w.heap.size+2) (.slice (some ⟨gm,0,none⟩) 12 a6) (.slice ai ni ci) (.slice (some ⟨ge,0,none⟩) 3 bk) (.slice iq nc9 cc9)).heap.size (FV wz (w.heap.size+2) (.slice (some ⟨gm,0,none⟩) 12 a6) (.slice ai ni ci) (.slice (some ⟨ge,0,none⟩) 3 bk) (.slice iq nc9 cc9)) H:=by simpa[FV] using K
     obtain⟨fL,jj⟩:=(fh.out.below h1).ret (yL ar (wI _ _)) (wI _ _) (v:=wd) (code:=0) du.out;obtain⟨E0,E1,E2,E3⟩:=AE (AB fL kB);have HR:=AA (jj.below (by have:=(fh.out.below h1).lo;simpa using this) kB);have HE:=AA (yk E0 (yk E1 (yk E2 E3)));clear X N V D y0 y1 R y3 y4 y5 p0 p1 p2 z0 z1 z2 z3 bt x3 Dw E0 E1 E2 E3 fL jj h1 K kB fe;go_wp2_with fail;exact yC (v:=.tuple #[.agg #[_,_,_,_],.int .i64 wd,.int .i64 0]) (by simp[results,vA,go_sem,HE.out]) rfl HR.out
   .have hY:=AA tk
    obtain⟨gw,cz,x3,fm,g2,_⟩:=Eb.mrow fh.out eJ.out dy;have eO:gm<eU.heap.size:=yM _ _ x3;have iY:(fr:Int)<12:=by omega
    have l0:(z:Int)%4<4:=by omega
    have du:=AA (a4.out.trans (if_pos (by simpa using hY.out)));go_wp2_with fail;refine Ac 10 131 [.p w.heap.size 0,.s gm 12 a6,.p q 0,.i ((fr:Int)),.p gm fr,.s gw 4 cz,.p q 1,.i (((z:Int)%4)),.p (w.heap.size+1) 3,.i b] (λ_ _ _=>True) ?_ ?_
    .intro i hi o Z a H Y J L h2 A
     have bs:=bc L iU p0;have bN:=bc L iU p1;have cC:=bc L bm y3
     match i,hi with
     |0,_|2,_|6,_|8,_=>exact sP Z A Y J
     |1,_=>exact sL Z A Y J (hl:=GQ (bc L a5 X))
     |3,_|7,_|9,_=>exact sL Z A Y J (hl:=Fy ‹_›)
     |4,_=>exact sI Z A Y J (hr:=by clear J Y A;go_simp)
     |5,_=>exact sL Z A Y J (hl:=K9 (bc L eO x3))
    .intro E H hR L
     have q5:(E 5)=.slice (some ⟨gw,0,none⟩) 4 cz:=Bg hR 5;have q7:(E 7)=.int .i64 (((z:Int)%4)):=Bg hR 7;have q9:(E 9)=.int .i64 b:=Bg hR 9;clear hR;simp only[Aj,Ag,yN,yJ,yK,yI,q5,q7,q9];simp;clear q5 q7 q9;have fw:=AA (fh.out.below L);obtain⟨kC,fv,D2,_,_,hC,Fr,_,_,nh,hS⟩:=Eb.mrow fw.out eJ.out dy;clear nh;have eD:=D2.symm.trans ((L.cell (p:=⟨gm,fr,none⟩) eO).trans x3);cases eD;have D3:=hC (z%4) (by omega);have fO:=AA (hS (z%4) b (by omega));generalize hW9:H.setCell _ _=W9 at fO;clear X N V D y0 y1 R y3 y4 y5 p0 p1 p2 x3 D2 hS L fh hC iY l0 fm g2 eO bm a5 iU;obtain⟨⟨X,N,V,D⟩,⟨⟨z0,z1,z2,z3⟩,bt⟩,HE,HR⟩:=fO.out.fin ar (v:=0) (code:=0) (du.out);go_wp2_with ((try simp only[xV,Exit.then]);with_reducible refine yC ?_ rfl HR.out;obtain⟨E0,E1,E2,E3⟩:=HE.out;simp[results,vA,go_sem,E0,E1,E2,E3])
def bg(w w':World):Prop:=∀(b:Nat)(cu:Array Value),w.heap[b]?=some (.cells cu 28 (0,0))->w'.heap[b]?=w.heap[b]?
theorem LW.up{T:Nat}{cs:Array Value}{lo b0 b:Nat}{w W W1:World}{m i e c m' i' e' c':Value}{k:AN}{res:Mq}(h:Eb T cs [b] lo w.heap.size b0 w W m i e c k)(ar:lo<=b)(ga:w.heap.size<=b)
 (hs:dU m' i' e' c')(hK:res.2.2=0->Dh lo W1 m' i' e' c' res.1)(O:Below lo W W1)(hf:bg W W1):
 W1.heap[b]?=some (.cells #[.slice none 0 0,.slice none 0 0,.slice none 0 0,.slice none 0 0] 28 (0,0))/\
 ((((W1.setCell ⟨b,0,none⟩ m').setCell ⟨b,1,none⟩ i').setCell ⟨b,2,none⟩ e').setCell ⟨b,3,none⟩ c').heap[b]?=some (.cells #[m',i',e',c'] 28 (0,0))/\
 LW lo w res (.returned (.tuple #[.agg #[m',i',e',c'],.int .i64 res.2.1,.int .i64 res.2.2])) ((((W1.setCell ⟨b,0,none⟩ m').setCell ⟨b,1,none⟩ i').setCell ⟨b,2,none⟩ e').setCell ⟨b,3,none⟩ c'):=by
 obtain⟨eN,lZ⟩:=h.rs b (xF.2 rfl);have hB:=(hf b _ lZ).trans lZ;have az:=Ao (Ao (Ao (Ak W1 b 0 m') 1 i') 2 e') 3 c';refine⟨hB,Cw hB,m',i',e',c',rfl,hs,λhc=>?_,((((h.bel.trans O).setCell ar _).setCell ar _).setCell ar _).setCell ar _,λq cu hq=>?_⟩
 .obtain⟨⟨E,o1⟩,o2,⟨ps,o3⟩,o4⟩:=hK hc
  exact⟨⟨E,o1.yW az hB⟩,o2.yW az hB,⟨ps,o3.yW az hB⟩,o4.yW az hB⟩
 .have e1:=(h.kf q cu (by have:=AW hq;omega) hq).trans hq
  have e2:=(hf q cu e1).trans e1;exact(Ap e2 az (by have:=AW hq;omega)).trans hq.symm
theorem QM(x:Int):∃(fn:Nat) (wr:Bool),Tt x=.tuple #[.int .i64 fn,.bool wr,.bool (Bn x)]/\fn<12/\(Bn x=true->fn=BM x):=by
 cases h:Bn x
 .exact⟨0,false,Eg h,by decide,λh=>by cases h⟩
 .exact⟨BM x,Kv x,Ed h,ET h,λ_=>rfl⟩
theorem Uj{k:AN}{a e:Nat}(h:e∈F9 k a):e<3:=by rw[<-JE] at h;exact XV h
theorem Y5{k:AN}{a:Nat}:(F9 k a).length<=3:=by rw[<-JE];exact MB
theorem ZZ{k:AN}{c:AU}(h:D6 k c=true)(ht:Bi (Sc k.Xy c.a.toNat).k=true):Bn c.c=true->(Sc k.Xy (BM c.c)).k≠3:=by intro hg;unfold D6 at h;rw[if_pos hg,decide_eq_true_eq] at h;simp only[Bi,xP,decide_eq_true_eq] at ht;omega
theorem Qy{Xy:List AV}{n:Int}(h:Bn x=false):A7 Xy x n=Xy:=by unfold A7;rw[if_neg (by rw[h];decide)]
theorem TJ{Xy:List AV}{n:Int}{f:Nat}(h:Bn x=true)(hf:f=BM x):A7 Xy x n=An Xy f (Ic n):=by unfold A7;rw[if_pos h,hf]
theorem We{lo:Nat}{k:AN}{w:World}(h:Dh lo w mv iv ev cv k)(ar:lo<=w.heap.size)(hk:DP k)(call:AU)(he:0<=call.e/\call.e<3)(K:call.k=6)(hc:call.c<=9223372036854775807):
 Calls prog 171 #[.agg #[mv,iv,ev,cv],.agg call.cs] w (LW lo w (Ae k call)):=by
 have bC:=SC.start h ar call;have P0:=X3 (k:=k) K;have FZ:=AA (λhz=>Js (k:=k) (c:=call) (kind:=0) hz);have cF:=(Am hk).1;obtain⟨gm,a6,e7,_⟩:=Eb.mems bC cF;obtain⟨ge,bk,e9,_,_⟩:=bC.V3 (by rw[hk.zY];omega);rw[hk.zY] at e9;obtain⟨gi,av,e8,_,_⟩:=bC.Xy (by rw[hk.len];omega);rw[hk.len] at e8;obtain⟨am,dw,cm,ai,ni,ci,ae,ep,ce,ac,nc,cc,em,ei,ee,ec⟩:=bC.Ex;subst e7 e8 e9 ec;clear em ei ee;have S0:=AA bC;obtain⟨kk,e,ra,b,c,nm⟩:=call;simp only at he K hc;subst K;obtain⟨en,rfl⟩:∃n:Nat,e=(n:Int):=⟨e.toNat,by omega⟩
 have cN:en<3:=by omega
 have g0:(en:Int)<3:=by omega
 simp only[AU.cs] at S0 P0 FZ ⊢;have HP:=AA P0;have A:=AA hk;have eJ:=AA cF;have CF:=AA (λW (h:Le W (.slice (some ⟨gm,0,none⟩) 12 a6) (.slice (some ⟨gi,0,none⟩) 12 av) (.slice (some ⟨ge,0,none⟩) 3 bk) (.slice ac nc cc) k)=>Kz _ _ _ _ k 6 (en:Int) ra b c nm 0 W h hk he (.inl rfl));have CG:=AA (λW=>A3 (DG c W hc));have Hc:=AA hc;obtain⟨X,N,V,D⟩:=S0.out.xs;obtain⟨y0,y1,R,y3,y4,y5⟩:=S0.out.ys6;generalize hfc:Cb k ⟨6,(en:Int),ra,b,c,nm⟩ 0=fc at*;clear h bC he hk P0 cF hfc hc;generalize hW0:((w.alloc _).alloc _).alloc _=W0 at*;go_in;go_wp2_with fail;refine(CF.out _ S0.out.K).mono ?_;rintro r w1 ⟨rfl,bO⟩;have S1:=AA (S0.out.below bO);clear X N V D y0 y1 R y3 y4 y5 bO CF hW0
 by_cases ef:fc=0
 .subst ef
  obtain⟨ed,_,hm,_,lI⟩:=FZ.out rfl;have ab:=AZ.1 ed;obtain⟨z,rfl⟩:∃n:Nat,ra=(n:Int):=⟨ra.toNat,by omega⟩
  have cg:z<12:=by omega
  have ft:(z:Int)<12:=by omega
  have bu:=AA (show Ae k ⟨6,(en:Int),(z:Int),b,c,nm⟩=aJ k ⟨6,(en:Int),(z:Int),b,c,nm⟩ by rw[HP.out];rfl);have kP:=AA (lI (by first|rfl|trivial));obtain⟨X,N,V,D⟩:=S1.out.xs;obtain⟨y0,y1,R,y3,y4,y5⟩:=S1.out.ys6;clear ed hm lI ab FZ HP;go_wp2_with fail;refine(CG.out _).mono ?_;rintro r w2 ⟨rfl,a0⟩;have S2:=AA (S1.out.below a0);obtain⟨fn,wf,hV,gJ,fG⟩:=QM c;rw[hV];clear X N V D y0 y1 R y3 y4 y5 a0 hV CG S0 S1;obtain⟨X,N,V,D⟩:=S2.out.xs;obtain⟨y0,y1,R,y3,y4,y5⟩:=S2.out.ys6;obtain⟨bm,a5,_,_⟩:=S2.out.lts;have eu:=S2.out.zy;obtain⟨d0,_,_⟩:=S2.out.Sc (f:=z) (by rw[A.out.len];exact cg);obtain⟨f0,_,_⟩:=S2.out.Sc (f:=fn) (by rw[A.out.len];exact gJ);have CB:=AA (λW (hW:Below w2.heap.size w2 W)=>A3 (Cx b 0 3 W));have CK:=AA (λW (hW:Below w2.heap.size w2 W)=>A3 (KK c W));have nP:(fn:Int)<12:=by omega
  obtain⟨okb,hokb⟩:∃okb,okb=(Bh b 0 3&&D6 k ⟨6,(en:Int),(z:Int),b,c,nm⟩):=⟨_,rfl⟩
  have ey:=AA hokb;have kY:=AA fG;generalize iI:Bn c=sm at*;have fA:=AA iI;clear hokb fG iI;go_wp2_with fail;go_cut [60] (λmV H=>mV=.bool (!okb)/\Eb 34 #[.int .i64 6,.int .i64 en,.int .i64 z,.int .i64 b,.int .i64 c,.string nm] [w.heap.size+2] lo w.heap.size (w.heap.size+1) w H (.slice (some ⟨gm,0,none⟩) 12 a6) (.slice (some ⟨gi,0,none⟩) 12 av) (.slice (some ⟨ge,0,none⟩) 3 bk) (.slice ac nc cc) k)
  case first=>
   have ox:(decide (0<=b)&&decide (b<=3))=Bh b 0 3:=rfl;clear ox;cases bY:Bh b 0 3
   .have vs:=AA (show okb=false by rw[ey.out,bY];rfl)
    rw[bY] at CB;clear bY d0 f0;refine Ac 29 167 [.p (w.heap.size+1) 3,.i b,.b false,.b true,.b true,.u,.u,.u,.u,.b true,.b true,.u,.u,.u,.u,.u,.u,.u,.u,.u,.u,.u,.u,.u,.u,.u,.u,.u,.u] (λ_ _ _=>True) ?_ ?_
    .intro i hi o Z a H Y J L h2 A
     match i,hi with
     |0,_|3,_|4,_|9,_|10,_=>exact sP Z A Y J
     |1,_=>exact sL Z A Y J (hl:=Fy (bc L bm y3))
     |2,_=>exact sD Z A Y J (CB.out _ L)
     |5,_|6,_|7,_|8,_|11,_|12,_|13,_|14,_|15,_|16,_|17,_|18,_|19,_|20,_|21,_|22,_|23,_|24,_|25,_|26,_|27,_|28,_=>exact sB Z A J
     |_+29,hq=>omega
    .intro E H hR L
     have dv:(E 10)=.bool true:=Bg hR 10;clear hR;simp only[Aj,Ag,yN,yJ,yK,yI,dv];simp;clear dv;clear X N V D y0 y1 R y3 y4 y5;go_wp2_with fail;go_meet
     case rel=>exact⟨by rw[vs.out];rfl,S2.out.below L⟩
   .rw[bY] at CB
    cases sm
    .by_cases eP:c=0
     .have vs:=AA (show okb=true by rw[ey.out,bY];simp only[D6,fA.out];simp[eP])
      have EK:EU c=0:=by simp[EU,eP]
      rw[EK] at CK;clear bY eP EK d0 f0;refine Ac 29 167 [.p (w.heap.size+1) 3,.i b,.b true,.b false,.b false,.p (w.heap.size+1) 4,.i c,.i 0,.b false,.b false,.b false,.b false,.b false,.u,.u,.u,.u,.u,.u,.u,.u,.u,.u,.u,.u,.u,.u,.u,.b false] (λ_ _ _=>True) ?_ ?_
      .intro i hi o Z a H Y J L h2 A
       have bw:=bc L bm y3;have bs:=bc L bm y4
       match i,hi with
       |0,_|3,_|4,_|5,_|9,_|10,_|11,_|12,_|28,_=>exact sP Z A Y J
       |1,_|6,_=>exact sL Z A Y J (hl:=Fy ‹_›)
       |2,_=>exact sD Z A Y J (CB.out _ L)
       |7,_=>exact sD Z A Y J (CK.out _ L)
       |13,_|14,_|15,_|16,_|17,_|18,_|19,_|20,_|21,_|22,_|23,_|24,_|25,_|26,_|27,_=>exact sB Z A J
       |8,_=>clear bw bs;obtain rfl:=yQ Z;have d7:(a.tmps[38]?.getD undef)=.int .i64 0:=BY J 7;have d4:(a.tmps[35]?.getD undef)=.bool false:=BY J 4;clear J Y;refine AY.yes rfl rfl d4 ?_;go_simp;exact A.out _ _ rfl (yO _ _)
       |_+29,hq=>omega
      .intro E H hR L
       have dv:(E 10)=.bool false:=Bg hR 10;have gz:(E 28)=.bool false:=Bg hR 28;clear hR;simp only[Aj,Ag,yN,yJ,yK,yI,dv,gz];simp;clear dv gz;clear X N V D y0 y1 R y3 y4 y5;go_wp2_with fail;go_meet
       case rel=>exact⟨by rw[vs.out];rfl,S2.out.below L⟩
     .have vs:=AA (show okb=false by rw[ey.out,bY];simp only[D6,fA.out];simp[eP])
      have EK:EU c=2:=by simp[EU,eP,fA.out]
      rw[EK] at CK;clear bY eP EK d0 f0;refine Ac 29 167 [.p (w.heap.size+1) 3,.i b,.b true,.b false,.b false,.p (w.heap.size+1) 4,.i c,.i 2,.b true,.b true,.b true,.u,.u,.u,.u,.u,.u,.u,.u,.u,.u,.u,.u,.u,.u,.u,.u,.u,.u] (λ_ _ _=>True) ?_ ?_
      .intro i hi o Z a H Y J L h2 A
       have bw:=bc L bm y3;have bs:=bc L bm y4
       match i,hi with
       |0,_|3,_|4,_|5,_|9,_|10,_=>exact sP Z A Y J
       |1,_|6,_=>exact sL Z A Y J (hl:=Fy ‹_›)
       |2,_=>exact sD Z A Y J (CB.out _ L)
       |7,_=>exact sD Z A Y J (CK.out _ L)
       |11,_|12,_|13,_|14,_|15,_|16,_|17,_|18,_|19,_|20,_|21,_|22,_|23,_|24,_|25,_|26,_|27,_|28,_=>exact sB Z A J
       |8,_=>clear bw bs;obtain rfl:=yQ Z;have d7:(a.tmps[38]?.getD undef)=.int .i64 2:=BY J 7;have d4:(a.tmps[35]?.getD undef)=.bool false:=BY J 4;clear J Y;refine AY.yes rfl rfl d4 ?_;go_simp;exact A.out _ _ rfl (yO _ _)
       |_+29,hq=>omega
      .intro E H hR L
       have dv:(E 10)=.bool true:=Bg hR 10;clear hR;simp only[Aj,Ag,yN,yJ,yK,yI,dv];simp;clear dv;clear X N V D y0 y1 R y3 y4 y5;go_wp2_with fail;go_meet
       case rel=>exact⟨by rw[vs.out];rfl,S2.out.below L⟩
    .have EK:EU c=1:=by
      unfold EU;rw[if_neg (by intro h;have:=fA.out;rw[h] at this;cases this),fA.out];rfl
     rw[EK] at CK;have fG:=kY.out rfl;have gX:=kP.out;generalize hka:(Sc k.Xy z).k=ka at d0 gX;generalize hkf:(Sc k.Xy fn).k=kf at f0;have lR:2<=ka/\ka<=3:=by simp only[Bi,xP,decide_eq_true_eq,yq,hka] at gX;omega
     obtain⟨km,hkm⟩:∃km,ka - 1=km:=⟨_,rfl⟩
     have mf:=AA hkm
     by_cases hq:kf=km
     .have vs:=AA (show okb=true by rw[ey.out,bY];simp[D6,fA.out,<-fG,hka,hkf];omega)
      have mH:(kf !=km)=false:=by simp[hq]
      clear bY EK fG gX hka hkf hkm hq;refine Ac 29 167 [.p (w.heap.size+1) 3,.i b,.b true,.b false,.b false,.p (w.heap.size+1) 4,.i c,.i 1,.b false,.b false,.b false,.b true,.b true,.p w.heap.size 1,.s gi 12 av,.i ((fn:Int)),.p gi (fn*3),.p gi (fn*3),.i kf,.p w.heap.size 1,.s gi 12 av,.p (w.heap.size+1) 2,.i ((z:Int)),.p gi (z*3),.p gi (z*3),.i ka,.i km,.b false,.b false] (λ_ _ _=>True) ?_ ?_
      .intro i hi o Z a H Y J L h2 A
       have bw:=bc L bm y3;have bs:=bc L bm y4;have bK:=bc L a5 N;have bN:=bc L eu f0;have cC:=bc L bm R;have dx:=bc L eu d0
       match i,hi with
       |0,_|3,_|4,_|5,_|9,_|10,_|11,_|12,_|13,_|15,_|17,_|19,_|21,_|24,_|28,_=>exact sP Z A Y J
       |1,_|6,_|18,_|22,_|25,_=>exact sL Z A Y J (hl:=Fy ‹_›)
       |2,_=>exact sD Z A Y J (CB.out _ L)
       |7,_=>exact sD Z A Y J (CK.out _ L)
       |14,_|20,_=>exact sL Z A Y J (hl:=GV ‹_›)
       |16,_|23,_=>exact sI Z A Y J (hr:=by clear J Y A;go_simp)
       |8,_=>clear bw bs bK bN cC dx;obtain rfl:=yQ Z;have d7:(a.tmps[38]?.getD undef)=.int .i64 1:=BY J 7;have d4:(a.tmps[35]?.getD undef)=.bool false:=BY J 4;clear J Y;refine AY.yes rfl rfl d4 ?_;go_simp;exact A.out _ _ rfl (yO _ _)
       |26,_=>clear bw bs bK bN cC dx;obtain rfl:=yQ Z;have jf:(a.tmps[56]?.getD undef)=.int .i64 ka:=BY J 25;have fM:(a.tmps[43]?.getD undef)=.bool true:=BY J 12;clear J Y;refine AY.yes rfl rfl fM ?_;go_simp;exact A.out _ _ (by show ym .i64 (xj.wrap (ka - 1))=.int .i64 km;rw[xM _ (by omega),mf.out]) (yO _ _)
       |27,_=>clear bw bs bK bN cC dx;obtain rfl:=yQ Z;have op:(a.tmps[49]?.getD undef)=.int .i64 kf:=BY J 18;have om:(a.tmps[57]?.getD undef)=.int .i64 km:=BY J 26;have fM:(a.tmps[43]?.getD undef)=.bool true:=BY J 12;clear J Y;refine AY.yes rfl rfl fM ?_;go_simp;exact A.out _ _ rfl (yO _ _)
       |_+29,hq=>omega
      .intro E H hR L
       have dv:(E 10)=.bool false:=Bg hR 10;have gz:(E 28)=.bool false:=Bg hR 28;clear hR;simp only[Aj,Ag,yN,yJ,yK,yI,dv,gz];simp;clear dv gz;clear X N V D y0 y1 R y3 y4 y5 d0 f0;go_wp2_with fail;go_meet
       case rel=>exact⟨by rw[vs.out];rfl,S2.out.below L⟩
     .have vs:=AA (show okb=false by rw[ey.out,bY];simp[D6,fA.out,<-fG,hka,hkf];omega)
      have mH:(kf !=km)=true:=by simp[hq]
      clear bY EK fG gX hka hkf hkm hq;refine Ac 29 167 [.p (w.heap.size+1) 3,.i b,.b true,.b false,.b false,.p (w.heap.size+1) 4,.i c,.i 1,.b false,.b false,.b false,.b true,.b true,.p w.heap.size 1,.s gi 12 av,.i ((fn:Int)),.p gi (fn*3),.p gi (fn*3),.i kf,.p w.heap.size 1,.s gi 12 av,.p (w.heap.size+1) 2,.i ((z:Int)),.p gi (z*3),.p gi (z*3),.i ka,.i km,.b true,.b true] (λ_ _ _=>True) ?_ ?_
      .intro i hi o Z a H Y J L h2 A
       have bw:=bc L bm y3;have bs:=bc L bm y4;have bK:=bc L a5 N;have bN:=bc L eu f0;have cC:=bc L bm R;have dx:=bc L eu d0
       match i,hi with
       |0,_|3,_|4,_|5,_|9,_|10,_|11,_|12,_|13,_|15,_|17,_|19,_|21,_|24,_|28,_=>exact sP Z A Y J
       |1,_|6,_|18,_|22,_|25,_=>exact sL Z A Y J (hl:=Fy ‹_›)
       |2,_=>exact sD Z A Y J (CB.out _ L)
       |7,_=>exact sD Z A Y J (CK.out _ L)
       |14,_|20,_=>exact sL Z A Y J (hl:=GV ‹_›)
       |16,_|23,_=>exact sI Z A Y J (hr:=by clear J Y A;go_simp)
       |8,_=>clear bw bs bK bN cC dx;obtain rfl:=yQ Z;have d7:(a.tmps[38]?.getD undef)=.int .i64 1:=BY J 7;have d4:(a.tmps[35]?.getD undef)=.bool false:=BY J 4;clear J Y;refine AY.yes rfl rfl d4 ?_;go_simp;exact A.out _ _ rfl (yO _ _)
       |26,_=>clear bw bs bK bN cC dx;obtain rfl:=yQ Z;have jf:(a.tmps[56]?.getD undef)=.int .i64 ka:=BY J 25;have fM:(a.tmps[43]?.getD undef)=.bool true:=BY J 12;clear J Y;refine AY.yes rfl rfl fM ?_;go_simp;exact A.out _ _ (by show ym .i64 (xj.wrap (ka - 1))=.int .i64 km;rw[xM _ (by omega),mf.out]) (yO _ _)
       |27,_=>clear bw bs bK bN cC dx;obtain rfl:=yQ Z;have op:(a.tmps[49]?.getD undef)=.int .i64 kf:=BY J 18;have om:(a.tmps[57]?.getD undef)=.int .i64 km:=BY J 26;have fM:(a.tmps[43]?.getD undef)=.bool true:=BY J 12;clear J Y;refine AY.yes rfl rfl fM ?_;go_simp;exact A.out _ _ rfl (yO _ _)
       |_+29,hq=>omega
      .intro E H hR L
       have dv:(E 10)=.bool false:=Bg hR 10;have gz:(E 28)=.bool true:=Bg hR 28;clear hR;simp only[Aj,Ag,yN,yJ,yK,yI,dv,gz];simp;clear dv gz;clear X N V D y0 y1 R y3 y4 y5 d0 f0;go_wp2_with fail;go_meet
       case rel=>exact⟨by rw[vs.out];rfl,S2.out.below L⟩
  case rest=>
  obtain⟨j2,S3⟩:=hcut;subst j2;replace S3:=AA S3;clear X N V D y0 y1 R y3 y4 y5 d0 f0 CB CK S2 bm a5 eu;obtain⟨w3,rfl⟩:∃w3:World,w3=wc:=⟨_,rfl⟩
  cases okb
  .have a4:=AA (show Ae k ⟨6,(en:Int),(z:Int),b,c,nm⟩=(k,0,3) by
    rw[bu.out];unfold aJ;rw[if_pos];have:=ey.out;cases h1:Bh b 0 3
    .exact .inl rfl
    .refine .inr ?_
     rw[h1,wl] at this;exact this.symm)
   clear bu;obtain⟨⟨X,N,V,D⟩,⟨⟨z0,z1,z2,z3⟩,bt⟩,HE,HR⟩:=S3.out.yS ar (v:=0) (code:=3) (a4.out) (by decide);go_wp2_with ((try simp only[xV,Exit.then]);with_reducible refine yC ?_ rfl HR.out;obtain⟨E0,E1,E2,E3⟩:=HE.out;simp[results,vz,go_sem,E0,E1,E2,E3])
  obtain⟨bY,hfit⟩:Bh b 0 3=true/\D6 k ⟨6,(en:Int),(z:Int),b,c,nm⟩=true:=by
   have:=ey.out.symm
   rwa [yD] at this
  have kZ:=AA (V9 (k:=k) (ZZ hfit kP.out));have a4:=AA (show Ae k ⟨6,(en:Int),(z:Int),b,c,nm⟩=_ from bu.out.trans (by unfold aJ;rw[if_neg (by rw[bY,hfit];simp)]));have bb:=AZ.1 bY;obtain⟨bn,rfl⟩:∃n:Nat,b=(n:Int):=⟨b.toNat,by omega⟩
  have eQ:bn<4:=by omega
  have kt:(bn:Int)<4:=by omega
  simp only[yq] at a4;clear bY hfit bb bu ey;obtain⟨nd,hnd⟩:∃nd,nd=Da k c:=⟨_,rfl⟩
  have pW:=AA hnd;obtain⟨us,hus⟩:∃us,us=F9 k z:=⟨_,rfl⟩
  have oz:=AA hus;have pw:us.length<=3:=by rw[hus];exact Y5
  have oA:=AA (show ∀e,e∈us->e<3 by rw[hus];exact λe h=>Uj h);have kR:=AA (show ∀g,g∈nd->g<k.Xy.length by
   rw[hnd,A.out.len];intro g hg;unfold Da at hg
   split at hg
   .next hgc=>
    rcases List.mem_cons.1 hg with h|h
    .rw[h];exact ET hgc
    .split at h
     .exact Fj h
     .cases h
   .cases hg)
  rw[<-hnd,<-hus] at a4;rw[<-hnd] at kZ;clear hnd hus;have mD:=AA (λW (h1:Bf W (.slice (some ⟨gm,0,none⟩) 12 a6) k.mem) (K:BW W (.slice (some ⟨gi,0,none⟩) 12 av) k.Xy)=>Rr (.slice (some ⟨gm,0,none⟩) 12 a6) (.slice (some ⟨gi,0,none⟩) 12 av) (.slice (some ⟨ge,0,none⟩) 3 bk) (.slice ac nc cc) k c W h1 K eJ.out A.out.len Hc.out);obtain⟨X,N,V,D⟩:=S3.out.xs;obtain⟨y0,y1,R,y3,y4,y5⟩:=S3.out.ys6;go_wp2_with fail;refine(mD.out _ S3.out.K.1 S3.out.K.2.1).mono ?_;rintro r w4 ⟨vb,rfl,ib,eI⟩;rw[kZ.out] at ib;have S4:=AA (S3.out.below eI);have gV:=S3.out.lts.2.1;clear X N V D y0 y1 R y3 y4 y5 mD kZ;obtain⟨X,N,V,D⟩:=S4.out.xs;obtain⟨y0,y1,R,y3,y4,y5⟩:=S4.out.ys6;go_wp2_with fail;refine(UD _ _ _ _ k z _ S4.out.K A.out).mono ?_;rintro r w5 ⟨vu,rfl,fX,dg⟩;rw[Y4 A.out (show Bi (A2 k z)=true from kP.out),<-oz.out] at fX;have S5:=AA (S4.out.below dg);have OB:=AA (AG.below ib dg);have OU:=AA fX;have j6:w.heap.size<w4.heap.size:=yv gV eI.size;obtain⟨ax,cx,rfl,_,_,_⟩:=fX.rd.open;rw[Cn] at OU ⊢;clear X N V D y0 y1 R y3 y4 y5 ib fX eI dg S3 S4;go_upto_block 0 with fail;go_cut [] (λH=>(∀e,e∈us->BI k.Xy nd (AF k.V3 e).Tj=true)/\∃a9 n9 c9,Eb 34 #[.int .i64 6,.int .i64 en,.int .i64 z,.int .i64 bn,.int .i64 c,.string nm] [w.heap.size+2] lo w.heap.size (w.heap.size+1) w H (.slice (some ⟨gm,0,none⟩) 12 a6) (.slice (some ⟨gi,0,none⟩) 12 av) (.slice (some ⟨ge,0,none⟩) 3 bk) (.slice a9 n9 c9) {k with V0:=HY us k.V0})
  case first=>
   go_wp2_with fail;go_loopw [13] (λjS wr=>∃j:Nat,j<=us.length/\jS=.int .i64 j/\(∀e,e∈us.take j->BI k.Xy nd (AF k.V3 e).Tj=true)/\AG w3.heap.size wr vb (A4 nd)/\AG w4.heap.size wr (.slice ax us.length cx) (A4 us)/\∃a9 n9 c9,Eb 34 #[.int .i64 6,.int .i64 en,.int .i64 z,.int .i64 bn,.int .i64 c,.string nm] [w.heap.size+2] lo w.heap.size (w.heap.size+1) w wr (.slice (some ⟨gm,0,none⟩) 12 a6) (.slice (some ⟨gi,0,none⟩) 12 av) (.slice (some ⟨ge,0,none⟩) 3 bk) (.slice a9 n9 c9) {k with V0:=HY (us.take j) k.V0}) (λjS _=>us.length - (intOf jS).toNat)
   exact⟨0,yu _,rfl,λe he=>by simp at he,OB.out,OU.out,ac,nc,cc,S5.out⟩
   obtain⟨j,hj,rfl,cr,ib,fX,a9,n9,c9,hS⟩:=hrel;have hQ:=AA cr;have S:=AA hS;have ms:=AA ib;have oW:=AA fX;clear cr hS ib OB OU
   by_cases a7:j<us.length
   .obtain⟨pV,pQ,jY,_,_,H0⟩:=fX.rd.open
    rw[Cn] at jY;simp only[xS] at jY;obtain⟨rfl,_,rfl⟩:=jY;obtain⟨bx,fS,rfl,DX⟩:=H0.at (k:=j) (by rw[Cn];exact a7);rw[Qg a7] at DX;obtain⟨un,hun⟩:∃u,u=us.getD j 0:=⟨_,rfl⟩
    rw[<-hun] at DX;have ml:=AA hun;have gU:un∈us:=by rw[hun];exact yx (BD a7)
    have iH:=oA.out un gU;have kS:=AA gU;clear hun gU H0 fX;have dd:(j:Int)<us.length:=by omega
    have nj:(un:Int)<3:=by omega
    obtain⟨X,N,V,D⟩:=S.out.xs;obtain⟨y0,y1,R,y3,y4,y5⟩:=S.out.ys6;obtain⟨bm,a5,_,_⟩:=S.out.lts;have fp:=S.out.zh;have cP:bx<wr.heap.size:=yM _ _ DX;obtain⟨ua,uc,D0,_,y2⟩:=S.out.env (j:=un) (by show un<k.V3.length;rw[A.out.zY];exact iH);have RI:=S.out.K.2.1;have RB:=ms.out.rd;have CA:=AA (λW (hW:Below wr.heap.size wr W)=>Gb _ vb _ k.Xy nd (AF k.V3 un).Tj W (BG.below RI hW) (Ax.below RB hW) (BG.below y2 hW) kR.out (By (Am A.out).2.1) (If A.out iH));generalize hbbq:BI k.Xy nd (AF k.V3 un).Tj=bq at CA;have mg:=AA hbbq;clear hbbq RI y2 RB;go_wp2_with fail;refine Ac 12 167 [.p w.heap.size 1,.s gi 12 av,.v vb,.p w.heap.size 2,.s ge 3 bk,.v (.slice (some ⟨bx,fS,none⟩) us.length cx),.i ((j:Int)),.p bx (fS+j),.i ((un:Int)),.p ge (un*2),.p ge (un*2),.v (.slice ua (AF k.V3 un).Tj.length uc)] (λ_ _ _=>True) ?_ ?_
    .intro i hi o Z a H Y J L h2 A
     match i,hi with
     |0,_|2,_|3,_|5,_|6,_|10,_=>exact sP Z A Y J
     |1,_=>exact sL Z A Y J (hl:=GV (bc L a5 N))
     |4,_=>exact sL Z A Y J (hl:=OZ (bc L a5 V))
     |7,_|9,_=>exact sI Z A Y J (hr:=by clear J Y A;go_simp)
     |8,_=>exact sL Z A Y J (hl:=Fy (bc L cP DX))
     |11,_=>exact sL Z A Y J (hl:=KN (bc L fp D0))
    .intro E H hR L
     have q1:(E 1)=.slice (some ⟨gi,0,none⟩) 12 av:=Bg hR 1;have q2:(E 2)=vb:=Bg hR 2;have eV:(E 11)=.slice ua (AF k.V3 un).Tj.length uc:=Bg hR 11;clear hR;simp only[Aj,Ag,yN,yJ,yK,yI,q1,q2,eV];simp;clear q1 q2 eV;have S6:=AA (S.out.below L);have eS:=AA L;clear X N V D y0 y1 R y3 y4 y5 D0 L;go_wp2_with fail;refine(CA.out _ eS.out).mono ?_;rintro r w7 ⟨rfl,fJ⟩;have S7:=AA (S6.out.below fJ);have k6:=AA (eS.out.trans (fJ.mono eS.out.size));clear fJ CA eS S6;cases bq
     .have du:=AA (show Ae k ⟨6,(en:Int),(z:Int),(bn:Int),c,nm⟩=(k,0,1) by rw[a4.out,if_pos (xh.2 ⟨un,kS.out,by rw[mg.out];decide⟩)])
      obtain⟨⟨X,N,V,D⟩,⟨⟨z0,z1,z2,z3⟩,bt⟩,HE,HR⟩:=S7.out.yS ar (v:=0) (code:=1) (du.out) (by decide);go_wp2_with ((try simp only[xV,Exit.then]);with_reducible refine yC ?_ rfl HR.out;obtain⟨E0,E1,E2,E3⟩:=HE.out;simp[results,vz,go_sem,E0,E1,E2,E3])
     .have g9:=(k6.out.cell cP).trans DX
      have i6:bx<w7.heap.size:=yM _ _ g9;clear DX cP;have DX:=g9;have cP:=i6;clear g9 i6;obtain⟨X,N,V,D⟩:=S7.out.xs;obtain⟨bm,a5,_,_⟩:=S7.out.lts;have CD:=AA (λW (h:DY W (.slice a9 n9 c9) (HY (us.take j) k.V0))=>QX (.slice a9 n9 c9) (HY (us.take j) k.V0) (un:Int) W h (by have:=Sj (us.take j) (Am A.out).2.2;simp only[Bd,yD,decide_eq_true_eq] at this;omega));go_wp2_with fail;refine Ac 6 167 [.p w.heap.size 3,.v (.slice a9 n9 c9),.v (.slice (some ⟨bx,fS,none⟩) us.length cx),.i ((j:Int)),.p bx (fS+j),.i ((un:Int))] (λ_ _ _=>True) ?_ ?_
      .intro i hi o Z a H Y J L h2 A
       match i,hi with
       |0,_|2,_|3,_=>exact sP Z A Y J
       |1,_=>exact sL Z A Y J (hl:=Wk (bc L a5 D))
       |4,_=>exact sI Z A Y J (hr:=by clear J Y A;go_simp)
       |5,_=>exact sL Z A Y J (hl:=Fy (bc L cP DX))
      .intro E H hR L
       have q1:(E 1)=.slice a9 n9 c9:=Bg hR 1;have q5:(E 5)=.int .i64 un:=Bg hR 5;clear hR;simp only[Aj,Ag,yN,yJ,yK,yI,q1,q5];simp;clear q1 q5;have S8:=AA (S7.out.below L);have mA:=AA (k6.out.trans (L.mono k6.out.size));have jp:=S8.out.xs.2.2.2;clear X N V D L DX;go_wp2_with fail;refine(CD.out _ S8.out.K.2.2.2).mono ?_;rintro r w9 ⟨v',rfl,hO,dn⟩;have T2:=AA (S8.out.V0 dn hO);have k5:=mA.out.trans (dn.mono mA.out.size);have l7:=AA (Od (g:=w.heap.size) (j:=3) (u:=v') (AG.below ms.out k5) gV);have l6:=AA (Od (g:=w.heap.size) (j:=3) (u:=v') (AG.below oW.out k5) j6);have jb:=AK (S8.out.below dn).yT.1;have mE:=(S8.out.below dn).xs.2.2.2;clear jp k5 dn;obtain⟨a8,c8,e9,_,_⟩:=hO.rd.shape;generalize wZ _=n8 at e9;subst e9;clear hO;generalize hW10:w9.setCell _ _=W10 at T2 l7 l6;go_wp2_with fail;go_roundw
       case rel=>
        refine⟨j+1,by omega,by go_num,λe he=>?_,l7.out,l6.out,a8,n8,c8,?_⟩
        .rw[DF (BD (d:=0) a7),List.mem_append,xF] at he
         rcases he with he|rfl
         .exact hQ.out e he
         .rw[<-ml.out];exact mg.out
        .rw[Os a7,<-ml.out];exact T2.out
       case measure=>simp[intOf];omega
   .obtain rfl:j=us.length:=by omega
    rw[xG] at hQ S;have dd:¬(us.length:Int)<us.length:=by omega
    clear fX;go_wp2_with fail;go_meet
    case rel=>exact⟨hQ.out,_,_,_,S.out⟩
  case rest=>
  obtain⟨cr,a9,n9,c9,hS⟩:=hcut;have S:=AA hS;have du:=AA (a4.out.trans (if_neg (by rw[Bool.not_eq_false,yr];exact cr)));obtain⟨eU,rfl⟩:∃eU:World,eU=wc:=⟨_,rfl⟩
  clear cr hS a4 OB OU S5;obtain⟨mm,fY⟩:∃mm,mm=(sm&&!CQ (AF k.V3 en).Tj (Sc k.Xy (BM c)).g):=⟨_,rfl⟩
  have it:=AA fY;clear fY;go_wp2_with fail;go_cut [112] (λjT H=>jT=.bool mm/\Eb 34 #[.int .i64 6,.int .i64 en,.int .i64 z,.int .i64 bn,.int .i64 c,.string nm] [w.heap.size+2] lo w.heap.size (w.heap.size+1) w H (.slice (some ⟨gm,0,none⟩) 12 a6) (.slice (some ⟨gi,0,none⟩) 12 av) (.slice (some ⟨ge,0,none⟩) 3 bk) (.slice a9 n9 c9) {k with V0:=HY us k.V0})
  case first=>
   obtain⟨X,N,V,D⟩:=S.out.xs;obtain⟨y0,y1,R,y3,y4,y5⟩:=S.out.ys6;obtain⟨bm,a5,_,_⟩:=S.out.lts;have eu:=S.out.zy;obtain⟨_,f1,_⟩:=S.out.Sc (f:=fn) (by show fn<k.Xy.length;rw[A.out.len];exact gJ)
   try simp only at f1
   cases sm
   .clear f1
    refine Ac 13 167 [.b false,.b false,.u,.u,.u,.u,.u,.u,.u,.u,.u,.u,.u] (λ_ _ _=>True) ?_ ?_
    .intro i hi o Z a H Y J L h2 A
     match i,hi with
     |0,_|1,_=>exact sP Z A Y J
     |2,_|3,_|4,_|5,_|6,_|7,_|8,_|9,_|10,_|11,_|12,_=>exact sB Z A J
    .intro E H hR L
     have q1:(E 1)=.bool false:=Bg hR 1;clear hR;simp only[Aj,Ag,yN,yJ,yK,yI,q1];simp;clear q1;clear X N V D y0 y1 R y3 y4 y5;go_wp2_with fail;go_meet
     case rel=>exact⟨by rw[it.out];rfl,S.out.below L⟩
   .have fG:=kY.out rfl
    have jm:=it.out;have RE:=S.out.K.2.2.1;have CM:=AA (λW (hW:Below eU.heap.size eU W)=>Jv (.slice (some ⟨gm,0,none⟩) 12 a6) (.slice (some ⟨gi,0,none⟩) 12 av) (.slice (some ⟨ge,0,none⟩) 3 bk) (.slice a9 n9 c9) k en (Sc k.Xy fn).g W (RE.below hW) A.out cN (By (Am A.out).2.1 _ (yx (Ca (by rw[A.out.len];exact gJ)))));rw[<-fG] at jm;generalize(Sc k.Xy fn).g=fg at f1 CM jm;clear RE fG;generalize CQ (AF k.V3 en).Tj fg=my at CM jm;have HM:=AA jm;clear jm;cases my
    .skip
     refine Ac 13 167 [.b true,.b true,.a #[.slice (some ⟨gm,0,none⟩) 12 a6,.slice (some ⟨gi,0,none⟩) 12 av,.slice (some ⟨ge,0,none⟩) 3 bk,.slice a9 n9 c9],.p (w.heap.size+1) 1,.i ((en:Int)),.p w.heap.size 1,.s gi 12 av,.i ((fn:Int)),.p gi (fn*3),.p gi (fn*3+1),.t fg,.b false,.b true] (λ_ _ _=>True) ?_ ?_
     .intro i hi o Z a H Y J L h2 A
      have bw:=bc L a5 X;have bs:=bc L a5 N;have bK:=bc L a5 V;have bN:=bc L a5 D;have cC:=bc L bm y1;have dx:=bc L eu f1
      match i,hi with
      |0,_|1,_|3,_|5,_|7,_|9,_|12,_=>exact sP Z A Y J
      |2,_=>exact sL Z A Y J (hl:=PZ ‹_› ‹_› ‹_› ‹_›)
      |4,_=>exact sL Z A Y J (hl:=Fy ‹_›)
      |6,_=>exact sL Z A Y J (hl:=GV ‹_›)
      |8,_=>exact sI Z A Y J (hr:=by clear J Y A;go_simp)
      |10,_=>exact sL Z A Y J (hl:=YW ‹_›)
      |11,_=>exact sD Z A Y J (CM.out _ L)
     .intro E H hR L
      have q1:(E 1)=.bool true:=Bg hR 1;have dk:(E 12)=.bool true:=Bg hR 12;clear hR;simp only[Aj,Ag,yN,yJ,yK,yI,q1,dk];simp;clear q1 dk;clear X N V D y0 y1 R y3 y4 y5 f1;go_wp2_with fail;go_meet
      case rel=>exact⟨by rw[HM.out];rfl,S.out.below L⟩
    .skip
     refine Ac 13 167 [.b true,.b true,.a #[.slice (some ⟨gm,0,none⟩) 12 a6,.slice (some ⟨gi,0,none⟩) 12 av,.slice (some ⟨ge,0,none⟩) 3 bk,.slice a9 n9 c9],.p (w.heap.size+1) 1,.i ((en:Int)),.p w.heap.size 1,.s gi 12 av,.i ((fn:Int)),.p gi (fn*3),.p gi (fn*3+1),.t fg,.b true,.b false] (λ_ _ _=>True) ?_ ?_
     .intro i hi o Z a H Y J L h2 A
      have bw:=bc L a5 X;have bs:=bc L a5 N;have bK:=bc L a5 V;have bN:=bc L a5 D;have cC:=bc L bm y1;have dx:=bc L eu f1
      match i,hi with
      |0,_|1,_|3,_|5,_|7,_|9,_|12,_=>exact sP Z A Y J
      |2,_=>exact sL Z A Y J (hl:=PZ ‹_› ‹_› ‹_› ‹_›)
      |4,_=>exact sL Z A Y J (hl:=Fy ‹_›)
      |6,_=>exact sL Z A Y J (hl:=GV ‹_›)
      |8,_=>exact sI Z A Y J (hr:=by clear J Y A;go_simp)
      |10,_=>exact sL Z A Y J (hl:=YW ‹_›)
      |11,_=>exact sD Z A Y J (CM.out _ L)
     .intro E H hR L
      have q1:(E 1)=.bool true:=Bg hR 1;have dk:(E 12)=.bool false:=Bg hR 12;clear hR;simp only[Aj,Ag,yN,yJ,yK,yI,q1,dk];simp;clear q1 dk;clear X N V D y0 y1 R y3 y4 y5 f1;go_wp2_with fail;go_meet
      case rel=>exact⟨by rw[HM.out];rfl,S.out.below L⟩
  case rest=>
  obtain⟨iK,fw⟩:=hcut;subst iK;replace fw:=AA fw;clear S;obtain⟨gy,rfl⟩:∃gy:World,gy=wc:=⟨_,rfl⟩
  cases mm
  rotate_left
  .have jO:=AA (show Ae k ⟨6,(en:Int),(z:Int),(bn:Int),c,nm⟩=(k,0,1) by
    have fY:=it.out.symm;rw[yD,Bool.not_eq_true'] at fY;exact du.out.trans (if_pos ⟨fA.out.trans fY.1,fY.2⟩))
   clear it du;obtain⟨⟨X,N,V,D⟩,⟨⟨z0,z1,z2,z3⟩,bt⟩,HE,HR⟩:=fw.out.yS ar (v:=0) (code:=1) (jO.out) (by decide);go_wp2_with ((try simp only[xV,Exit.then]);with_reducible refine yC ?_ rfl HR.out;obtain⟨E0,E1,E2,E3⟩:=HE.out;simp[results,vz,go_sem,E0,E1,E2,E3])
  have lP:¬(Bn c=true/\FF k (en:Int) (Sc k.Xy (BM c)).g=false):=by rintro⟨h1,K⟩;have h3:sm=true:=fA.out.symm.trans h1;have h4:CQ (AF k.V3 en).Tj (Sc k.Xy (BM c)).g=false:=K;have fY:=it.out;rw[h3,h4] at fY;cases fY
  have jO:=AA (du.out.trans (if_neg lP));clear it du lP;obtain⟨wo,hwo⟩:∃wo,wo=Au k.mem z bn:=⟨_,rfl⟩
  have lG:=A.out.word (f:=z) (i:=bn) cg eQ;rw[<-hwo] at lG jO;obtain⟨fo,iA,lV,nO,iZ⟩:=QM wo;have ld:=λW (hW:Below gy.heap.size gy W)=>A3 (DG wo W (by omega))
  rw[lV] at ld;have CO:=AA ld;have o9:=AA iZ;generalize hso:Bn wo=so at*;have l8:=AA hso;have nN:(fo:Int)<12:=by omega
  obtain⟨X,N,V,D⟩:=fw.out.xs;obtain⟨y0,y1,R,y3,y4,y5⟩:=fw.out.ys6;obtain⟨bm,a5,_,_⟩:=fw.out.lts;obtain⟨gw,cz,Dw,fm,g2,Dj,_⟩:=fw.out.mrow eJ.out (f:=z) cg;have Dv:=Dj bn eQ
  try simp only at Dv
  rw[<-hwo] at Dv;have eO:gm<gy.heap.size:=yM _ _ Dw;have pY:=AA hwo;clear Dj ld lV iZ hso lG hwo;go_wp2_with fail;refine Ac 17 167 [.p w.heap.size 0,.s gm 12 a6,.p (w.heap.size+1) 2,.i ((z:Int)),.p gm z,.s gw 4 cz,.p (w.heap.size+1) 3,.i ((bn:Int)),.p gw bn,.i wo,.v (.tuple #[.int .i64 fo,.bool iA,.bool so]),.v (.tuple #[.int .i64 fo,.bool iA,.bool so]),.i ((fo:Int)),.b iA,.b so,.i ((fo:Int)),.b iA] (λ_ _ _=>True) ?_ ?_
  .intro i hi o Z a H Y J L h2 A
   have bs:=bc L bm R;have bN:=bc L bm y3;have cC:=bc L fm Dv
   match i,hi with
   |0,_|2,_|6,_|11,_|12,_|13,_|14,_|15,_|16,_=>exact sP Z A Y J
   |1,_=>exact sL Z A Y J (hl:=GQ (bc L a5 X))
   |3,_|7,_|9,_=>exact sL Z A Y J (hl:=Fy ‹_›)
   |4,_|8,_=>exact sI Z A Y J (hr:=by clear J Y A;go_simp)
   |5,_=>exact sL Z A Y J (hl:=K9 (bc L eO Dw))
   |10,_=>exact sD Z A Y J (CO.out _ L)
   |_+17,hq=>omega
  .intro E H hR L
   have lA:(E 14)=.bool so:=Bg hR 14;have lz:(E 15)=.int .i64 fo:=Bg hR 15;have fD:(E 16)=.bool iA:=Bg hR 16;clear hR;simp only[Aj,Ag,yN,yJ,yK,yI,lA,lz,fD];simp;clear lA lz fD;have fO:=AA (fw.out.below L);clear X N V D y0 y1 R y3 y4 y5 Dw Dv L CO eO fm g2 fw bm a5;obtain⟨w12,rfl⟩:∃w12:World,w12=H:=⟨_,rfl⟩
   go_upto_if 129 with fail;go_cut [] (λH=>Eb 34 #[.int .i64 6,.int .i64 en,.int .i64 z,.int .i64 bn,.int .i64 c,.string nm] [w.heap.size+2] lo w.heap.size (w.heap.size+1) w H (.slice (some ⟨gm,0,none⟩) 12 a6) (.slice (some ⟨gi,0,none⟩) 12 av) (.slice (some ⟨ge,0,none⟩) 3 bk) (.slice a9 n9 c9) {k with V0:=HY us k.V0,Xy:=A7 k.Xy wo (-1)})
   case first=>
    cases so
    .have vs:=AA (Qy (Xy:=k.Xy) (n:= -1) l8.out)
     go_wp2_with fail;go_meet
     case rel=>rw[vs.out];exact fO.out
    .have vs:=AA (TJ (Xy:=k.Xy) (n:= -1) l8.out (o9.out rfl))
     obtain⟨X,N,V,D⟩:=fO.out.xs;obtain⟨bm,a5,_,_⟩:=fO.out.lts;have eu:=fO.out.zy;obtain⟨_,_,d2⟩:=fO.out.Sc (f:=fo) (by show fo<(k.Xy).length;have:=A.out.len;(try simp only[Co]);omega)
     try simp only at d2
     have eB:=A.out.zb nO;generalize hrv:(Sc (k.Xy) fo).r=rv at d2 eB;obtain⟨nr,hnr⟩:∃nr,rv - 1=nr:=⟨_,rfl⟩
     have fB:=AA hnr;clear hnr;have g8:(fo:Int)<12:=by omega
     go_wp2_with fail;refine Ac 10 167 [.p w.heap.size 1,.s gi 12 av,.i ((fo:Int)),.p w.heap.size 1,.s gi 12 av,.i ((fo:Int)),.p gi (fo*3),.p gi (fo*3+2),.i rv,.i nr] (λ_ _ _=>True) ?_ ?_
     .intro i hi o Z a H Y J L h2 A
      have bw:=bc L a5 N;have bs:=bc L eu d2
      match i,hi with
      |0,_|2,_|3,_|5,_|7,_=>exact sP Z A Y J
      |1,_|4,_=>exact sL Z A Y J (hl:=GV ‹_›)
      |6,_=>exact sI Z A Y J (hr:=by clear J Y A;go_simp)
      |8,_=>exact sL Z A Y J (hl:=Fy ‹_›)
      |9,_=>clear bw bs;obtain rfl:=yQ Z;have d8:(a.tmps[138]?.getD undef)=.int .i64 rv:=BY J 8;clear J Y;refine yP ?_;go_simp;exact A.out _ _ (by show ym .i64 (xj.wrap (rv - 1))=.int .i64 nr;rw[xM _ (by omega),fB.out]) (yO _ _)
     .intro E H hR L
      have q1:(E 1)=.slice (some ⟨gi,0,none⟩) 12 av:=Bg hR 1;have q2:(E 2)=.int .i64 fo:=Bg hR 2;have q9:(E 9)=.int .i64 nr:=Bg hR 9;clear hR;simp only[Aj,Ag,yN,yJ,yK,yI,q1,q2,q9];simp;clear q1 q2 q9;have SB:=AA (fO.out.below L);obtain⟨_,_,fu⟩:=SB.out.Sc (f:=fo) (by show fo<(k.Xy).length;have:=A.out.len;(try simp only[Co]);omega);have Fr:=SB.out.fzi (fo*3+2);have NN:=SB.out.info (by show 12=(k.Xy).length;have:=A.out.len;(try simp only[Co]);omega) (f:=fo) (by show fo<(k.Xy).length;have:=A.out.len;(try simp only[Co]);omega) (-1)
      try simp only at NN fu
      rw[hrv] at NN fu;rw[show rv+ -1=nr by have:=fB.out;omega] at NN;replace NN:=AA NN;generalize hW9:H.setCell _ _=W9 at NN;clear X N V D d2 L SB;go_wp2_with fail;go_meet
      case rel=>rw[vs.out];exact NN.out
   case rest=>
   replace hcut:=AA hcut;have hF:=hcut;clear hcut fO;obtain⟨w12,rfl⟩:∃w12:World,w12=wc:=⟨_,rfl⟩
   go_upto_if 142 with fail;go_cut [] (λH=>Eb 34 #[.int .i64 6,.int .i64 en,.int .i64 z,.int .i64 bn,.int .i64 c,.string nm] [w.heap.size+2] lo w.heap.size (w.heap.size+1) w H (.slice (some ⟨gm,0,none⟩) 12 a6) (.slice (some ⟨gi,0,none⟩) 12 av) (.slice (some ⟨ge,0,none⟩) 3 bk) (.slice a9 n9 c9) {k with V0:=HY us k.V0,Xy:=A7 (A7 k.Xy wo (-1)) c 1})
   case first=>
    cases sm
    .have vs:=AA (Qy (Xy:=A7 k.Xy wo (-1)) (n:=1) fA.out)
     go_wp2_with fail;go_meet
     case rel=>rw[vs.out];exact hF.out
    .have vs:=AA (TJ (Xy:=A7 k.Xy wo (-1)) (n:=1) fA.out (kY.out rfl))
     have SR:=AA (Jp.refer (M7 (Am A.out).2.1) A.out.len (n:= -1) (x:=wo) (.inr rfl));obtain⟨X,N,V,D⟩:=hF.out.xs;obtain⟨bm,a5,_,_⟩:=hF.out.lts;have eu:=hF.out.zy;obtain⟨_,_,d2⟩:=hF.out.Sc (f:=fn) (by show fn<(A7 k.Xy wo (-1)).length;have:=A.out.len;(try simp only[Co]);omega)
     try simp only at d2
     have eB:=SR.out fn (by simp only[Co];rw[A.out.len];exact gJ);generalize hrv:(Sc (A7 k.Xy wo (-1)) fn).r=rv at d2 eB;obtain⟨nr,hnr⟩:∃nr,rv+1=nr:=⟨_,rfl⟩
     have fB:=AA hnr;clear hnr;have g8:(fn:Int)<12:=by omega
     go_wp2_with fail;refine Ac 10 167 [.p w.heap.size 1,.s gi 12 av,.i ((fn:Int)),.p w.heap.size 1,.s gi 12 av,.i ((fn:Int)),.p gi (fn*3),.p gi (fn*3+2),.i rv,.i nr] (λ_ _ _=>True) ?_ ?_
     .intro i hi o Z a H Y J L h2 A
      have bw:=bc L a5 N;have bs:=bc L eu d2
      match i,hi with
      |0,_|2,_|3,_|5,_|7,_=>exact sP Z A Y J
      |1,_|4,_=>exact sL Z A Y J (hl:=GV ‹_›)
      |6,_=>exact sI Z A Y J (hr:=by clear J Y A;go_simp)
      |8,_=>exact sL Z A Y J (hl:=Fy ‹_›)
      |9,_=>clear bw bs;obtain rfl:=yQ Z;have d8:(a.tmps[151]?.getD undef)=.int .i64 rv:=BY J 8;clear J Y;refine yP ?_;go_simp;exact A.out _ _ (by show ym .i64 (xj.wrap (rv+1))=.int .i64 nr;rw[xM _ (by omega),fB.out]) (yO _ _)
     .intro E H hR L
      have q1:(E 1)=.slice (some ⟨gi,0,none⟩) 12 av:=Bg hR 1;have q2:(E 2)=.int .i64 fn:=Bg hR 2;have q9:(E 9)=.int .i64 nr:=Bg hR 9;clear hR;simp only[Aj,Ag,yN,yJ,yK,yI,q1,q2,q9];simp;clear q1 q2 q9;have SB:=AA (hF.out.below L);obtain⟨_,_,fu⟩:=SB.out.Sc (f:=fn) (by show fn<(A7 k.Xy wo (-1)).length;have:=A.out.len;(try simp only[Co]);omega);have Fr:=SB.out.fzi (fn*3+2);have NN:=SB.out.info (by show 12=(A7 k.Xy wo (-1)).length;have:=A.out.len;(try simp only[Co]);omega) (f:=fn) (by show fn<(A7 k.Xy wo (-1)).length;have:=A.out.len;(try simp only[Co]);omega) (1)
      try simp only at NN fu
      rw[hrv] at NN fu;rw[show rv+1=nr by have:=fB.out;omega] at NN;replace NN:=AA NN;generalize hW9:H.setCell _ _=W9 at NN;clear X N V D d2 L SB;go_wp2_with fail;go_meet
      case rel=>rw[vs.out];exact NN.out
   case rest=>
   replace hcut:=AA hcut;have ir:=hcut;clear hcut hF;obtain⟨w13,rfl⟩:∃w13:World,w13=wc:=⟨_,rfl⟩
   obtain⟨X,N,V,D⟩:=ir.out.xs;obtain⟨y0,y1,R,y3,y4,y5⟩:=ir.out.ys6;obtain⟨bm,a5,_,_⟩:=ir.out.lts;obtain⟨gw,cz,Dw,fm,g2,_⟩:=ir.out.mrow eJ.out (f:=z) cg;have eO:gm<w13.heap.size:=yM _ _ Dw;go_wp2_with fail;refine Ac 10 167 [.p w.heap.size 0,.s gm 12 a6,.p (w.heap.size+1) 2,.i ((z:Int)),.p gm z,.s gw 4 cz,.p (w.heap.size+1) 3,.i ((bn:Int)),.p (w.heap.size+1) 4,.i c] (λ_ _ _=>True) ?_ ?_
   .intro i hi o Z a H Y J L h2 A
    have bs:=bc L bm R;have bN:=bc L bm y3;have cC:=bc L bm y4
    match i,hi with
    |0,_|2,_|6,_|8,_=>exact sP Z A Y J
    |1,_=>exact sL Z A Y J (hl:=GQ (bc L a5 X))
    |3,_|7,_|9,_=>exact sL Z A Y J (hl:=Fy ‹_›)
    |4,_=>exact sI Z A Y J (hr:=by clear J Y A;go_simp)
    |5,_=>exact sL Z A Y J (hl:=K9 (bc L eO Dw))
   .intro E H hR L
    have q5:(E 5)=.slice (some ⟨gw,0,none⟩) 4 cz:=Bg hR 5;have q7:(E 7)=.int .i64 bn:=Bg hR 7;have q9:(E 9)=.int .i64 c:=Bg hR 9;clear hR;simp only[Aj,Ag,yN,yJ,yK,yI,q5,q7,q9];simp;clear q5 q7 q9;have ow:=AA (ir.out.below L);obtain⟨kC,fv,D2,_,_,hC,Fr,_,_,_,hS⟩:=ow.out.mrow eJ.out (f:=z) cg;have eD:=D2.symm.trans ((L.cell (p:=⟨gm,z,none⟩) eO).trans Dw);cases eD;have D3:=hC bn eQ;have l5:=AA (hS bn c eQ);generalize hW9:H.setCell _ _=W9 at l5;clear X N V D y0 y1 R y3 y4 y5 Dw D2 hS L ir hC;obtain⟨⟨X,N,V,D⟩,⟨⟨z0,z1,z2,z3⟩,bt⟩,HE,HR⟩:=l5.out.fin ar (v:=0) (code:=0) (jO.out);go_wp2_with ((try simp only[xV,Exit.then]);with_reducible refine yC ?_ rfl HR.out;obtain⟨E0,E1,E2,E3⟩:=HE.out;simp[results,vz,go_sem,E0,E1,E2,E3])
 .have t1:(fc !=0)=true:=by simp[ef]
  have hc:=AA ef;have a4:=AA (show Ae k ⟨6,(en:Int),ra,b,c,nm⟩=(k,0,fc) by rw[HP.out,if_neg ef]);clear ef FZ HP;obtain⟨⟨X,N,V,D⟩,⟨⟨z0,z1,z2,z3⟩,bt⟩,HE,HR⟩:=S1.out.yS ar (v:=0) (code:=fc) (a4.out) (hc.out);go_wp2_with ((try simp only[xV,Exit.then]);with_reducible refine yC ?_ rfl HR.out;obtain⟨E0,E1,E2,E3⟩:=HE.out;simp[results,vz,go_sem,E0,E1,E2,E3])
theorem YT{lo:Nat}{k:AN}{w:World}(h:Dh lo w mv iv ev cv k)(ar:lo<=w.heap.size)(hk:DP k)(call:AU)(he:0<=call.e/\call.e<3)(ez:call.nm.size<=maxLen)(hc:call.c<=9223372036854775807):
 Calls prog 114 #[.agg #[mv,iv,ev,cv],.agg call.cs] w (LW lo w (Ae k call)):=by
 have bC:=SC.start h ar call;obtain⟨am,dw,cm,ai,ni,ci,ae,ep,ce,ac,nc,cc,rfl,rfl,rfl,rfl⟩:=bC.Ex;have S0:=AA bC;obtain⟨kk,e,a,b,c,nm⟩:=call;simp only[AU.cs] at S0 ⊢;have A:=AA hk;have HE:=AA he;have HN:=AA ez;have HC:=AA hc;obtain⟨X,N,V,D⟩:=S0.out.xs;obtain⟨y0,y1,R,y3,y4,y5⟩:=S0.out.ys6;clear h bC he hk ez hc;generalize hW0:((w.alloc _).alloc _).alloc _=W0 at*
 by_cases hk:kk=1∨kk=2∨kk=3∨kk=4∨kk=5∨kk=6∨kk=7∨kk=8∨kk=9∨kk=10∨kk=11
 .skip
  rcases hk with rfl|rfl|rfl|rfl|rfl|rfl|rfl|rfl|rfl|rfl|rfl
  all_goals
   have C:=S0.out.yT.2.2;go_in;go_wp2_with fail
   first
   |refine(VN C S0.out.lo A.out ⟨_,e,a,b,c,nm⟩ HE.out rfl HN.out).mono ?_
   |refine(VK C S0.out.lo A.out ⟨_,e,a,b,c,nm⟩ HE.out rfl).mono ?_
   |refine(VL C S0.out.lo A.out ⟨_,e,a,b,c,nm⟩ HE.out rfl).mono ?_
   |refine(Wd C S0.out.lo A.out ⟨_,e,a,b,c,nm⟩ HE.out (by simp)).mono ?_
   |refine(We C S0.out.lo A.out ⟨_,e,a,b,c,nm⟩ HE.out rfl HC.out).mono ?_
   |refine(VM C S0.out.lo A.out ⟨_,e,a,b,c,nm⟩ HE.out rfl).mono ?_
   |refine(Rt C S0.out.lo A.out ⟨_,e,a,b,c,nm⟩ HE.out (by simp) HN.out).mono ?_
   |refine(Wc C S0.out.lo A.out ⟨_,e,a,b,c,nm⟩ HE.out (by simp)).mono ?_
   rintro r w1 ⟨m',i',e',c',rfl,hs,hK,O,hf⟩;obtain⟨hB,fL,jj⟩:=LW.up S0.out (yL ar (wI _ _)) (wI _ _) hs hK O hf;obtain⟨am,pu,cm,ai,ni,ci,ae,pv,ce,ac,nc,cc,rfl,rfl,rfl,rfl⟩:=hs;obtain⟨z0,z1,z2,z3⟩:=AE hB;have bt:=AK hB;have pd:=AA (AE fL);have HR:=AA jj;clear hK O hf hB fL jj X N V D y0 y1 R y3 y4 y5 hW0;go_wp2_with fail;exact yC (v:=.tuple #[.agg #[_,_,_,_],.int .i64 _,.int .i64 _]) (by simp[results,rZ,go_sem,pd.out]) rfl HR.out
 simp only[not_or] at hk;obtain⟨e1,e2,e3,e4,e5,e6,e7,e8,e9,hA,jd⟩:=hk;have a4:=AA (show Ae k ⟨kk,e,a,b,c,nm⟩=(k,0,3) by unfold Ae;rw[if_neg e1,if_neg (by rw[AZ];simp only;omega),if_neg e7,if_neg e8,if_neg e9,if_neg (by simp only;omega)]);have t1:(kk==1)=false:=by simp[e1]
 have t2:(kk==2)=false:=by simp[e2]
 have t3:(kk==3)=false:=by simp[e3]
 have t4:(kk==4)=false:=by simp[e4]
 have t5:(kk==5)=false:=by simp[e5]
 have t6:(kk==6)=false:=by simp[e6]
 have t7:(kk==7)=false:=by simp[e7]
 have t8:(kk==8)=false:=by simp[e8]
 have t9:(kk==9)=false:=by simp[e9]
 have pr:(kk==10)=false:=by simp[hA]
 have pq:(kk==11)=false:=by simp[jd]
 clear e1 e2 e3 e4 e5 e6 e7 e8 e9 hA jd;go_in;obtain⟨⟨X,N,V,D⟩,⟨⟨z0,z1,z2,z3⟩,bt⟩,HE,HR⟩:=S0.out.yS ar (v:=0) (code:=3) (a4.out) (by decide);go_wp2_with ((try simp only[xV,Exit.then]);with_reducible refine yC ?_ rfl HR.out;obtain⟨E0,E1,E2,E3⟩:=HE.out;simp[results,rZ,go_sem,E0,E1,E2,E3])
def Py(lo:Nat)(b:Bool)(v:Value)(w:World)(k:AN):Prop:=b=true∨∃m i e c,v=.agg #[m,i,e,c]/\Dh lo w m i e c k
theorem Py.below{lo:Nat}{b:Bool}{w w':World}{k:AN}(h:Py lo b v w k)(O:Below w.heap.size w w'):Py lo b v w' k:=h.imp id λ⟨m,i,e,c,h1,K⟩=>⟨m,i,e,c,h1,K.below O⟩
theorem Py.yW{lo g:Nat}{b:Bool}{w w':World}{k:AN}{cu:Array Value}(h:Py lo b v w k)(hg:w.grownBy w' (some g))(hB:w.heap[g]?=some (.cells cu 28 (0,0))):Py lo b v w' k:=h.imp id λ⟨m,i,e,c,h1,K⟩=>⟨m,i,e,c,h1,K.yW hg hB⟩
def QK(lo:Nat)(w:World)(m i e c:Value)(k:AN)(y:Int):Prop:=dU m i e c/\(y=0->Dh lo w m i e c k)
theorem QK.below{lo:Nat}{w w':World}{m i e c:Value}{k:AN}(h:QK lo w m i e c k y)(O:Below w.heap.size w w'):QK lo w' m i e c k y:=⟨h.1,λh0=>(h.2 h0).below O⟩
theorem QK.yW{lo g:Nat}{w w':World}{m i e c:Value}{k:AN}{cu:Array Value}(h:QK lo w m i e c k y)(hg:w.grownBy w' (some g))(hB:w.heap[g]?=some (.cells cu 28 (0,0))):QK lo w' m i e c k y:=⟨h.1,λh0=>(h.2 h0).yW hg hB⟩
def MW(lo:Nat)(v:Value)(w:World)(k:AN)(x y:Int):Prop:=∃m i e c,v=.tuple #[.agg #[m,i,e,c],.int .i64 x,.int .i64 y]/\QK lo w m i e c k y
def Rm(lo:Nat)(v:Value)(w:World)(k:AN)(y:Int):Prop:=∃m i e c,v=.agg #[m,i,e,c]/\QK lo w m i e c k y
theorem MW.below{lo:Nat}{w w':World}{k:AN}(h:MW lo v w k x y)(O:Below w.heap.size w w'):MW lo v w' k x y:=by obtain⟨m,i,e,c,h1,K⟩:=h;exact⟨m,i,e,c,h1,K.below O⟩
theorem MW.yW{lo g:Nat}{w w':World}{k:AN}{cu:Array Value}(h:MW lo v w k x y)(hg:w.grownBy w' (some g))(hB:w.heap[g]?=some (.cells cu 28 (0,0))):MW lo v w' k x y:=by obtain⟨m,i,e,c,h1,K⟩:=h;exact⟨m,i,e,c,h1,K.yW hg hB⟩
theorem Rm.below{lo:Nat}{w w':World}{k:AN}(h:Rm lo v w k y)(O:Below w.heap.size w w'):Rm lo v w' k y:=by obtain⟨m,i,e,c,h1,K⟩:=h;exact⟨m,i,e,c,h1,K.below O⟩
theorem Rm.yW{lo g:Nat}{w w':World}{k:AN}{cu:Array Value}(h:Rm lo v w k y)(hg:w.grownBy w' (some g))(hB:w.heap[g]?=some (.cells cu 28 (0,0))):Rm lo v w' k y:=by obtain⟨m,i,e,c,h1,K⟩:=h;exact⟨m,i,e,c,h1,K.yW hg hB⟩
def Ia(lo:Nat)(b:Bool)(v:Value)(w:World)(k:AN)(y:Int):Prop:=∃q,v=.pointer (some ⟨q,0,none⟩)/\lo<=q/\if b=true then ∃m i e c,w.heap[q]?=some (.cells #[m,i,e,c] 28 (0,0))/\QK lo w m i e c k y else w.heap[q]?=some (.cells #[.slice none 0 0,.slice none 0 0,.slice none 0 0,.slice none 0 0] 28 (0,0))
theorem Ia.below{lo:Nat}{b:Bool}{w w':World}{k:AN}(h:Ia lo b v w k y)(O:Below w.heap.size w w'):Ia lo b v w' k y:=by
 obtain⟨q,h0,h1,K⟩:=h;refine⟨q,h0,h1,?_⟩;cases b
 .exact AB K O
 .obtain⟨m,i,e,c,h3,h4⟩:=K
  exact⟨m,i,e,c,AB h3 O,h4.below O⟩
theorem Ia.stay{lo:Nat}{w w':World}{k:AN}(h:Ia lo false v w k y)(hf:bg w w'):Ia lo false v w' k y:=by obtain⟨q,h0,h1,K⟩:=h;exact⟨q,h0,h1,(hf q _ K).trans K⟩
theorem Lp{k:AN}{w:World}(h:Le w mv iv ev cv k)(hk:DP k)(call:AU)(he:0<=call.e/\call.e<3)(ez:call.nm.size<=maxLen)(ks:call.c<=9223372036854775807):
 Calls prog 55 #[.agg #[mv,iv,ev,cv],.agg call.cs] w (Hy w (Ae k call)):=by
 have lf:=AA (λ(lo:Nat)(W:World)(m1 i1 e1 c1:Value)(h:Dh lo W m1 i1 e1 c1 k)(ar:lo<=W.heap.size)=>YT h ar hk call he ez ks);have HR:=AA h;have o0:=AA hk;have HN:=AA (@QH k call);generalize Ae k call=res at lf HN ⊢;obtain⟨kr,vr,nr⟩:=res;obtain⟨ck,ce,ca,cb,cc,nm⟩:=call;simp only[AU.cs] at lf ⊢;obtain⟨B0,B1,B2,al,ds⟩:=FY w (.cells #[mv,iv,ev,cv] 28) (.cells #[.int .i64 ck,.int .i64 ce,.int .i64 ca,.int .i64 cb,.int .i64 cc,.string nm] 34) (.cells #[.slice none 0 0,.slice none 0 0,.slice none 0 0,.slice none 0 0] 28);have CC:=AA (λW (hW:Below (((w.alloc (.cells #[mv,iv,ev,cv] 28)).alloc (.cells #[.int .i64 ck,.int .i64 ce,.int .i64 ca,.int .i64 cb,.int .i64 cc,.string nm] 34)).alloc (.cells #[.slice none 0 0,.slice none 0 0,.slice none 0 0,.slice none 0 0] 28)).heap.size _ W)=>Lo mv iv ev cv k W ((HR.out.below al).below hW) o0.out);clear he ez ks h hk;go_in;go_wp2_with fail;generalize((w.alloc _).alloc _).alloc _=W0 at*;obtain⟨X,N,V,D⟩:=AE B0;obtain⟨y0,y1,R,y3,y4,y5⟩:=Gy B1;have eF:=AW B0;have i7:=AW B1;have bL:=AA al;have HB:=AA (yk B0 B2);clear al B0 B1 B2;have al:=i7;clear i7;refine Dn 12 26 (λix=>ix==3||ix==9) [.a #[mv,iv,ev,cv],.z,.a #[.int .i64 ck,.int .i64 ce,.int .i64 ca,.int .i64 cb,.int .i64 cc,.string nm],.z,.z,.z,.i vr,.i nr,.z,.z,.i vr,.i nr] (λll ix vv ww=>match ix with
  |1=>Py W0.heap.size (ll 3) vv ww k
  |3|4=>MW W0.heap.size vv ww kr vr nr
  |5=>Rm W0.heap.size vv ww kr nr
  |8=>Ia W0.heap.size (ll 9) vv ww kr nr
  |_=>True) (λll ww=>Below W0.heap.size W0 ww) ?_ ?_ ?_ ?_ ?_ ?_
 .exact A0 (yO _ _) 1
 .intro j hj ll i vv wz cT hi hS gL kz bp hz
  match j,hj with
  |1,_=>exact(Py.below (by rw[Fn (by rintro rfl;exact absurd hS (by decide))];exact hz) bp)
  |3,_|4,_=>exact(MW.below hz bp)
  |5,_=>exact(Rm.below hz bp)
  |8,_=>exact(Ia.below (by rw[Fn (by rintro rfl;exact absurd hS (by decide))];exact hz) bp)
  |0,_|2,_|6,_|7,_|9,_|10,_|11,_=>exact hz
 .intro ll i wz cT hi hS gL bp hg
  exact hg.trans (bp.mono hg.size)
 .intro i hi hS o Z a H Y ll J HL L h2 A
  have bw:=bc L eF X;have bs:=bc L eF N;have bK:=bc L eF V;have bN:=bc L eF D;have cC:=bc L al y0;have dx:=bc L al y1;have gQ:=bc L al R;have iE:=bc L al y3;have ju:=bc L al y4;have jt:=bc L al y5
  match i,hi,hS with
  |0,_,_=>exact LY Z A Y J HL (hl:=PZ ‹_› ‹_› ‹_› ‹_›)
  |1,_,_=>exact db Z A Y J HL (CC.out _ L) (by rintro r w_ ⟨m',i',e',c',rfl,hO,a0⟩;exact⟨_,rfl,(.inr ⟨m',i',e',c',rfl,hO.lower L.size⟩),a0⟩)
  |2,_,_=>exact LY Z A Y J HL (hl:=dI ‹_› ‹_› ‹_› ‹_› ‹_› ‹_›)
  |10,_,_|11,_,_=>exact WP Z A Y J HL
  |3,_,hs|9,_,hs=>cases hs
  |4,_,_=>clear bw bs bK bN cC dx gQ iE ju jt;obtain rfl:=yQ Z;have d3:MW W0.heap.size (a.tmps[14]?.getD undef) H kr vr nr:=Dc J HL 3;have u3:ll 3=true:=HL.out.2.1 3 (by kernel_rfl);have u9:=Bb HL 9;clear J Y;refine yP ?_;go_simp;exact A.out _ _ d3 (yO _ _)
  |5,_,_=>clear bw bs bK bN cC dx gQ iE ju jt;obtain rfl:=yQ Z;have d4:MW W0.heap.size (a.tmps[10]?.getD undef) H kr vr nr:=Dc J HL 4;have u9:=Bb HL 9;clear J Y;obtain⟨m',i',e',c',d4,hO⟩:=d4;refine yP ?_;go_simp;exact A.out _ _ ⟨_,_,_,_,rfl,hO⟩ (yO _ _)
  |6,_,_|7,_,_=>clear bw bs bK bN cC dx gQ iE ju jt;obtain rfl:=yQ Z;have d4:MW W0.heap.size (a.tmps[10]?.getD undef) H kr vr nr:=Dc J HL 4;clear J Y;obtain⟨m',i',e',c',d4,hO⟩:=d4;refine yP ?_;go_simp;exact A.out _ _ rfl (yO _ _)
  |8,_,_=>clear bw bs bK bN cC dx gQ iE ju jt;obtain rfl:=yQ Z;have u9:=Bb HL 9;clear J Y;refine yP ?_;go_simp;exact A.out _ _ ⟨_,rfl,L.size,by rw[Fn (by decide),u9];exact yw _ _⟩ (AJ _ _)
 .intro i hi hS o Z a H Y ll J HL L h2 A
  match i,hi,hS with
  |0,_,hs|1,_,hs|2,_,hs|4,_,hs|5,_,hs|6,_,hs|7,_,hs|8,_,hs|10,_,hs|11,_,hs=>cases hs
  |3,_,_=>
   obtain rfl:=yQ Z;have d1:Py W0.heap.size (ll 3) (a.tmps[12]?.getD undef) H k:=Dc J HL 1;have d2:(a.tmps[13]?.getD undef)=.agg #[.int .i64 ck,.int .i64 ce,.int .i64 ca,.int .i64 cb,.int .i64 cc,.string nm]:=Dc J HL 2;have u9:=Bb HL 9;clear J Y
   rcases d1 with d1|⟨m',i',e',c',d1,hO⟩
   .rw[HL.out.1] at d1;cases d1
   refine yP ?_;go_simp;refine(lf.out _ _ _ _ _ _ hO L.size).mono ?_;rintro r w_ ⟨m2,i2,e2,c2,rfl,hs,nF,a0,hf⟩;exact A.out _ _ ⟨m2,i2,e2,c2,rfl,hs,nF⟩ (L.trans a0) (λj dt eE dd hu=>match j,eE with
    |0,_|2,_|6,_|7,_|9,_|10,_|11,_=>hu
    |1,_=> .inl (by rw[GR])
    |3,_=>absurd rfl dt
    |4,_=>absurd (HL.out.2.2 4 3 (dd) (by kernel_rfl)) (by rw[HL.out.1];decide)
    |5,_=>absurd (HL.out.2.2 4 3 (HL.out.2.2 5 4 (dd) (by kernel_rfl)) (by kernel_rfl)) (by rw[HL.out.1];decide)
    |8,_=>by
     change Ia _ (ll 9) _ _ _ _ at hu
     rw[u9] at hu
     show Ia _ (Gn ll 3 9) _ _ _ _
     rw[Fn (by decide),u9];exact Ia.stay hu hf)
  |9,_,_=>
   obtain rfl:=yQ Z;have d8:Ia W0.heap.size (ll 9) (a.tmps[7]?.getD undef) H kr nr:=Dc J HL 8;have d5:Rm W0.heap.size (a.tmps[15]?.getD undef) H kr nr:=Dc J HL 5;have u3:ll 3=true:=HL.out.2.1 3 (by kernel_rfl);clear J Y;obtain⟨qb,hA,h9,eC⟩:=d8;rw[HL.out.1] at eC;replace eC:H.heap[qb]?=some (.cells #[.slice none 0 0,.slice none 0 0,.slice none 0 0,.slice none 0 0] 28 (0,0)):=eC;obtain⟨m',i',e',c',d5,hO⟩:=d5;obtain⟨va,vn,vc,wa,wn,wc,xa,xn,xc,ya,yn,yc,rfl,rfl,rfl,rfl⟩:=hO.1;obtain⟨c0,kM,c2,c3⟩:=AE eC;have fq:=AK eC;have az:=AA (Aq H qb (.slice va vn vc) (.slice wa wn wc) (.slice xa xn xc) (.slice ya yn yc));have ph:=AA hA;have Hq:=AA eC;have HO:=AA hO;clear eC hO;refine yP ?_;go_simp;exact A.out undef _ trivial (AM L az.out h9 L.size) (λj dt eE dd hu=>match j,eE with
    |0,_|2,_|6,_|7,_|10,_|11,_=>hu
    |1,_=>by
     show Py _ (Gn ll 9 3) _ _ _
     rw[Fn (by decide)];exact Py.yW hu az.out Hq.out
    |3,_|4,_=>MW.yW hu az.out Hq.out
    |5,_=>Rm.yW hu az.out Hq.out
    |8,_=>⟨qb,ph.out,h9,by rw[GR];exact⟨_,_,_,_,Cw Hq.out,HO.out.yW az.out Hq.out⟩⟩
    |9,_=>absurd rfl dt)
 .intro E H ll cr hR L
  have q8:Ia W0.heap.size (ll 9) (E 8) H kr nr:=Bg hR 8;have dv:(E 10)=.int .i64 vr:=Bg hR 10;have eV:(E 11)=.int .i64 nr:=Bg hR 11;clear hR;simp only[DQ,Bk,yN,yJ,yK,yI,dv,eV];simp;generalize E 8=z8 at q8 ⊢;clear dv eV;obtain⟨qb,rfl,h9,eC⟩:=q8;rw[cr 9 (by decide),if_pos rfl] at eC;obtain⟨m',i',e',c',gD,hO⟩:=eC;clear cr X N V D y0 y1 R y3 y4 y5;obtain⟨va,vn,vc,wa,wn,wc,xa,xn,xc,ya,yn,yc,rfl,rfl,rfl,rfl⟩:=hO.1;obtain⟨c0,kM,c2,c3⟩:=AE gD;have lj:=AB HB.out.1 L;have eZ:=AB HB.out.2 L;have iy:=AA (bL.out.trans (L.mono bL.out.size))
  by_cases h0:nr=0
  focus
   subst h0
   have hK:=hO.2 rfl;have bt:=AK eZ;obtain⟨z0,z1,z2,z3⟩:=AE eZ;obtain⟨E0,E1,E2,E3⟩:=J0 (m':=.slice va vn vc) (i':=.slice wa wn wc) (e':=.slice xa xn xc) (c':=.slice ya yn yc) eZ;have HE:=AA (yk E0 (yk E1 (yk E2 E3)));have az:=Aq H (w.heap.size+1+1) (.slice va vn vc) (.slice wa wn wc) (.slice xa xn xc) (.slice ya yn yc);have jN:=AA (show Dh w.heap.size _ (.slice va vn vc) (.slice wa wn wc) (.slice xa xn xc) (.slice ya yn yc) kr from(hK.yW az eZ).lower bL.out.size);have fP:=AA (AM iy.out az (by omega) iy.out.size);clear E0 E1 E2 E3 hO hK az lj eZ HN L gD
  rotate_left
  focus
   have t0:(nr !=0)=true:=by simp[h0]
   have hN:=HN.out h0;simp only[Prod.mk.injEq,and_true] at hN;obtain⟨rfl,rfl⟩:=hN;obtain⟨X,N,V,D⟩:=AE lj;have pi:=CC.out H L;clear hO gD c0 kM c2 c3;go_wp2_with fail;refine pi.mono ?_;rintro r w4 ⟨m4,i4,e4,c4,rfl,O4,b4⟩;have B4:=AB eZ b4;have bt:=AK B4;obtain⟨z0,z1,z2,z3⟩:=AE B4;obtain⟨E0,E1,E2,E3⟩:=J0 (m':=m4) (i':=i4) (e':=e4) (c':=c4) B4;have HE:=AA (yk E0 (yk E1 (yk E2 E3)));have az:=Aq w4 (w.heap.size+1+1) m4 i4 e4 c4;have jN:=AA (show Dh w.heap.size _ m4 i4 e4 c4 kr from(O4.yW az B4).lower iy.out.size);have fP:=AA (AM (iy.out.trans (b4.mono iy.out.size)) az (by omega) (by have:=iy.out.size;have:=b4.size;omega));obtain⟨⟨_,_,_,rfl⟩,⟨_,_,_,rfl⟩,⟨_,_,_,rfl⟩,⟨_,_,_,rfl⟩⟩:=O4.Ex;clear E0 E1 E2 E3 O4 b4 B4 az lj eZ X N V D L
  rotate_left
  all_goals
   go_wp2_with fail;exact yC (v:=.tuple #[.agg #[_,_,_,_],_,_]) (by simp[results,Tryz.results55,go_sem,HE.out]) rfl ⟨_,_,_,_,rfl,jN.out,fP.out⟩
def Kq(w:World)(res:Mq)(r:Ending)(w':World):Prop:=∃m i e c,r=.returned (.tuple #[.agg #[m,i,e,c],.int .i64 res.2.1,.bool (res.2.2==0)])/\Dh w.heap.size w' m i e c res.1/\Below w.heap.size w w'
theorem Fs{m i e c:Value}{k:AN}{w:World}(h:Le w m i e c k)(hk:DP k)(kind a b x:Int)(hx:x<=9223372036854775807):
 Calls prog 138 #[.agg #[m,i,e,c],.int .i64 kind,.int .i64 a,.int .i64 b,.int .i64 x] w (Kq w (Ae k (Ai kind a b x))):=by
 obtain⟨N0,N1,al,ds⟩:=Ki w (.cells #[m,i,e,c] 28) (.cells #[.slice none 0 0,.slice none 0 0,.slice none 0 0,.slice none 0 0] 28);have C:=Lp (h.below al) hk (Ai kind a b x) ⟨Int.le_refl 0,show(0:Int)<3 by decide⟩ (show gA.size<=maxLen by decide) hx;simp only[AU.cs,Ai,gA] at C ⊢;generalize Ae k ⟨kind,0,a,b,x,⟨#[97]⟩⟩=res at C ⊢;obtain⟨kr,vr,nr⟩:=res;have C:=AA C;clear h hk hx;obtain⟨X,N,V,D⟩:=AE N0;go_in;go_wp2_with fail;generalize(w.alloc _).alloc _=W0 at*;refine C.out.mono ?_;rintro r w1 ⟨m1,i1,e1,c1,rfl,O1,b1⟩;obtain⟨⟨ma,mn,mc,rfl⟩,⟨ia,iN,ic,rfl⟩,⟨ea,en,ec,rfl⟩,⟨qa,qn,qc,rfl⟩⟩:=O1.Ex;obtain⟨N2,b2⟩:=EH w1 (.cells #[.slice ma mn mc,.slice ia iN ic,.slice ea en ec,.slice qa qn qc] 28);have eZ:=AB (AB N1 b1) b2;have O2:=O1.below b2;have HW:=AA (al.trans ((b1.trans (b2.mono b1.size)).mono al.size));have bt:=AK eZ;obtain⟨z0,z1,z2,z3⟩:=AE eZ;obtain⟨p0,p1,p2,p3⟩:=AE N2;obtain⟨E0,E1,E2,E3⟩:=J0 (m':=.slice ma mn mc) (i':=.slice ia iN ic) (e':=.slice ea en ec) (c':=.slice qa qn qc) eZ;have HE:=AA (yk E0 (yk E1 (yk E2 E3)));have az:=Aq (w1.alloc (.cells #[.slice ma mn mc,.slice ia iN ic,.slice ea en ec,.slice qa qn qc] 28)) (w.heap.size+1) (.slice ma mn mc) (.slice ia iN ic) (.slice ea en ec) (.slice qa qn qc);have jN:=AA (show Dh w.heap.size _ (.slice ma mn mc) (.slice ia iN ic) (.slice ea en ec) (.slice qa qn qc) kr from(O2.yW az eZ).lower al.size);have fP:=AA (AM HW.out az (by omega) HW.out.size);clear E0 E1 E2 E3 az eZ N0 N1 N2 X N V D O1 O2 b1 b2 al ds C;go_wp2_with fail;exact yC (v:=.tuple #[.agg #[_,_,_,_],_,_]) (by simp[results,Tryz.results138,go_sem,HE.out]) rfl ⟨_,_,_,_,rfl,jN.out,fP.out⟩
def PY(lo:Nat)(w:World)(m i e c:Value)(k:AN):Prop:=(∃E,AO lo 29 1 Gc w m E/\GE (AG lo w) E k.mem)/\AO lo 91 3 At w i k.Xy/\(∃ps,AO lo 66 2 Eu w e ps/\GE (λp e=>AO lo 9 1 Ay w p.1 e.Tj/\p.2=e.root) ps k.V3)/\AO lo 96 4 AX w c k.V0
def ZG(lo:Nat)(w:World)(u:Value)(r:List Int):Prop:=AG lo w u r∨(r=[]/\∃a dz,u=.slice a 0 dz/\dz<=maxLen/\(a=none->dz=0))
theorem ZG.rd{lo:Nat}{w:World}{u:Value}{r:List Int}(h:ZG lo w u r):Ax w u r:=by
 rcases h with h|⟨rfl,a,dz,rfl,h1,K⟩
 .exact AG.rd h
 .exact⟨a,dz,rfl,yu _,h1,rfl,K,λh0=>absurd h0 (Nat.lt_irrefl 0)⟩
def OH(lo:Nat)(w:World)(m i e c s l q:Value)(P:AR):Prop:=PY lo w m i e c P.Vw/\(∃E,AO lo 29 1 Gc w s E/\GE (ZG lo w) E P.swap)/\AG lo w l P.low/\AO lo 74 3 DI w q P.Xx
section
variable {lo lo':Nat} {w w':World} {m i e c s l q:Value} {k:AN} {P:AR}
theorem Dh.sf(h:Dh lo w m i e c k):PY lo w m i e c k:=by obtain⟨⟨E,h1,K,_⟩,h3,⟨ps,h4,h5,_⟩,h6⟩:=h;exact⟨⟨E,h1,K⟩,h3,⟨ps,h4,h5⟩,h6⟩
theorem Fh.sf(h:Fh lo w m i e c s l q P):OH lo w m i e c s l q P:=by
 obtain⟨E,h1,K,_⟩:=h.swp;exact⟨h.ker.sf,⟨E,h1,K.mono λ_ _ h=> .inl h⟩,h.low,h.pgs⟩
theorem PY.rd(h:PY lo w m i e c k):Le w m i e c k:=by
 obtain⟨⟨E,h1,K⟩,h3,⟨ps,h4,h5⟩,h6⟩:=h;exact⟨⟨E,h1.rd,K.mono λ_ _ h=>AG.rd h⟩,h3.rd,⟨ps,h4.rd,h5.mono λ_ _ h=>⟨h.1.rd,h.2⟩⟩,h6.rd⟩
theorem OH.rd(h:OH lo w m i e c s l q P):KR w m i e c s l q P:=by
 obtain⟨h0,⟨E,h1,K⟩,h3,h4⟩:=h;exact⟨h0.rd,⟨E,h1.rd,K.mono λ_ _ h=>h.rd⟩,h3.rd,h4.rd⟩
theorem PY.map(h:PY lo w m i e c k)(f:∀t sz n v xs,t≠28->t≠32->w.ownsRow lo t sz v n xs->w'.ownsRow lo' t sz v n xs):PY lo' w' m i e c k:=by
 obtain⟨⟨E,h1,K⟩,h3,⟨ps,h4,h5⟩,h6⟩:=h;exact⟨⟨E,f _ _ _ _ _ (by decide) (by decide) h1,K.mono λ_ _ h=>f _ _ _ _ _ (by decide) (by decide) h⟩,f _ _ _ _ _ (by decide) (by decide) h3,⟨ps,f _ _ _ _ _ (by decide) (by decide) h4,h5.mono λ_ _ h=>⟨f _ _ _ _ _ (by decide) (by decide) h.1,h.2⟩⟩,f _ _ _ _ _ (by decide) (by decide) h6⟩
theorem OH.map(h:OH lo w m i e c s l q P)(f:∀t sz n v xs,t≠28->t≠32->w.ownsRow lo t sz v n xs->w'.ownsRow lo' t sz v n xs):OH lo' w' m i e c s l q P:=by
 obtain⟨h0,⟨E,h1,K⟩,h3,h4⟩:=h;exact⟨h0.map f,⟨E,f _ _ _ _ _ (by decide) (by decide) h1,K.mono λ_ _ h=>h.imp (f _ _ _ _ _ (by decide) (by decide)) id⟩,f _ _ _ _ _ (by decide) (by decide) h3,f _ _ _ _ _ (by decide) (by decide) h4⟩
theorem GU{g:Nat}(hg:w.grownBy w' (some g))(hl:g<lo)(ar:lo'<=lo):∀t sz n v xs,t≠28->t≠32->w.ownsRow lo t sz v n xs->w'.ownsRow lo' t sz v n xs:=λ_ _ _ _ _ _ _ h=>BZ (Br h hg (λk hk=>by cases hk;exact hl)) ar
theorem Kj(O:Below w.heap.size w w')(ar:lo'<=lo):∀t sz n v xs,t≠28->t≠32->w.ownsRow lo t sz v n xs->w'.ownsRow lo' t sz v n xs:=λ_ _ _ _ _ _ _ h=>BZ (Bl h O) ar
theorem L6{b T:Nat}{cu:Array Value}(hg:w.grownBy w' (some b))(hB:w.heap[b]?=some (.cells cu T (0,0)))(hT:T=28∨T=32)(ar:lo'<=lo):∀t sz n v xs,t≠28->t≠32->w.ownsRow lo t sz v n xs->w'.ownsRow lo' t sz v n xs:=
 λ_ _ _ _ _ h1 K h=>BZ (FR h hg hB (by rcases hT with rfl|rfl;(· exact h1);(· exact K))) ar
theorem PY.Ex(h:PY lo w m i e c k):(∃a n q,m=.slice a n q)/\(∃a n q,i=.slice a n q)/\(∃a n q,e=.slice a n q)/\∃a n q,c=.slice a n q:=by obtain⟨⟨E,h1,K⟩,h3,⟨ps,h4,h5⟩,h6⟩:=h;obtain⟨_,_,rfl,_,_⟩:=h1.rd.shape;obtain⟨_,_,rfl,_,_⟩:=h3.rd.shape;obtain⟨_,_,rfl,_,_⟩:=h4.rd.shape;obtain⟨_,_,rfl,_,_⟩:=h6.rd.shape;exact⟨⟨_,_,_,rfl⟩,⟨_,_,_,rfl⟩,⟨_,_,_,rfl⟩,⟨_,_,_,rfl⟩⟩
theorem OH.Ex(h:OH lo w m i e c s l q P):((∃a n q,m=.slice a n q)/\(∃a n q,i=.slice a n q)/\(∃a n q,e=.slice a n q)/\∃a n q,c=.slice a n q)/\(∃a n q,s=.slice a n q)/\(∃a n q,l=.slice a n q)/\∃a n r,q=.slice a n r:=by obtain⟨h0,⟨E,h1,K⟩,h3,h4⟩:=h;have h5:=h0.Ex;obtain⟨_,_,rfl,_,_⟩:=h1.rd.shape;obtain⟨_,_,rfl,_,_⟩:=h3.rd.shape;obtain⟨_,_,rfl,_,_⟩:=h4.rd.shape;exact⟨h5,⟨_,_,_,rfl⟩,⟨_,_,_,rfl⟩,⟨_,_,_,rfl⟩⟩
end
theorem MP(f:Int)(w:World)(h0:0<=f)(h1:f<=11):Calls prog 93 #[.int .i64 f,.bool true] w λe w'=>e=.returned (.int .i64 (Iy f))/\Below w.heap.size w w':=by unfold Iy;go_in;go_wp2_with fail;go_ret;exact⟨rfl,yO _ _⟩
def GB(W:World)(q:Nat)(k:AN)(t:Bool)(ww:World):Prop:=match t with
 |false=>Below W.heap.size W ww
 |true=>∃wz m i e c,Below W.heap.size W wz/\Dh W.heap.size wz m i e c k/\Below wz.heap.size (FV wz q m i e c) ww
theorem GB.grow{W:World}{q:Nat}{k:AN}{cT:World}(h:GB W q k t ww)(O:Below ww.heap.size ww cT):GB W q k t cT:=by
 cases t
 .exact Below.trans h (O.mono (Below.size h))
 .obtain⟨wz,m,i,e,c,h1,h3,K⟩:=h
  exact⟨wz,m,i,e,c,h1,h3,K.trans (O.mono (by have:=K.size;simpa[FV] using this))⟩
theorem GB.cell{W:World}{q:Nat}{k:AN}(h:GB W q k t ww)(ht:t=false){g o:Nat}{v:Value}(hg:g<W.heap.size)(hc:W.cell? ⟨g,o,none⟩=some v):ww.cell? ⟨g,o,none⟩=some v:=by subst ht;exact(uu (p:=⟨g,o,none⟩) h hg).trans hc
theorem GB.other{W:World}{q:Nat}{k:AN}(h:GB W q k t ww){g o:Nat}{v:Value}(hg:g<W.heap.size)(eN:g≠q)(hc:W.cell? ⟨g,o,none⟩=some v):ww.cell? ⟨g,o,none⟩=some v:=by
 cases t
 .exact(uu (p:=⟨g,o,none⟩) h hg).trans hc
 .obtain⟨wz,m,i,e,c,h1,_,K⟩:=h
  have hz:g<wz.heap.size:=yv hg h1.size;exact(uu (p:=⟨g,o,none⟩) K (by simpa[FV] using hz)).trans ((Hh (o:=o) (Aq wz q m i e c) hz (λe=>eN (yQ e).symm)).trans ((h1.cell (p:=⟨g,o,none⟩) hg).trans hc))
def FB(lo:Nat)(v:Value)(w:World)(k:AN)(x:Int)(b:Bool):Prop:=∃m i e c,v=.tuple #[.agg #[m,i,e,c],.int .i64 x,.bool b]/\Dh lo w m i e c k
theorem FB.below{lo:Nat}{w w':World}{k:AN}{b:Bool}(h:FB lo v w k x b)(O:Below w.heap.size w w'):FB lo v w' k x b:=by obtain⟨m,i,e,c,h1,K⟩:=h;exact⟨m,i,e,c,h1,K.below O⟩
theorem FB.yW{lo g:Nat}{w w':World}{k:AN}{b:Bool}{cu:Array Value}(h:FB lo v w k x b)(hg:w.grownBy w' (some g))(hB:w.heap[g]?=some (.cells cu 28 (0,0))):FB lo v w' k x b:=by obtain⟨m,i,e,c,h1,K⟩:=h;exact⟨m,i,e,c,h1,K.yW hg hB⟩
def OQ(lo:Nat)(w:World)(v:Value):Prop:=∃E,AO lo 29 1 Gc w v E/\E.length=16/\∀u∈E,∃a dz,u=.slice a 0 dz/\dz<=maxLen/\(a=none->dz=0)
theorem OQ.of{lo:Nat}{w:World}{E:List Value}(h:Az lo w v E (yd 16 [])):OQ lo w v:=by
 have hl:E.length=16:=h.2.1.1.trans (uz ..);refine⟨E,h.1,hl,λu hu=>?_⟩;obtain⟨j,hj⟩:=List.getElem?_of_mem hu;have dd:=(yE.1 hj).1;have hr:=h.2.1.2 j u [] hj (by rw[uR,if_pos (by omega)]);obtain⟨a,dz,rfl,_,hc,_,hn,_⟩:=hr.rd;exact⟨a,dz,rfl,hc,hn⟩
theorem OQ.below{lo:Nat}{w w':World}(h:OQ lo w v)(O:Below w.heap.size w w'):OQ lo w' v:=by obtain⟨E,h1,K⟩:=h;exact⟨E,AO.below h1 O,K⟩
theorem OQ.lower{lo lo':Nat}{w:World}(h:OQ lo w v)(hl:lo'<=lo):OQ lo' w v:=by obtain⟨E,h1,K⟩:=h;exact⟨E,BZ h1 hl,K⟩
theorem OQ.yW{lo g T:Nat}{w w':World}{cu:Array Value}{fr:Nat×Nat}(h:OQ lo w v)(hg:w.grownBy w' (some g))(hB:w.heap[g]?=some (.cells cu T fr))(hT:29≠T:=by decide):OQ lo w' v:=by obtain⟨E,h1,K⟩:=h;exact⟨E,AO.yW h1 hg hB hT,K⟩
theorem OQ.grown{lo:Nat}{w w':World}{o:Option Nat}(h:OQ lo w v)(hg:w.grownBy w' o)(hT:∀b,v.ownBlock=some b->o≠some b):OQ lo w' v:=by
 obtain⟨E,h1,K⟩:=h;refine⟨E,Aw h1 hg ?_,K⟩
 rcases hv:v.ownBlock with _|b
 .exact .inl rfl
 .exact .inr (hT b hv).symm
theorem OQ.sf{lo:Nat}{w:World}(h:OQ lo w v):∃E,AO lo 29 1 Gc w v E/\GE (ZG lo w) E (yd 16 []):=by
 obtain⟨E,h1,K,h3⟩:=h;refine⟨E,h1,⟨by rw[K,uz],λi x y hx hy=>?_⟩⟩;rw[uR] at hy
 split at hy
 .cases hy
  exact .inr ⟨rfl,h3 x (yx hx)⟩
 .cases hy
theorem OQ.slice{lo:Nat}{w:World}(h:OQ lo w v):∃a n c,v=.slice a n c:=by obtain⟨E,h1,_⟩:=h;obtain⟨_,_,rfl,_,_⟩:=h1.rd.shape;exact⟨_,_,_,rfl⟩
structure KU(lo g gk q:Nat)(w:World)(l:Int)(n j:Nat)(m i e c sv lv qv:Value):Prop where
 pb:w.heap[g]?=some (.cells #[.slice none 0 0,.slice none 0 0,.slice none 0 0,.slice none 0 0,sv,lv,qv,.int .i64 0,.int .i64 l] 32 (0,0))
 kb:w.heap[q]?=some (.cells #[m,i,e,c] 28 (0,0))
 gb:∃a b c d,w.heap[gk]?=some (.cells #[a,b,c,d] 28 (0,0))
 yU:lo<=g/\lo<=gk/\lo<=q/\lo<=w.heap.size
 ker:Dh lo w m i e c (EJ n)
 swp:OQ lo w sv
 low:AG lo w lv (Ls j)
 pgs:AO lo 74 3 DI w qv (yd 16 ⟨0,0,false⟩)
section
variable {lo g gk q:Nat} {w w1:World} {l:Int} {n j:Nat} {m i e c sv lv qv:Value}
theorem KU.below(h:KU lo g gk q w l n j m i e c sv lv qv)(O:Below w.heap.size w w1):KU lo g gk q w1 l n j m i e c sv lv qv:=by obtain⟨a,b,c',d,hg⟩:=h.gb;exact⟨AB h.pb O,AB h.kb O,⟨a,b,c',d,AB hg O⟩,⟨h.yU.1,h.yU.2.1,h.yU.2.2.1,yL h.yU.2.2.2 O.size⟩,h.ker.below O,h.swp.below O,h.low.below O,h.pgs.below O⟩
theorem KU.keep(h:KU lo g gk q w l n j m i e c sv lv qv){p:Nat}{cu:Array Value}(hp:w.heap[p]?=some (.cells cu 28 (0,0)))(hg:w.grownBy w1 (some p)):
 w1.heap[g]?=some (.cells #[.slice none 0 0,.slice none 0 0,.slice none 0 0,.slice none 0 0,sv,lv,qv,.int .i64 0,.int .i64 l] 32 (0,0))/\OQ lo w1 sv/\AG lo w1 lv (Ls j)/\AO lo 74 3 DI w1 qv (yd 16 ⟨0,0,false⟩):=
 ⟨Ap h.pb hg (Bt hp h.pb),h.swp.yW hg hp,FR h.low hg hp,h.pgs.yW hg hp⟩
theorem KU.put{n':Nat}{m' i' e' c':Value}(h:KU lo g gk q w l n j m i e c sv lv qv)(O:Below w.heap.size w w1)(hb:Dh w.heap.size w1 m' i' e' c' (EJ n')):KU lo g gk q (FV w1 q m' i' e' c') l n' j m' i' e' c' sv lv qv:=by
 have h':=h.below O;have az:=Aq w1 q m' i' e' c';obtain⟨k1,k2,k3,k4⟩:=h'.keep h'.kb az;obtain⟨a,b,c2,d,hg⟩:=h'.gb;refine⟨k1,Cw h'.kb,?_,⟨h.yU.1,h.yU.2.1,h.yU.2.2.1,yL h'.yU.2.2.2 az.size⟩,(hb.yW az h'.kb).lower h.yU.2.2.2,k2,k3,k4⟩
 by_cases e:q=gk
 .subst e
  exact⟨_,_,_,_,Cw h'.kb⟩
 .exact⟨a,b,c2,d,Ap hg az e⟩
theorem KU.new{n':Nat}{m' i' e' c':Value}(h:KU lo g gk q w l n j m i e c sv lv qv)(O:Below w.heap.size w w1)(hb:Dh w.heap.size w1 m' i' e' c' (EJ n')):KU lo g gk w1.heap.size (w1.alloc (.cells #[m',i',e',c'] 28)) l n' j m' i' e' c' sv lv qv:=by have h':=(h.below O).below (AJ w1 (.cells #[m',i',e',c'] 28));exact⟨h'.pb,yw _ _,h'.gb,⟨h.yU.1,h.yU.2.1,yL h.yU.2.2.2 O.size,h'.yU.2.2.2⟩,(hb.below (AJ _ _)).lower h.yU.2.2.2,h'.swp,h'.low,h'.pgs⟩
theorem KU.back(h:KU lo g gk q w l n j m i e c sv lv qv):KU lo g gk gk (FV w gk m i e c) l n j m i e c sv lv qv:=by obtain⟨a,b,c2,d,hg⟩:=h.gb;have az:=Aq w gk m i e c;obtain⟨k1,k2,k3,k4⟩:=h.keep hg az;exact⟨k1,Cw hg,⟨_,_,_,_,Cw hg⟩,⟨h.yU.1,h.yU.2.1,h.yU.2.1,yL h.yU.2.2.2 az.size⟩,h.ker.yW az hg,k2,k3,k4⟩
theorem KU.push{B:Nat}{w4 w5:World}{o':Value}{fr:Int}(h:KU lo g gk q w l n j m i e c sv lv qv)(h2:Dh B w m i e c (EJ n))(hB:lo<=B)(hr:∀b,lv.ownBlock=some b->b<B)(b4:Below w.heap.size w w4)(q1:w5.ownsRow lo 3 1 o' (j+1) ((Ls j).map (ym .i64)++[.int .i64 fr]))(q2:w4.grownBy w5 lv.ownBlock)(dy:fr=((j+1:Nat):Int)):
 w5.heap[g]?=some (.cells #[.slice none 0 0,.slice none 0 0,.slice none 0 0,.slice none 0 0,sv,lv,qv,.int .i64 0,.int .i64 l] 32 (0,0))/\KU lo g gk q (w5.setCell ⟨g,5,none⟩ o') l n (j+1) m i e c sv o' qv:=by
 have h4:=h.below b4;have eN:=Dx h4.low h4.pb (by decide);have nv:=Dx h4.low h4.kb (by decide);obtain⟨a,b,c2,d,hg⟩:=h4.gb;have nw:=Dx h4.low hg (by decide);have gN:=(q2.block g (AW h4.pb) (λe=>eN e.symm)).trans h4.pb;have lW:=(q2.block q (AW h4.kb) (λe=>nv e.symm)).trans h4.kb;have lY:=(q2.block gk (AW hg) (λe=>nw e.symm)).trans hg;have gr:=Ak w5 g 5 o';have S6:=(h4.swp.grown q2 (λb O he=>by obtain⟨E,o1,_⟩:=h4.swp;obtain⟨pT,g4⟩:=A9 o1 b O;obtain⟨pS,gK⟩:=A9 h4.low b he;rw[g4] at gK;simp at gK)).yW gr gN
 have j7:AG lo w5 o' (Ls (j+1)):=by rw[Wm,<-dy];simpa[AG,Su] using q1
 refine⟨gN,⟨?_,Ap lW gr (Bt gN lW),⟨a,b,c2,d,Ap lY gr (Bt gN lY)⟩,⟨h.yU.1,h.yU.2.1,h.yU.2.2.1,yL h4.yU.2.2.2 (yL q2.size gr.size)⟩,(((h2.below b4).past q2 hr).lower hB).yW gr gN,S6,FR j7 gr gN,FR (Aw h4.pgs q2 (BJ h4.pgs h4.low (by decide)).ne) gr gN⟩⟩
 .have:=yF w5 g 5 _ _ o' gN
  simpa using this
end
theorem Sv{w:World}{m i e c:Value}{n:Nat}(h:Le w m i e c (EJ n))(hn:n<=15)(kind a b x:Int)(hx:x<=9223372036854775807){v:Int}(hc:Ae (EJ n) (Ai kind a b x)=(EJ (n+1),v,0)):
 Calls prog 138 #[.agg #[m,i,e,c],.int .i64 kind,.int .i64 a,.int .i64 b,.int .i64 x] w
  (λr w'=>∃m i e c,r=.returned (.tuple #[.agg #[m,i,e,c],.int .i64 v,.bool true])/\Dh w.heap.size w' m i e c (EJ (n+1))/\Below w.heap.size w w'):=by
 have:=Fs h (Zv n hn) kind a b x hx;rw[hc] at this;exact this
def cI(w:World)(P:AR)(b:Bool)(r:Ending)(w':World):Prop:=∃m i e c s lo q,r=.returned (.tuple #[AQ m i e c s lo q P.Il P.UQ,.bool b])/\OH w.heap.size w' m i e c s lo q P/\Below w.heap.size w w'
def OJ(lo:Nat)(v:Value)(w:World)(l:Int):Prop:=∃s lv q,v=.agg #[.slice none 0 0,.slice none 0 0,.slice none 0 0,.slice none 0 0,s,lv,q,.int .i64 0,.int .i64 l]/\OQ lo w s/\AG lo w lv []/\AO lo 74 3 DI w q (yd 16 ⟨0,0,false⟩)
theorem OJ.below{lo:Nat}{w w':World}{l:Int}(h:OJ lo v w l)(O:Below w.heap.size w w'):OJ lo v w' l:=by obtain⟨s,lv,q,h1,K,h3,h4⟩:=h;exact⟨s,lv,q,h1,K.below O,h3.below O,h4.below O⟩
theorem Nr(l:Int)(w:World)(h1:1<=l)(h6:l<=6):Calls prog 82 #[.int .i64 l] w (cI w (VW l) true):=by
 obtain⟨N0,b0⟩:=EH w (.cells #[.slice none 0 0,.slice none 0 0,.slice none 0 0,.slice none 0 0,.slice none 0 0,.slice none 0 0,.slice none 0 0,.int .i64 0,.int .i64 0] 32);go_in;go_wp2_with fail;refine(Cx _ _ _ _).mono ?_;rintro e w' ⟨rfl,rfl⟩;rw[show Bh l 1 6=true from AZ.2 ⟨h1,h6⟩];have fm:=AW N0;generalize w.alloc _=W0 at*;go_wp2_with fail;have lL:=bR W0 ⟨#[97]⟩ ⟨#[98]⟩ ⟨#[99]⟩ 9 64;have bn:=((IH W0 (.cells #[.string ⟨#[97]⟩] 9) (.cells #[.string ⟨#[98]⟩] 9)).trans ((AJ _ (.cells #[.string ⟨#[99]⟩] 9)).mono (IH W0 _ _).size));replace bn:=bn.trans ((AJ _ (.cells #[.slice (some ⟨W0.heap.size,0,none⟩) 1 1,.slice (some ⟨W0.heap.size+1,0,none⟩) 1 1,.slice (some ⟨W0.heap.size+1+1,0,none⟩) 1 1] 64)).mono bn.size);generalize(((W0.alloc _).alloc _).alloc _).alloc _=w5 at*;refine(Ld _ Nh w5 lL rfl Qf SI).mono ?_;rintro e w6 ⟨mk,ik,ek,ck,rfl,O6,b6⟩;rw[VV] at O6;obtain⟨⟨ma,mn,mc,rfl⟩,⟨ia,iN,ic,rfl⟩,⟨ea,en,ec,rfl⟩,⟨qa,qn,qc,rfl⟩⟩:=O6.Ex;obtain⟨N7,b7⟩:=EH w6 (.cells #[.slice ma mn mc,.slice ia iN ic,.slice ea en ec,.slice qa qn qc] 28);have O7:=(O6.below b7).lower bn.size;have B7:=bn.trans ((b6.trans (b7.mono b6.size)).mono bn.size);have gY:W0.heap.size<=w6.heap.size:=yL bn.size b6.size;go_wp2_with fail;generalize w6.heap.size=gk at N7 gY ⊢;generalize w6.alloc _=W7 at*;have HO:=AA O7;have HB:=AA B7;have HN:=AA N0;have kW:=AA N7;have Y:=AA b0;clear lL bn O6 b6 b7 N7 O7 B7 N0 b0;refine A5 6 87 [.z,.z,.z,.i l,.z,.z] (λix vv ww=>match ix with
  |0=>OQ W7.heap.size ww vv
  |1=>AG W7.heap.size ww vv []
  |2=>AO W7.heap.size 74 3 DI ww vv (yd 16 ⟨0,0,false⟩)
  |4=>OJ W7.heap.size vv ww l
  |5=>MH W7.heap.size vv ww
  |_=>True) ?_ ?_ ?_
 .intro i hi o Z a H Y J L h2 A
  match i,hi with
  |0,_=>exact sC Z A Y J (Wf _) (by rintro r w_ ⟨v',E,rfl,hO,a0⟩;exact⟨_,rfl,((OQ.of hO).lower L.size),a0⟩)
  |3,_=>exact sP Z A Y J
  |1,_=>obtain rfl:=yQ Z;clear J Y;refine yP ?_;go_simp;exact A.out _ _ (BZ (FU H) L.size) (AJ _ _)
  |2,_=>obtain rfl:=yQ Z;clear J Y;obtain⟨i0,gI,gR,eM,fE⟩:=info_parts Tryz.zw;obtain⟨w9,bB,h3,h4⟩:=run_make_full (P:=prog) H H.heap.size 30 74 i0 _ 3 underlying30 gI gR eM .i64 .i64 16 (by rw[fE];decide) (by decide) (yG _);have h5:=Below.zF h4;rw[YZ] at h3;have iL:(Instr.makeSlice 30 (.int .i64 16) (.int .i64 16)).run prog H=.ok (.slice (some ⟨H.heap.size,0,none⟩) 16 16) w9:=bB;clear gI gR eM fE bB;refine yP ?_;go_simp;exact A.out _ _ (BZ h3 L.size) h5
  |4,_=>obtain rfl:=yQ Z;have d0:OQ W7.heap.size H (a.tmps[25]?.getD undef):=BY J 0;have d1:AG W7.heap.size H (a.tmps[26]?.getD undef) []:=BY J 1;have d2:AO W7.heap.size 74 3 DI H (a.tmps[27]?.getD undef) (yd 16 ⟨0,0,false⟩):=BY J 2;have d3:(a.tmps[28]?.getD undef)=.int .i64 l:=BY J 3;clear J Y;generalize e25:a.tmps[25]?.getD undef=s' at d0;generalize e26:a.tmps[26]?.getD undef=l' at d1;generalize e27:a.tmps[27]?.getD undef=q' at d2;have D0:=AA d0;have D1:=AA d1;have D2:=AA d2;obtain⟨_,_,_,rfl⟩:=d0.slice;obtain⟨_,_,rfl,_,_,_⟩:=d1.rd.open;obtain⟨_,_,rfl,_,_⟩:=d2.rd.shape;clear d0 d1 d2;refine yP ?_;go_simp;exact A.out _ _ ⟨_,_,_,rfl,D0.out,D1.out,D2.out⟩ (yO _ _)
  |5,_=>obtain rfl:=yQ Z;clear J Y;refine yP ?_;go_simp;exact A.out _ _ ⟨_,rfl,L.size,yw _ _⟩ (AJ _ _)
 .intro i hi vv wz cT bp hz
  match i,hi with
  |0,_=>exact(OQ.below hz bp)
  |1,_=>exact(AG.below hz bp)
  |2,_=>exact(AO.below hz bp)
  |4,_=>exact(OJ.below hz bp)
  |5,_=>exact(MH.below hz bp)
  |3,_=>exact hz
 .intro E H hR L
  have q4:OJ W7.heap.size (E 4) H l:=Bg hR 4;have q5:MH W7.heap.size (E 5) H:=Bg hR 5;clear hR;simp only[Aj,Ag,yN,yJ,yK,yI];simp;generalize E 4=z4 at q4 ⊢;generalize E 5=z5 at q5 ⊢;obtain⟨s',l',q',rfl,r1,r0,r2⟩:=q4;obtain⟨g,rfl,kj,gf⟩:=q5;obtain⟨sa,sn,sc,rfl⟩:=r1.slice;obtain⟨la,ln,lc,rfl⟩:∃a n c,l'=.slice a n c:=by obtain⟨_,_,rfl,_,_,_⟩:=r0.rd.open;exact⟨_,_,_,rfl⟩
  obtain⟨pa,pn,pc,rfl⟩:∃a n c,q'=.slice a n c:=by obtain⟨_,_,rfl,_,_⟩:=r2.rd.shape;exact⟨_,_,_,rfl⟩
  obtain⟨X,N,V,D,x4,x5,x6,x7,x8⟩:=AD gf;have fz:=AK gf;go_step;go_simp;have az:=F8 (w:=H) (g:=g) (b0:=.slice none 0 0) (b1:=.slice none 0 0) (b2:=.slice none 0 0) (b3:=.slice none 0 0) (b4:=.slice sa sn sc) (b5:=.slice la ln lc) (b6:=.slice pa pn pc) (b7:=.int .i64 0) (b8:=.int .i64 l);have N8:=IP (b0:=.slice none 0 0) (b1:=.slice none 0 0) (b2:=.slice none 0 0) (b3:=.slice none 0 0) (b4:=.slice sa sn sc) (b5:=.slice la ln lc) (b6:=.slice pa pn pc) (b7:=.int .i64 0) (b8:=.int .i64 l) gf;have K8:=Ap (AB kW.out L) az (Bt gf (AB kW.out L));have I8:KU W0.heap.size g gk gk _ l 0 0 _ _ _ _ _ _ _:=⟨N8,K8,⟨_,_,_,_,K8⟩,⟨yL HB.out.size kj,gY,gY,yL HB.out.size (yL L.size az.size)⟩,(HO.out.below L).yW az gf,(r1.lower HB.out.size).yW az gf,FR (BZ r0 HB.out.size) az gf,AO.yW (BZ r2 HB.out.size) az gf⟩;have B8:=AM (HB.out.trans (L.mono HB.out.size)) az (yL HB.out.size kj) (yL HB.out.size L.size);clear r0 r1 r2 N8 K8 az X N V D x4 x5 x6 x7 x8 fz gf kj L HO HB kW;unfold Fd at I8 B8;generalize((((((((H.setCell _ _).setCell _ _).setCell _ _).setCell _ _).setCell _ _).setCell _ _).setCell _ _).setCell _ _).setCell _ _=W8 at*;replace I8:=AA I8;replace B8:=AA B8;obtain⟨k0,k1,k2,k3⟩:=AE I8.out.kb;have C:=Sv (n:=0) I8.out.ker.rd (by omega) 1 0 0 0 (by decide) bM;go_wp2_with fail;refine C.mono ?_;rintro r w9 ⟨m9,i9,e9,c9,rfl,O9,b9⟩;have I9:=AA (I8.out.put b9 O9);have B9:=AA (AM (B8.out.trans (b9.mono I8.out.yU.2.2.2)) (Aq w9 gk m9 i9 e9 c9) I8.out.yU.2.1 (yL I8.out.yU.2.2.2 b9.size));have kf:=AK (I8.out.below b9).kb;obtain⟨k0,k1,k2,k3⟩:=AE (I8.out.below b9).kb;obtain⟨⟨ua,un,uc,rfl⟩,⟨va,vn,vc,rfl⟩,⟨ya,yn,yc,rfl⟩,⟨za,zn,zc,rfl⟩⟩:=O9.Ex;unfold FV at I9;generalize hW9:(((w9.setCell _ _).setCell _ _).setCell _ _).setCell _ _=W9 at I9 B9;obtain⟨n0,n1,n2,n3⟩:=AE I9.out.kb;clear O9 b9 I8 B8 C;go_wp2_with fail;clear k0 k1 k2 k3 kf;have C:=Sv (n:=1) I9.out.ker.rd (by omega) 4 0 3 0 (by decide) bI;refine C.mono ?_;rintro r eU ⟨na,nf,hA,ov,rfl,kO,ip⟩;have fx:=AA (I9.out.put ip kO);have li:=AA (AM (B9.out.trans (ip.mono I9.out.yU.2.2.2)) (Aq eU gk na nf hA ov) I9.out.yU.2.1 (yL I9.out.yU.2.2.2 ip.size));have kf:=AK (I9.out.below ip).kb;obtain⟨k0,k1,k2,k3⟩:=AE (I9.out.below ip).kb;obtain⟨⟨ua,un,uc,rfl⟩,⟨va,vn,vc,rfl⟩,⟨ya,yn,yc,rfl⟩,⟨za,zn,zc,rfl⟩⟩:=kO.Ex;unfold FV at fx;generalize hW10:(((eU.setCell _ _).setCell _ _).setCell _ _).setCell _ _=W10 at fx li;obtain⟨n0,n1,n2,n3⟩:=AE fx.out.kb;clear kO ip I9 B9 C;go_wp2_with fail;clear k0 k1 k2 k3 kf;clear n0 n1 n2 n3;have C:=Sv (n:=2) fx.out.ker.rd (by omega) 7 0 0 0 (by decide) Zw
  refine C.mono ?_;rintro r gy ⟨m8,nb,jd,ou,rfl,kN,io⟩;have jg:=AA (fx.out.put io kN);have lh:=AA (AM (li.out.trans (io.mono fx.out.yU.2.2.2)) (Aq gy gk m8 nb jd ou) fx.out.yU.2.1 (yL fx.out.yU.2.2.2 io.size));have kf:=AK (fx.out.below io).kb;obtain⟨k0,k1,k2,k3⟩:=AE (fx.out.below io).kb;obtain⟨⟨ua,un,uc,rfl⟩,⟨va,vn,vc,rfl⟩,⟨ya,yn,yc,rfl⟩,⟨za,zn,zc,rfl⟩⟩:=kN.Ex;unfold FV at jg;generalize hW11:(((gy.setCell _ _).setCell _ _).setCell _ _).setCell _ _=W11 at jg lh;obtain⟨n0,n1,n2,n3⟩:=AE jg.out.kb;clear kN io fx li C;go_wp2_with fail;clear k0 k1 k2 k3 kf;go_wp2_with fail;go_loopw [9,10,11,12] (λix _ _ _ wr=>∃k:Nat,k<=4/\ix=.int .i64 k/\∃m i e c la ln lc,KU W0.heap.size g gk gk wr l (3*k+3) k m i e c (.slice sa sn sc) (.slice la ln lc) (.slice pa pn pc)/\Below W0.heap.size W0 wr) (λix _ _ _ _=>4 - (intOf ix).toNat)
  exact⟨0,by omega,rfl,_,_,_,_,_,_,_,jg.out,lh.out⟩
  clear jg lh;obtain⟨k,hk,rfl,mv,iv,ev,cv,la,ln,lc,I0,B0⟩:=hrel;replace I0:=AA I0;replace B0:=AA B0
  by_cases a7:k<4
  .obtain⟨fr,dy⟩:∃fr:Int,fr=((k+1:Nat):Int):=⟨_,rfl⟩
   have T1:=Zx k a7;have T2:=bH k a7;have T3:=bJ k a7;rw[<-dy] at T1 T2 T3;have ih:0<=fr/\fr<=11:=by omega
   have oM:=AA dy;clear dy;have k4:(k:Int)<4:=by omega
   obtain⟨⟨ka,kn,kc,kK⟩,⟨ja,jn,jc,kJ⟩,⟨fa,fn,fc,kI⟩,⟨ra,rn,rc,kH⟩⟩:=I0.out.ker.Ex;subst kK kJ kI kH;obtain⟨k0,k1,k2,k3⟩:=AE I0.out.kb;have C:=Sv (n:=3*k+3) I0.out.ker.rd (by omega) 1 0 0 0 (by decide) T1;go_wp2_with fail;refine C.mono ?_;rintro r w1 ⟨m1,i1,e1,c1,rfl,O1,b1⟩;have I1:=AA (I0.out.new b1 O1);have B1:=AA (B0.out.trans ((b1.trans ((AJ w1 (.cells #[m1,i1,e1,c1] 28)).mono b1.size)).mono I0.out.yU.2.2.2));obtain⟨⟨ua,un,uc,rfl⟩,⟨va,vn,vc,rfl⟩,⟨ya,yn,yc,rfl⟩,⟨za,zn,zc,rfl⟩⟩:=O1.Ex;clear O1 b1 C k0 k1 k2 k3 I0 B0;obtain⟨k0,k1,k2,k3⟩:=AE I1.out.kb;go_wp2_with fail;clear k0 k1 k2 k3;obtain⟨q1,h9⟩:∃q1,q1=w1.heap.size:=⟨_,rfl⟩
   rw[<-h9] at I1 ⊢;clear h9;generalize w1.alloc _=W1 at*;have C:=Sv (n:=3*k+4) I1.out.ker.rd (by omega) 4 fr 2 0 (by decide) T2;refine C.mono ?_;rintro r w2 ⟨m2,i2,e2,c2,rfl,O2,b2⟩;have I2:=AA (I1.out.put b2 O2);have B2:=AA (AM (B1.out.trans (b2.mono I1.out.yU.2.2.2)) (Aq w2 q1 m2 i2 e2 c2) I1.out.yU.2.2.1 (yL I1.out.yU.2.2.2 b2.size));have kf:=AK (I1.out.below b2).kb;obtain⟨k0,k1,k2,k3⟩:=AE (I1.out.below b2).kb;obtain⟨⟨ua,un,uc,rfl⟩,⟨va,vn,vc,rfl⟩,⟨ya,yn,yc,rfl⟩,⟨za,zn,zc,rfl⟩⟩:=O2.Ex;unfold FV at I2;generalize hW2:(((w2.setCell _ _).setCell _ _).setCell _ _).setCell _ _=W2 at I2 B2;obtain⟨n0,n1,n2,n3⟩:=AE I2.out.kb;clear O2 b2 I1 B1 C;go_wp2_with fail;clear k0 k1 k2 k3 kf;have gD:=I2.out.kb;have h8:=AW gD;have he:Iy fr<=9223372036854775807:=by unfold Iy;omega
   have CP:=AA (λW=>MP fr W ih.1 ih.2);generalize Iy fr=en_ at T3 he CP;have RK:=I2.out.ker.rd;have CM:=AA (λW (hW:Below W2.heap.size W2 W)=>Sv (n:=3*k+5) (RK.below hW) (by omega) 6 0 (k:Int) en_ he T3);clear T1 T2 T3 RK;refine Dn 11 87 (λix=>ix==10) [.a #[.slice ua un uc,.slice va vn vc,.slice ya yn yc,.slice za zn zc],.i 0,.i ((k:Int)),.i fr,.i en_,.z,.z,.z,.i 0,.b true,.z] (λll ix vv ww=>match ix with
    |5|6=>FB W2.heap.size vv ww (EJ (3*k+6)) 0 true
    |7=>IW W2.heap.size vv ww (EJ (3*k+6))
    |_=>True) (λll ww=>GB W2 (q1) (EJ (3*k+6)) (ll 10) ww) ?_ ?_ ?_ ?_ ?_ ?_
   .exact A0 (yO _ _) 1
   .intro j hj ll i vv wz cT hi hS gL kz bp hz
    match j,hj with
    |5,_|6,_=>exact(FB.below hz bp)
    |7,_=>exact(IW.below hz bp)
    |0,_|1,_|2,_|3,_|4,_|8,_|9,_|10,_=>exact hz
   .intro ll i wz cT hi hS gL bp hg
    show GB _ _ _ (Gn ll i 10) _
    rw[Fn (by rintro rfl;cases hS)];exact GB.grow hg bp
   .intro i hi hS o Z a H Y ll J HL L h2 A
    match i,hi,hS with
    |0,_,_=>have jq:=Bb HL 10;have bw:=(show H.cell? ⟨q1,0,none⟩=some (.slice ua un uc) from GB.cell L (by cases hx:ll 10 with|false=>rfl|true=>exact absurd (HL.out.2.2 5 0 (HL.out.2.2 6 5 (HL.out.2.2 7 6 (HL.out.2.2 10 7 (hx) (by kernel_rfl)) (by kernel_rfl)) (by kernel_rfl)) (by kernel_rfl)) (by rw[HL.out.1];decide)) h8 n0);have bs:=(show H.cell? ⟨q1,1,none⟩=some (.slice va vn vc) from GB.cell L (by cases hx:ll 10 with|false=>rfl|true=>exact absurd (HL.out.2.2 5 0 (HL.out.2.2 6 5 (HL.out.2.2 7 6 (HL.out.2.2 10 7 (hx) (by kernel_rfl)) (by kernel_rfl)) (by kernel_rfl)) (by kernel_rfl)) (by rw[HL.out.1];decide)) h8 n1);have bK:=(show H.cell? ⟨q1,2,none⟩=some (.slice ya yn yc) from GB.cell L (by cases hx:ll 10 with|false=>rfl|true=>exact absurd (HL.out.2.2 5 0 (HL.out.2.2 6 5 (HL.out.2.2 7 6 (HL.out.2.2 10 7 (hx) (by kernel_rfl)) (by kernel_rfl)) (by kernel_rfl)) (by kernel_rfl)) (by rw[HL.out.1];decide)) h8 n2);have bN:=(show H.cell? ⟨q1,3,none⟩=some (.slice za zn zc) from GB.cell L (by cases hx:ll 10 with|false=>rfl|true=>exact absurd (HL.out.2.2 5 0 (HL.out.2.2 6 5 (HL.out.2.2 7 6 (HL.out.2.2 10 7 (hx) (by kernel_rfl)) (by kernel_rfl)) (by kernel_rfl)) (by kernel_rfl)) (by rw[HL.out.1];decide)) h8 n3);exact LY Z A Y J HL (hl:=PZ ‹_› ‹_› ‹_› ‹_›)
    |1,_,_|2,_,_|3,_,_=>exact WP Z A Y J HL
    |10,_,hs=>cases hs
    |4,_,_=>obtain rfl:=yQ Z;have d3:(a.tmps[71]?.getD undef)=.int .i64 fr:=Dc J HL 3;have jq:=Bb HL 10;clear J Y;refine yP ?_;go_simp;refine(CP.out _).mono ?_;rintro r w_ ⟨rfl,a0⟩;exact A.out _ _ rfl a0
    |5,_,_=>
     obtain rfl:=yQ Z;have d0:(a.tmps[68]?.getD undef)=.agg #[.slice ua un uc,.slice va vn vc,.slice ya yn yc,.slice za zn zc]:=Dc J HL 0;have d1:(a.tmps[69]?.getD undef)=.int .i64 0:=Dc J HL 1;have d2:(a.tmps[70]?.getD undef)=.int .i64 k:=Dc J HL 2;have d4:(a.tmps[72]?.getD undef)=.int .i64 en_:=Dc J HL 4;have jq:=Bb HL 10;clear J Y;refine yP ?_;go_simp;have lX:Below W2.heap.size W2 H:=by
      rw[show ll 10=false from(by cases hx:ll 10 with|false=>rfl|true=>exact absurd (HL.out.2.2 6 5 (HL.out.2.2 7 6 (HL.out.2.2 10 7 (hx) (by kernel_rfl)) (by kernel_rfl)) (by kernel_rfl)) (by rw[HL.out.1];decide))] at L;exact L
     refine(CM.out _ lX).mono ?_;rintro r w_ ⟨m',i',e',c',rfl,hO,a0⟩;exact A.out _ _ ⟨m',i',e',c',rfl,hO.lower lX.size⟩ a0
    |6,_,_=>obtain rfl:=yQ Z;have d5:FB W2.heap.size (a.tmps[73]?.getD undef) H (EJ (3*k+6)) 0 true:=Dc J HL 5;have jq:=Bb HL 10;clear J Y;refine yP ?_;go_simp;exact A.out _ _ d5 (yO _ _)
    |7,_,_=>obtain rfl:=yQ Z;have d6:FB W2.heap.size (a.tmps[67]?.getD undef) H (EJ (3*k+6)) 0 true:=Dc J HL 6;have jq:=Bb HL 10;clear J Y;obtain⟨m',i',e',c',d6,hO⟩:=d6;refine yP ?_;go_simp;exact A.out _ _ ⟨_,_,_,_,rfl,hO⟩ (yO _ _)
    |8,_,_=>obtain rfl:=yQ Z;have d6:FB W2.heap.size (a.tmps[67]?.getD undef) H (EJ (3*k+6)) 0 true:=Dc J HL 6;clear J Y;obtain⟨m',i',e',c',d6,hO⟩:=d6;refine yP ?_;go_simp;exact A.out _ _ rfl (yO _ _)
    |9,_,_=>obtain rfl:=yQ Z;have d6:FB W2.heap.size (a.tmps[67]?.getD undef) H (EJ (3*k+6)) 0 true:=Dc J HL 6;clear J Y;obtain⟨m',i',e',c',d6,hO⟩:=d6;refine yP ?_;go_simp;exact A.out _ _ rfl (yO _ _)
   .intro i hi hS o Z a H Y ll J HL L h2 A
    match i,hi,hS with
    |0,_,hs|1,_,hs|2,_,hs|3,_,hs|4,_,hs|5,_,hs|6,_,hs|7,_,hs|8,_,hs|9,_,hs=>cases hs
    |10,_,_=>
     obtain rfl:=yQ Z;have hA:a.tmps[10]?.getD undef=.pointer (some ⟨q1,0,none⟩):=eg (PV Y 10);have d7:IW W2.heap.size (a.tmps[74]?.getD undef) H (EJ (3*k+6)):=Dc J HL 7;clear J Y;rw[HL.out.1] at L;replace L:Below W2.heap.size W2 H:=L;obtain⟨m',i',e',c',d7,hO⟩:=d7;obtain⟨⟨va,vn,vc,rfl⟩,⟨wa,wn,wc,rfl⟩,⟨xa,xn,xc,rfl⟩,⟨ya,yn,yc,rfl⟩⟩:=hO.Ex;have eC:=AB gD L;obtain⟨c0,kM,c2,c3⟩:=AE eC;have fq:=AK eC;have az:=AA (Aq H (q1) (.slice va vn vc) (.slice wa wn wc) (.slice xa xn xc) (.slice ya yn yc));have Hq:=AA eC;have HO:=AA hO;clear eC hO;refine yP ?_;go_simp;exact A.out undef _ trivial (by show GB _ _ _ (Gn ll 10 10) _;rw[GR];exact⟨H,_,_,_,_,L,HO.out,yO _ _⟩) (λj dt eE dd hu=>match j,eE with
      |0,_|1,_|2,_|3,_|4,_|8,_|9,_=>hu
      |5,_|6,_=>FB.yW hu az.out Hq.out
      |7,_=>IW.yW hu az.out Hq.out
      |10,_=>absurd rfl dt)
   .intro E H ll cr hR L
    have q8:(E 8)=.int .i64 0:=Bg hR 8;clear hR;simp only[DQ,Bk,yN,yJ,yK,yI,q8];simp;clear q8;rw[cr 10 (by decide)] at L;obtain⟨wz,m3,i3,e3,c3,eM,hO,fE⟩:=L;have fT:Below (FV wz q1 m3 i3 e3 c3).heap.size (FV wz q1 m3 i3 e3 c3) H:=by simpa[FV] using fE
    have I3:=(I2.out.put eM hO).below fT;have K3:=(hO.yW (Aq wz q1 m3 i3 e3 c3) (AB gD eM)).below fT;have B3:=B2.out.trans ((AM (eM.mono I2.out.yU.2.2.2) (Aq wz q1 m3 i3 e3 c3) I2.out.yU.2.2.1 (yL I2.out.yU.2.2.2 eM.size):Below W0.heap.size W2 _).trans (fT.mono (yL I2.out.yU.2.2.2 (yL eM.size (Aq wz q1 m3 i3 e3 c3).size))));have iS:∀b,(Value.slice la ln lc).ownBlock=some b->b<W2.heap.size:=λb O=>(yB I2.out.low b O).2
    have od:=I2.out.yU.2.2.2;clear cr eM fE fT hO gD h8 n0 n1 n2 n3 CM CP;have lF:=Su k;have HP:=AA (λw4 w5 o' (b4:Below H.heap.size H w4) q1 (q2:w4.grownBy w5 (Value.slice la ln lc).ownBlock)=>KU.push (o':=o') (w5:=w5) I3 K3 od iS b4 q1 q2 oM.out);obtain⟨_,_,_,_,_,c5,_⟩:=AD I3.pb;have f5:=AK I3.pb;have b4:=AJ H (.cells #[.int .i64 fr] 3);have gG:(H.alloc (.cells #[.int .i64 fr] 3)).ownsRow W0.heap.size 3 1 (.slice la ln lc) k ((Ls k).map (ym .i64)):=by have:=AG.below I3.low b4;unfold AG at this;rwa [lF] at this
    have nB:ln=k:=by obtain⟨_,_,hv,_⟩:=I3.low.rd.open;simp only[xS] at hv;rw[lF] at hv;exact hv.2.1
    subst nB;have L4:=yL I3.yU.2.2.2 b4.size;have HI:=AA (yk B3 (yk b4 L4));have kh:=AA I3.yU.1;have ob:=I3.yU.2.2.2;clear I3 I2 K3 B3 B2 iS;go_wp2_with (at_builtin;go_must (refine Bm (lo:=W0.heap.size) (n:=ln) (xs:=(Ls ln).map (ym .i64)) (m:=1) (news:=[.int .i64 fr]) rfl rfl 3 (.int .i64 0) 1 8 underlying29 Tryz.zT rfl (by decide) rfl gG rfl (Rd.zN _ #[_] _ 1 1 _ (by simp) rfl (by simp[maxLen])) (by simp[xR]) (by unfold maxLen;omega) (by omega) L4 ?_;intro o' w5 jU ly mZ lx;obtain⟨oa,on,oc,rfl⟩:=Oe jU;have x0:=HP.out _ _ _ HI.out.2.1 jU ly;have f6:=AK x0.1;have c6:=yz _ _ 5 _ _ _ x0.1;have HX:=AA x0.2;have HQ:=AA lx;obtain⟨k0,k1,k2,k3⟩:=AE HX.out.kb;obtain⟨xa,xb,xc,xd,ga⟩:=HX.out.gb;obtain⟨v0,v1,v2,v3⟩:=AE ga;have pP:=AK ga;obtain⟨⟨mT,mL,mP,rfl⟩,⟨mS,mK,mO,rfl⟩,⟨mR,mJ,mN,rfl⟩,⟨mQ,mI,mM,rfl⟩⟩:=HX.out.ker.Ex;clear x0 jU ly mZ lx gG ga));have B5:=AA (AM (HI.out.1.trans ((HI.out.2.1.mono ob).trans HQ.out)) (Ak w5 g 5 (.slice oa on oc)) kh.out (yL HI.out.2.2 HQ.out.size));have I6:=HX.out.back;have B6:=AM B5.out (Aq _ gk (.slice mT mL mP) (.slice mS mK mO) (.slice mR mJ mN) (.slice mQ mI mM)) HX.out.yU.2.1 HX.out.yU.2.2.2;go_roundw;exact⟨ln+1,by omega,by go_num,_,_,_,_,_,_,_,I6,B6⟩;simp[intOf];omega
  .obtain rfl:k=4:=by omega
   obtain⟨⟨ka,kn,kc,kK⟩,⟨ja,jn,jc,kJ⟩,⟨fa,fn,fc,kI⟩,⟨ra,rn,rc,kH⟩⟩:=I0.out.ker.Ex;subst kK kJ kI kH;obtain⟨k0,k1,k2,k3⟩:=AE I0.out.kb;have gE:=I0.out.pb;have az:=Aq wr g (.slice ka kn kc) (.slice ja jn jc) (.slice fa fn fc) (.slice ra rn rc);have N1:=Iv (m':=.slice ka kn kc) (i':=.slice ja jn jc) (e':=.slice fa fn fc) (c':=.slice ra rn rc) gE;have jQ:=(B0.out.block w.heap.size fm).trans HN.out;have eA:=Ap jQ az (by have:=I0.out.yU.1;omega);obtain⟨X,N,V,D,x4,x5,x6,x7,x8⟩:=AD gE;have fz:=AK gE;obtain⟨z0,z1,z2,z3,z4,z5,z6,z7,z8⟩:=AD N1;obtain⟨y0,y1,R,y3,y4,y5,y6,y7,y8⟩:=AD eA;have fy:=AK eA;have ff:=F8 (w:=((((wr.setCell ⟨g,0,none⟩ (.slice ka kn kc)).setCell ⟨g,1,none⟩ (.slice ja jn jc)).setCell ⟨g,2,none⟩ (.slice fa fn fc)).setCell ⟨g,3,none⟩ (.slice ra rn rc))) (g:=w.heap.size) (b0:=.slice ka kn kc) (b1:=.slice ja jn jc) (b2:=.slice fa fn fc) (b3:=.slice ra rn rc) (b4:=.slice sa sn sc) (b5:=.slice la ln lc) (b6:=.slice pa pn pc) (b7:=.int .i64 0) (b8:=.int .i64 l);have NN:=IP (b0:=.slice ka kn kc) (b1:=.slice ja jn jc) (b2:=.slice fa fn fc) (b3:=.slice ra rn rc) (b4:=.slice sa sn sc) (b5:=.slice la ln lc) (b6:=.slice pa pn pc) (b7:=.int .i64 0) (b8:=.int .i64 l) eA;have RK:=(((I0.out.ker.yW az gE).yW ff eA).sf);have RS:=((I0.out.swp.yW az gE).yW ff eA).sf;have RL:AG _ _ _ _:=FR (FR I0.out.low az gE (by decide)) ff eA;have RQ:=AO.yW (AO.yW I0.out.pgs az gE (by decide)) ff eA;have RP:=AA (show OH w.heap.size _ (.slice ka kn kc) (.slice ja jn jc) (.slice fa fn fc) (.slice ra rn rc) (.slice sa sn sc) (.slice la ln lc) (.slice pa pn pc) (VW l) from OH.map (lo:=W0.heap.size) ⟨by have:=RK;rw[show 3*4+3=15 from rfl,Wq] at this;exact this,RS,RL,RQ⟩ (λ_ _ _ _ _ _ _ h=>BZ h (Nat.le_of_lt fm)));have BF:=AA (AM (AM (Y.out.trans (B0.out.mono Y.out.size)) az (by have:=I0.out.yU.1;omega) (yL (yL Y.out.size (yG _)) I0.out.yU.2.2.2)) ff (yG _) (yL (yL Y.out.size I0.out.yU.2.2.2) az.size));have HE:=AA (AD NN);clear RK RS RL RQ ff NN az N1 jQ eA gE I0 B0;rw[show((4:Nat):Int)=4 from rfl];go_wp2_with fail;obtain⟨E0,E1,E2,E3,E4,E5,E6,E7,E8⟩:=HE.out;unfold Fd at E0 E1 E2 E3 E4 E5 E6 E7 E8;exact yC (v:=.tuple #[.agg #[_,_,_,_,_,_,_,_,_],_]) (by simp[results,Tryz.results82,go_sem,E0,E1,E2,E3,E4,E5,E6,E7,E8];exact⟨rfl,rfl⟩) rfl ⟨_,_,_,_,_,_,_,rfl,RP.out,BF.out⟩
theorem UX(v:Value)(s:List (List Int))(sl:Int)(w:World)(h:Bf w v s)(hs:Ff s=true):Calls prog 113 #[v,.int .i64 sl] w λe w'=>(∃v',e=.returned (.tuple #[v',.bool (Bh sl 0 15&&!(AH s sl.toNat).isEmpty)]))/\Below w.heap.size w w':=by
 have CV:=IN v s w h;rw[hs] at CV;have Hl:=AA (Gf.1 hs).1;have oE:=AA (Gf.1 hs).2;obtain⟨ao,c,rfl,hc,_,wx⟩:=h.open;have CV:=AA CV;have HH:=AA wx;generalize hbb:(Bh sl 0 15&&!(AH s sl.toNat).isEmpty)=bb;have hJ:=AA hbb;clear h wx hs hbb;go_in;go_wp2_with fail;refine CV.out.mono ?_;rintro r w1 ⟨rfl,b1⟩;go_wp2_with fail;refine(Cx _ _ _ _).mono ?_;rintro r w2 ⟨rfl,rfl⟩;cases ed:Bh sl 0 15
 .obtain rfl:bb=false:=by rw[<-hJ.out,ed];rfl
  clear ed hJ;go_wp2_with fail;exact yC (v:=.tuple #[.slice (some ⟨w1.heap.size,0,none⟩) 0 0,.bool false]) (by simp[results,tU,go_sem]) rfl ⟨⟨_,rfl⟩,b1.trans ((AJ _ _).mono b1.size)⟩
 .have ab:=AZ.1 ed
  obtain⟨n,rfl⟩:∃n:Nat,sl=(n:Int):=⟨sl.toNat,by omega⟩
  have j4:n<16:=by omega
  have pB:(n:Int)<s.length:=by have:=Hl.out;omega
  obtain⟨b,bA,u,rfl,fH,x3,hr⟩:=(HH.out.below b1) n (by have:=Hl.out;omega);obtain⟨au,cu,rfl,_,_,_⟩:=hr.open;rw[yq,ed,wl] at hJ
  by_cases he:(AH s n).length=0
  .have t0:(((AH s n).length:Int)==0)=true:=by simp[he]
   obtain rfl:bb=false:=by rw[<-hJ.out,tS.2 (yh he)];rfl
   clear hr he ed hJ ab;go_wp2_with fail;exact yC (v:=.tuple #[.slice (some ⟨w1.heap.size,0,none⟩) 0 0,.bool false]) (by simp[results,tU,go_sem]) rfl ⟨⟨_,rfl⟩,b1.trans ((AJ _ _).mono b1.size)⟩
  .have t0:(((AH s n).length:Int)==0)=false:=beq_eq_false_iff_ne.2 (by omega)
   obtain rfl:bb=true:=by rw[<-hJ.out];cases hx:AH s n;rw[hx] at he;exact absurd rfl he;rfl
   have lK:(AH s n).length<=4:=by
    rcases oE.out n j4 with h0|h0
    .rw[h0];simp
    .exact Nat.le_of_eq (A6.1 h0).1
   have HR:=AA (Ax.below hr (AJ w1 (.cells #[] 3)));have D':=((AJ w1 (.cells #[] 3)).cell (yM _ _ x3)).trans x3;have im:=AA b1;clear he ed hr hJ ab;go_wp2_with (at_builtin;refine OE rfl rfl underlying29 rfl (FU w1) rfl HR.out (by omega) (AJ w1 (.cells #[] 3)).size ?_;intro u' w9 hu dn;have oO:=AA dn;clear hu dn);exact yC (v:=.tuple #[_,.bool true]) (by simp[results,tU,go_sem];rfl) rfl ⟨⟨_,rfl⟩,im.out.trans (((AJ w1 (.cells #[] 3)).trans oO.out).mono im.out.size)⟩
structure dC(P:AR):Prop where
 k:Cr P.Vw=true
 s:Ff P.swap=true
 ll:P.low.length=4
 lr:∀i,i<4->0<=Be P.low i/\Be P.low i<=11
 pl:P.Xx.length=16
theorem Wr(xs:List Bs):∀u∈CZ DI xs,u.oneCell'=true:=by
 intro u hu;obtain⟨s,_,hs⟩:=List.mem_flatMap.1 hu;simp[DI] at hs
 rcases hs with rfl|rfl|rfl<;>rfl
theorem Lr(mv iv ev cv sv lv qv:Value)(P:AR)(w:World)(h:KR w mv iv ev cv sv lv qv P)(hP:Ec P):
 Calls prog 40 #[AQ mv iv ev cv sv lv qv P.Il P.UQ] w (Pd w P):=by
 unfold AQ Pd;obtain⟨N0,N1,al,ds⟩:=Ki w (.cells #[mv,iv,ev,cv,sv,lv,qv,.int .i64 P.Il,.int .i64 P.UQ] 32) (.cells #[.slice none 0 0,.slice none 0 0,.slice none 0 0,.slice none 0 0,.slice none 0 0,.slice none 0 0,.slice none 0 0,.int .i64 0,.int .i64 0] 32);have HR:=AA h;have jZ:=AA (VX hP);have nC:=AA hP.zE;have iP:=AA hP.zZ;have CK:=AA (Lo mv iv ev cv P.Vw _ (h.1.below al) hP.k);obtain⟨X,N,V,D,_⟩:=AD N0;have kQ:=AA ds;clear h hP ds;go_in;go_wp2_with fail;generalize(w.alloc _).alloc _=W0 at*;refine CK.out.mono ?_;rintro r w1 ⟨m1,i1,e1,c1,rfl,O1,b1⟩;obtain⟨⟨ma,mn,mc,rfl⟩,⟨ia,iN,ic,rfl⟩,⟨ea,en,ec,rfl⟩,⟨ka,kn,kc,rfl⟩⟩:=O1.Ex;have B1:=AB N0 b1;have R1:=AB N1 b1;have f1:=AK B1;obtain⟨y0,y1,R,y3,_⟩:=AD B1;have B2:=Iv (m':=.slice ma mn mc) (i':=.slice ia iN ic) (e':=.slice ea en ec) (c':=.slice ka kn kc) B1;have G2:=Aq w1 w.heap.size (.slice ma mn mc) (.slice ia iN ic) (.slice ea en ec) (.slice ka kn kc);have b2:=AM (al.trans (b1.mono al.size)) G2 (yG _) (yL al.size b1.size);have lE:=yL al.size (yG W0.heap.size);generalize hW2:(((w1.setCell _ _).setCell _ _).setCell _ _).setCell _ _=W2 at B2 G2 b2;obtain⟨_,_,_,_,c4,_⟩:=AD B2;have gu:=AA (yk B1 R1);have jQ:=AA B2;have mx:=AA G2;have ji:=AA b2;have mw:=AA (O1.lower al.size);have oH:=AA lE;clear X N V D N0 N1 b1 O1 B1 R1 B2 G2 b2 al CK lE;go_wp2_with fail;clear y0 y1 R y3 f1 c4;refine(Mx sv P.swap W2 (HR.out.2.1.below ji.out) (by have:=jZ.out.1;omega) (λf hf=>by have h1:=jZ.out.1;have:=jZ.out.2 f (by omega);omega)).mono ?_;rintro r w3 ⟨v3,E,rfl,O3,b3⟩;obtain⟨sa,sn,sc,rfl⟩:∃a n c,v3=.slice a n c:=by obtain⟨_,_,rfl,_,_⟩:=O3.1.rd.shape;exact⟨_,_,_,rfl⟩
 have B3:=AB jQ.out b3;have f3:=AK B3;obtain⟨_,_,_,_,y4,_⟩:=AD B3;have G4:=Ak w3 w.heap.size 4 (.slice sa sn sc);have B4:=yF w3 w.heap.size 4 _ 32 (.slice sa sn sc) B3;have b4:=AM (ji.out.trans (b3.mono ji.out.size)) G4 (yG _) (yL ji.out.size b3.size);generalize hW4:w3.setCell _ _=W4 at B4 G4 b4;replace B4:W4.heap[w.heap.size]?=some (.cells #[.slice ma mn mc,.slice ia iN ic,.slice ea en ec,.slice ka kn kc,.slice sa sn sc,lv,qv,.int .i64 P.Il,.int .i64 P.UQ] 32 (0,0)):=by simpa using B4
 obtain⟨_,_,_,_,_,c5,_⟩:=AD B4;have eA:=AA B3;have fP:=AA B4;have o8:=AA G4;have jL:=AA b4;have mu:=AA O3;have hM:=AA b3;have RL:=AA (Ax.below HR.out.2.2.1 (b4.trans ((AJ W4 (.cells #[] 3)).mono b4.size)));have ot:=((AJ W4 (.cells #[] 3)).cell (yM _ _ c5)).trans c5;clear B3 B4 G4 b4 O3 b3;go_wp2_with (first|(at_builtin;refine OE rfl rfl underlying29 rfl (FU W4) rfl RL.out (by have:=nC.out;omega) (AJ W4 (.cells #[] 3)).size ?_;intro u5 w5 hu dg;obtain⟨la,iF,rfl,_⟩:=(AG.rd hu).open;have b5:=(AJ W4 (.cells #[] 3)).trans dg;have B5:=AB fP.out b5;have f5:=AK B5;obtain⟨_,_,_,_,_,y5,_⟩:=AD B5;have G6:=Ak w5 w.heap.size 5 (.slice la P.low.length iF);have B6:=yF w5 w.heap.size 5 _ 32 (.slice la P.low.length iF) B5;have b6:=AM (jL.out.trans (b5.mono jL.out.size)) G6 (yG _) (yL jL.out.size b5.size);generalize hW6:w5.setCell _ _=W6 at B6 G6 b6;replace B6:W6.heap[w.heap.size]?=some (.cells #[.slice ma mn mc,.slice ia iN ic,.slice ea en ec,.slice ka kn kc,.slice sa sn sc,.slice la P.low.length iF,qv,.int .i64 P.Il,.int .i64 P.UQ] 32 (0,0)):=(by simpa using B6);obtain⟨_,_,_,_,_,_,c6,_⟩:=AD B6;have os:=((AJ W6 (.cells #[] 74)).cell (yM _ _ c6)).trans c6;have HU:=AA hu;have pf:=AA B5;have pe:=AA B6;have o7:=AA G6;have gt:=AA b5;have iw:=AA b6;have RQ:=AA (BG.below HR.out.2.2.2 (iw.out.trans ((AJ W6 (.cells #[] 74)).mono iw.out.size)));clear hu dg b5 B5 G6 B6 b6 c5 ot y4 f3)|(at_builtin;go_must (refine Fo (cs:=DI) rfl rfl 74 (.agg #[.int .i64 0,.int .i64 0,.bool false]) 3 24 underlying30 Tryz.zw rfl (by decide) rfl (Cd DI W6 _ _) rfl RQ.out (Wr _) (by have:=iP.out;omega) (by decide) (AJ W6 (.cells #[] 74)).size ?_;intro u7 w7 hq fJ;obtain⟨pa,js,rfl,_⟩:=hq.rd.shape;have b7:=(AJ W6 (.cells #[] 74)).trans fJ;have B7:=AB pe.out b7;have f7:=AK B7;obtain⟨_,_,_,_,_,_,y6,_⟩:=AD B7;have G8:=Ak w7 w.heap.size 6 (.slice pa P.Xx.length js);have B8:=yF w7 w.heap.size 6 _ 32 (.slice pa P.Xx.length js) B7;have b8:=AM (iw.out.trans (b7.mono iw.out.size)) G8 (yG _) (yL iw.out.size b7.size);generalize hW8:w7.setCell _ _=W8 at B8 G8 b8;replace B8:W8.heap[w.heap.size]?=some (.cells #[.slice ma mn mc,.slice ia iN ic,.slice ea en ec,.slice ka kn kc,.slice sa sn sc,.slice la P.low.length iF,.slice pa P.Xx.length js,.int .i64 P.Il,.int .i64 P.UQ] 32 (0,0)):=(by simpa using B8);have kD:=AP o7.out (AP (Aa b7 _) G8);have kE:=AP o8.out (AP (Aa gt.out _) kD);have kF:=AP mx.out (AP (Aa hM.out _) kE);have R8:=Ap gu.out.2 kF (by omega);have O8:Fh w.heap.size W8 (.slice ma mn mc) (.slice ia iN ic) (.slice ea en ec) (.slice ka kn kc) (.slice sa sn sc) (.slice la P.low.length iF) (.slice pa P.Xx.length js) P:=⟨mw.out.yW kF gu.out.1,⟨E,(mu.out.yW kE eA.out).lower ji.out.size⟩,BZ (FR HU.out kD pf.out) jL.out.size,BZ (AO.yW hq G8 B7) iw.out.size,λb O jF=>(by obtain⟨us,r1⟩:=mw.out.1;have q1:=(yB r1.1 b O).2;have q2:=(yB mu.out.1 b jF).1;have q3:=mx.out.size;omega)⟩;have S9:=DK R8 O8;obtain⟨d0,d1,d2,d3,d4,d5,d6,d7,d8⟩:=AD B8;obtain⟨z0,z1,z2,z3,z4,z5,z6,z7,z8⟩:=AD R8;have f8:=AK R8;have oQ:=AA S9;have mh:=AA b8;clear hq fJ b7 B7 G8 B8 b8 kD kE kF R8 O8 S9 c6 os y5 f5)))
 obtain⟨N9,O9,oh⟩:=oQ.out;have B9:=AM mh.out oh (by omega) mh.out.size;unfold Fd at N9 O9 B9;exact yC (v:=.agg #[_,_,_,_,_,_,_,_,_]) (by simp[results,Tryz.results40,go_sem,AD N9]) rfl ⟨_,_,_,_,_,_,_,rfl,O9,B9⟩
theorem UY(v u:Value)(S:List (List Int))(r:List Int)(w:World)(h:Bf w v S)(hs:Ff S=true)(hr:Ax w u r)(j3:D8 r=true){j:Nat}(hj:Bo S=(j:Int))(nI:j<16):
 Calls prog 259 #[v,u] w λe w'=>(∃v' E,e=.returned (.tuple #[v',.int .i64 j,.bool true])/\Az w.heap.size w' v' E (S.set j r))/\Below w.heap.size w w':=by
 have C1:=VO v S w h;rw[hj] at C1;have C1:=AA C1;have C2:=AA (λW (hW:Below w.heap.size w W)=>by have:=IN v S W (h.below hW);rw[hs] at this;exact this);have C3:=AA (λW (hW:Below w.heap.size w W)=>by have:=Lq u r W (Ax.below hr hW);rw[j3] at this;exact this);have j0:=(Gf.1 hs).1;have h7:=(Gf.1 hs).2;have jx:∀f,f<S.length->(AH S f).length<=100:=λf hf=>by
  rcases h7 f (by omega) with h0|h0
  .rw[h0];simp
  .have:=(A6.1 h0).1;omega
 have C4:=AA (λW (hW:Below w.heap.size w W)=>Mx v S W (h.below hW) (by omega) jx);have HR:=AA (λW (hW:Below w.heap.size w W)=>Ax.below hr hW);have lK:r.length<=1048576:=by have:=(A6.1 j3).1;omega
 have oC:=AA j0;have lQ:¬(j:Int)<0:=by omega
 have nJ:(j:Int)<16:=by omega
 clear h hs hr j3 j0 h7 hj;go_in;go_wp2_with fail;refine C1.out.mono ?_;rintro e w1 ⟨rfl,b1⟩;go_wp2_with fail;refine(C2.out _ b1).mono ?_;rintro e w2 ⟨rfl,b2⟩;have B2:=b1.trans (b2.mono b1.size);go_wp2_with fail;refine(C3.out _ B2).mono ?_;rintro e w3 ⟨rfl,b3⟩;have B3:=B2.trans (b3.mono B2.size);clear b1 b2 b3 B2;go_wp2_with fail;refine(C4.out _ B3).mono ?_;rintro e w4 ⟨v',E,rfl,O4,b4⟩;have jw:E.length=16:=by rw[O4.2.1.1];exact oC.out
 obtain⟨gs,dz,rfl,c1,c2,q1,q2,bt⟩:=O4.1.zX (by omega);rw[jw] at O4 c1 ⊢;have B4:=B3.trans (b4.mono B3.size);have fP:=AA B4;have eA:=AA B3;have mt:=AA O4;have jJ:=AA jw;have oT:=AA (HR.out _ (B4.trans ((AJ w4 (.cells #[] 3)).mono B4.size)));clear O4 b4 B3 B4 bt jw;go_wp2_with (at_builtin;refine OE rfl rfl underlying29 rfl (FU w4) rfl oT.out lK (AJ w4 (.cells #[] 3)).size ?_;intro u5 w5 hu dg;have b5:=(AJ w4 (.cells #[] 3)).trans dg;have y2:=mt.out.set (B:=w4.heap.size) (j:=j) b5 hu (yG _) (by omega) jJ.out.symm (by have:=jJ.out;omega);have g1:w5.ownsRow w3.heap.size 29 1 (.slice (some ⟨gs,0,none⟩) 16 dz) 16 E:=(by have:=(mt.out.below b5).1;unfold AO at this;rwa [Jr,jJ.out] at this);have K1:=World.ownsRow.cellAt g1 j (by omega);rw[yH (by have:=jJ.out;omega)] at K1;have F1:=World.ownsRow.frozenAt g1 j;have oU:=AA (y2.1.lower eA.out.size);have B6:=AA (AM (fP.out.trans (b5.mono fP.out.size)) y2.2 (by have:=eA.out.size;omega) (yL fP.out.size b5.size));obtain⟨ra,rn,rc,rfl⟩:=Oe hu;have pU:(16:Int)<=dz:=(by omega);clear y2 g1 hu dg b5);exact yC (v:=.tuple #[_,_,.bool true]) (by simp[results,Tryz.results259,go_sem]) rfl ⟨⟨_,_,rfl,oU.out⟩,B6.out⟩
def FN(w w':World):Prop:=∀(b:Nat)(cu:Array Value),w.heap[b]?=some (.cells cu 32 (0,0))->w'.heap[b]?=some (.cells cu 32 (0,0))
section
variable {w w1 w2:World} {p T:Nat} {cu:Array Value}
theorem FN.refl(w:World):FN w w:=λ_ _ h=>h
theorem FN.trans(h:FN w w1)(h':FN w1 w2):FN w w2:=λb cu O=>h' b cu (h b cu O)
theorem FN.below(h:FN w w1)(O:Below w1.heap.size w1 w2):FN w w2:=λb cu hB=>AB (h b cu hB) O
theorem FN.fresh(h:FN w w1)(hg:w1.grownBy w2 (some p))(hp:w.heap.size<=p):FN w w2:=λb cu hB=>Ap (h b cu hB) hg (by have:=AW hB;omega)
theorem FN.other(h:FN w w1)(hg:w1.grownBy w2 (some p))(hB:w1.heap[p]?=some (.cells cu T (0,0)))(hT:T≠32):FN w w2:=λb c O=>Ap (h b c O) hg (Bt hB (h b c O) hT)
end
def Vo:Option Nat->Int
 |some n=>(n:Int)
 |none=> -1
def V7(lo:Nat)(w:World)(m i e c s l q:Value)(P:AR)(t:List Bs×Int×Option Nat)(r:Ending)(w':World):Prop:=
 r=.returned (.tuple #[AQ m i e c s l q t.2.1 P.UQ,.int .i64 (Vo t.2.2)])/\Fh lo w' m i e c s l q {P with Xx:=t.1,Il:=t.2.1}/\Below lo w w'/\FN w w'
theorem Rw{lo:Nat}{w:World}{sv lv qv:Value}{P:AR}(h:Fh lo w mv iv ev cv sv lv qv P)(ar:lo<=w.heap.size)(hP:Ec P):
 Calls prog 237 #[AQ mv iv ev cv sv lv qv P.Il P.UQ] w (V7 lo w mv iv ev cv sv lv qv P (Ct 32 P.Xx P.Il)):=by
 unfold AQ V7 AQ;obtain⟨N0,N1,al,ds⟩:=Ki w (.cells #[mv,iv,ev,cv,sv,lv,qv,.int .i64 P.Il,.int .i64 P.UQ] 32) (.cells #[.slice none 0 0,.slice none 0 0,.slice none 0 0,.slice none 0 0,.slice none 0 0,.slice none 0 0,.slice none 0 0,.int .i64 0,.int .i64 0] 32);have HI:=AA (⟨N0,ar,h.below al⟩:JR lo w.heap.size _ mv iv ev cv sv lv qv P);obtain⟨⟨⟨ma,mn,mc,rfl⟩,⟨ia,iN,ic,rfl⟩,⟨ea,en,ec,rfl⟩,⟨ka,kn,kc,rfl⟩⟩,⟨sa,sn,sc,rfl⟩,⟨la,ln,lc,rfl⟩,⟨pa,pn,pc,e7⟩⟩:=h.Ex;obtain⟨gq,qc,e8,nq,nA,lS,m6,_⟩:=HI.out.page (n:=0) (by rw[hP.zZ];omega);rw[hP.zZ] at e8 nq;subst e8;clear e7;have kQ:=AA ds;have oI:=AA (yL ar al.size);have eo:=AA (al.mono ar);have oR:=AA ((FN.refl w).below al);have kX:=AA N1;have iu:=AA ar;have n4:=AA hP;have hh:=hP.Il;have m5:=m6.symm;generalize hv:Ct 32 P.Xx P.Il=t;obtain⟨pg,hd,o⟩:=t;have hV:=AA hv;clear h hP ar N0 N1 al ds hv;go_in;go_wp2_with fail;generalize(w.alloc _).alloc _=W0 at*;generalize hg:w.heap.size=g at*;have Hg:=AA hg;clear hg;go_loopw [4,5] (λix _ wr=>∃k Xx Il,k<=32/\ix=.int .i64 ((32 - k:Nat):Int)/\JR lo g wr (.slice ma mn mc) (.slice ia iN ic) (.slice ea en ec) (.slice ka kn kc) (.slice sa sn sc) (.slice la ln lc) (.slice (some ⟨gq,0,none⟩) 16 qc) {P with Xx:=Xx,Il:=Il}/\wr.heap[g+1]?=some (.cells #[.slice none 0 0,.slice none 0 0,.slice none 0 0,.slice none 0 0,.slice none 0 0,.slice none 0 0,.slice none 0 0,.int .i64 0,.int .i64 0] 32 (0,0))/\Ct k Xx Il=(pg,hd,o)/\EA P.Xx Xx/\0<=Il/\Il<=15/\Below lo w wr/\FN w wr) (λix _ _=>32 - (intOf ix).toNat)
 exact⟨32,P.Xx,P.Il,yG _,rfl,HI.out,kX.out,hV.out,EA.refl _,hh.1,hh.2,eo.out,oR.out⟩
 obtain⟨k,Xx,Il,hk,rfl,hI,hN,fF,hU,h0,og,O,hst⟩:=hrel;cases k with
 |zero=>
  obtain⟨rfl,rfl,rfl⟩:Xx=pg/\Il=hd/\none=o:=by unfold Ct at fF;simpa using fF
  have HS:=AA (DK hN hI.own);obtain⟨X,N,V,D,x4,x5,x6,x7,x8⟩:=hI.cells;obtain⟨z0,z1,z2,z3,z4,z5,z6,z7,z8⟩:=AD hN;have fz:=AK hN;have Y:=AA O;have oB:=AA hst;clear hI hN O hst hU fF hk;rw[show((32 - 0:Nat):Int)=32 from rfl];go_wp2_with fail;obtain⟨N2,O2,ff⟩:=HS.out;have B2:=AM Y.out ff (by have:=Hg.out;have:=iu.out;omega) (by have:=Y.out.size;have:=Hg.out;have:=iu.out;omega);have T2:=oB.out.fresh ff (by have:=Hg.out;omega);unfold Fd at N2 O2 B2 T2;exact yC (v:=.tuple #[.agg #[_,_,_,_,_,_,_,_,_],_]) (by simp[results,rY,go_sem,Vo,AD N2]) rfl ⟨rfl,O2,B2,T2⟩
 |succ k=>
  rw[Vq] at fF;obtain⟨j,rfl⟩:∃j:Nat,Il=(j:Int):=⟨Il.toNat,by omega⟩
  rw[yq] at fF;unfold FQ at fF;have hj:j<16:=by omega
  have dt:(j:Int)<16:=by omega
  obtain⟨ix,hix⟩:∃ix:Nat,ix=32 - (k+1):=⟨_,rfl⟩
  have nM:(ix:Int)<32:=by omega
  have oJ:=AA (show 32 - k=ix+1 by omega);rw[<-hix];clear hix;have iP:Xx.length=16:=by rw[hU.len];exact n4.out.zZ
  obtain⟨_,_,_,_,_,_,_,x7,_⟩:=hI.cells;have fg:=AK hI.yV;have P1:=hI.zt (((j:Int)+1)%16);have B1:=AM O P1.2 hI.yU (by have:=O.size;have:=Hg.out;have:=iu.out;omega);have N1:=Ap hN P1.2 (by omega);have I1:=P1.1;have T1:=hst.fresh P1.2 (by have:=Hg.out;omega);clear P1 hst;generalize hW1:wr.setCell _ _=W1 at I1 B1 N1 T1;have mq:=AA T1;clear T1;obtain⟨pz,fq,p0,p1,p2⟩:=I1.pg (n:=j) (by show j<Xx.length;rw[iP];exact hj);obtain⟨c0,c1,c2,c3,c4,c5,c6,c7,c8⟩:=I1.cells;have i8:0<=((j:Int)+1)%16/\((j:Int)+1)%16<=15:=Ni (Il:=(j:Int)) h0 og;have hx:Xx[j]?=some (AC Xx j):=by unfold AC;exact BD (by omega)
  replace p0:W1.cell? ⟨gq,j*3,none⟩=some (.int .i64 (AC Xx j).w):=p0;replace p1:W1.cell? ⟨gq,j*3+1,none⟩=some (.int .i64 (AC Xx j).a):=p1;replace p2:W1.cell? ⟨gq,j*3+2,none⟩=some (.bool (AC Xx j).u):=p2;have mo:=AA (EA.trans hU (EA.one Xx j));have pL:=AA hU;generalize hpj:AC Xx j=x at fF p0 p1 p2 hx mo;obtain⟨xw,xa,xu⟩:=x;dsimp only at p0 p1 p2 fF;have HX:=AA hx;have oV:=AA iP;have jP:=AA I1;have gu:=AA B1;have HN:=AA N1;have jl:=AA i8;have HV:=AA fF;have Hk:=AA hk;clear hI hU hx fF iP O I1 B1 N1 i8 hN hpj hk
  by_cases hc:xw=1/\xu=false
  .obtain⟨rfl,rfl⟩:=hc
   have gT:=HV.out;rw[if_pos ⟨rfl,rfl⟩] at gT;simp only[Prod.mk.injEq] at gT;obtain⟨rfl,rfl,rfl⟩:=gT;clear HV hV;have HS:=AA (DK HN.out jP.out.own);obtain⟨z0,z1,z2,z3,z4,z5,z6,z7,z8⟩:=AD HN.out;have fz:=AK HN.out;go_wp2_with fail;obtain⟨N2,O2,ff⟩:=HS.out;have B2:=AM gu.out ff (by have:=Hg.out;have:=iu.out;omega) (by have:=gu.out.size;have:=Hg.out;have:=iu.out;omega);have T2:=mq.out.fresh ff (by have:=Hg.out;omega);unfold Fd at N2 O2 B2 T2;exact yC (v:=.tuple #[.agg #[_,_,_,_,_,_,_,_,_],_]) (by simp[results,rY,go_sem,Vo,AD N2]) rfl ⟨rfl,O2,B2,T2⟩
  .have gT:=HV.out
   rw[if_neg hc] at gT;have oP:=AA gT;have il:=jP.out.zA (n:=j) (x:=⟨xw,xa,xu⟩) (y:=⟨xw,xa,false⟩) (j:=2) (u:=.bool false) oV.out.symm HX.out (by decide) rfl;have B2:=AA (AM gu.out il.2.1 il.2.2 (by have:=gu.out.size;have:=Hg.out;have:=iu.out;omega));have n7:=AA (Ap HN.out il.2.1 (by obtain⟨cu,kp⟩:=A9 jP.out.own.pgs gq rfl;exact(Bt kp HN.out)));have o6:=AA il.1;obtain⟨pR,ko⟩:=A9 jP.out.own.pgs gq rfl;have T2:=AA (mq.out.other il.2.1 ko (by decide));clear il gT HV hV
   by_cases gS:xw=1
   focus
    subst gS
    obtain rfl:xu=true:=by
     cases xu
     .exact absurd ⟨rfl,rfl⟩ hc
     .rfl
    clear hc
   rotate_left
   focus
    have t1:(xw==1)=false:=by simp[gS]
    clear hc gS
   rotate_left
   all_goals
    go_wp2_with fail;go_roundw;exact⟨k,_,_,by have:=Hk.out;omega,by rw[oJ.out];go_num,o6.out,n7.out,oP.out,mo.out,jl.out.1,jl.out.2,B2.out,T2.out⟩;simp[intOf];omega
end Go.Proofs.YtaopbdankjkfpaaGreatDoor
