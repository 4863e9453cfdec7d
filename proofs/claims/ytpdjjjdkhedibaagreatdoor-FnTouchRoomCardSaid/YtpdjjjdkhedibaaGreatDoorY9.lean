/-
  Packed:11 texts.
-/
import Derived.Test.YtpdjjjdkhedibaaGreatDoorY8
import Derived.Test.YtpdjjjdkhedibaaGreatDoorY4
import Derived.Test.YtpdjjjdkhedibaaGreatDoorY6
import Derived.Test.YtpdjjjdkhedibaaGreatDoorY1
import Derived.Test.YtpdjjjdkhedibaaGreatDoorY3
import Derived.Test.YtpdjjjdkhedibaaGreatDoorY7
import Derived.Test.YtpdjjjdkhedibaaGreatDoorY5
import Derived.Deep.DeepCutAuto
set_option linter.unusedVariables false
set_option linter.unusedSimpArgs false
set_option maxHeartbeats 16000000
set_option maxRecDepth 100000
open Go Go.Proofs.YtpdjjjdkhedibaaGreatDoor
open Bool renaming and_eq_true->yp,true_and->vT
open Go.Exit renaming inBlock->xQ
open Go.Proofs.Tryz renaming results133->vj,results171->vi,results172->sS,results173->vk,results174->vh,results176->uw
open Go.RowKit.Below renaming refl->yD
open Go.World renaming block_lt_of_cell?->yA
open Go renaming bodyPost_ret->yk,cell_of_row->yi,heap_alloc_new->yv,heap_setCell_same->ym
open Int renaming toNat_natCast->yb
open List renaming all_eq_true->yd,any_eq_true->vo,countP_append->tx,countP_cons->xC,countP_le_length->vO,countP_nil->sR,foldl_cons->yy,foldl_nil->yw,length->wX,length_take->xT,mem_of_getElem?->ye,mem_range->xU,mem_singleton->xx,range->yC,take_length->xt
open List.range renaming loop->yz
open Nat renaming le_add_right->wI,le_trans->yB,lt_of_lt_of_le->xX,not_lt_zero->xP,zero_le->yh
variable {cv ev iv:Value}
namespace Go.Proofs.YtpdjjjdkhedibaaGreatDoor
open Go.Proofs.Tryz
open Go.RowKit
theorem Pd{k:AN}(hk:DJ k):k.zW.length<=4:=by have:=hk.zW;simp only[BT,yp,decide_eq_true_eq] at this;exact this.2
theorem ET.newRow{T:Nat}{cs:Array Value}{R:List Nat}{lo g b0:Nat}{w W W':World}{i e c:Value}{k:AN}{gm n eQ:Nat}(h:ET T cs R lo g b0 w W (.slice (some ⟨gm,0,none⟩) n eQ) i e c k)(hn:n=k.mem.length)(hb:Below W.heap.size W W'){v':Value}{r:List Int}(h2:AF W.heap.size W' v' r){f:Nat}(hf:f<k.mem.length):
 ET T cs R lo g b0 w (W'.setCell ⟨gm,f,none⟩ v') (.slice (some ⟨gm,0,none⟩) n eQ) i e c {k with mem:=k.mem.set f r}:=by
 have h':=h.below hb;obtain⟨vs,o1⟩:=h.yI.2.2.1;have fS:vs.length=k.mem.length:=o1.2.1.1;have S:=Au.set o1 hb h2 (Nat.le_refl _) h.lo (by omega) (show f<vs.length by omega);have ew:=o1.below hb;obtain⟨f8,hc⟩:=A6 ew.1 gm rfl;obtain⟨hB,hg,_,o2,⟨ps,o3⟩,o4⟩:=h'.yI;exact⟨⟨KP hB S.2 hc (by decide),hg,⟨_,S.1⟩,o2.yL S.2 hc,⟨ps,o3.yL S.2 hc⟩,o4.yL S.2 hc⟩,Ap h'.yK S.2 (Bp hc h'.yK h.ty.2.2.2.2),AM h'.bel S.2 (World.ownsRow.lt ew.1 gm rfl).1 h'.lo,yB h'.lo S.2.size,h.ty,h'.kf.row S.2 hc (by decide),λb hr=>⟨(h.rs b hr).1,Ap (h'.rs b hr).2 S.2 (Bp hc (h'.rs b hr).2 (by decide))⟩⟩
def Aa.cs(c:Aa):Array Value:= #[.int .i64 c.k,.int .i64 c.e,.int .i64 c.a,.int .i64 c.b,.int .i64 c.c,.string c.nm]
abbrev SC(lo n:Nat)(call:Aa)(w W:World)(m i e c:Value)(k:AN):Prop:=ET 55 call.cs [n+2] lo n (n+1) w W m i e c k
theorem SC.start{lo:Nat}{w:World}{m i e c:Value}{k:AN}(h:DP lo w m i e c k)(ay:lo<=w.heap.size)(call:Aa):
 SC lo w.heap.size call w (((w.alloc (.cells #[m,i,e,c] 28)).alloc (.cells call.cs 55)).alloc (.cells #[.slice none 0 0,.slice none 0 0,.slice none 0 0,.slice none 0 0] 28)) m i e c k:=by
 obtain⟨N0,N1,az,db⟩:=Jy w (.cells #[m,i,e,c] 28) (.cells call.cs 55);generalize(w.alloc (.cells #[m,i,e,c] 28)).alloc (.cells call.cs 55)=W at*;have br:=AE W (.cells #[.slice none 0 0,.slice none 0 0,.slice none 0 0,.slice none 0 0] 28);have N2:=yv W (.cells #[.slice none 0 0,.slice none 0 0,.slice none 0 0,.slice none 0 0] 28);have hb:=az.trans (br.mono az.size);rw[db] at N2;refine⟨⟨AC N0 br,ay,h.below hb⟩,AC N1 br,hb.mono ay,yB ay hb.size,by decide,YE.below (λ_ _ _ _=>rfl) hb,λb hr=>?_⟩;rw[xx] at hr;subst hr;exact⟨by omega,N2⟩
def bZ(m i e c:Value):Prop:=∃am nm cm ai ni ci ae ne ce ac nc cc,m=.slice am nm cm/\i=.slice ai ni ci/\e=.slice ae ne ce/\c=.slice ac nc cc
def Kr(lo:Nat)(w:World)(res:ML)(r:Ending)(w':World):Prop:=∃m i e c,r=.returned (.tuple #[.agg #[m,i,e,c],.int .i64 res.2.1,.int .i64 res.2.2])/\bZ m i e c/\(res.2.2=0->DP lo w' m i e c res.1)/\Below lo w w'/\(∀(b:Nat)(cu:Array Value),w.heap[b]?=some (.cells cu 28 (0,0))->w'.heap[b]?=w.heap[b]?)
section
variable {T:Nat} {cs:Array Value} {R:List Nat} {lo g b0 b:Nat} {w W W':World} {m i e c:Value} {k:AN}
theorem ET.ys6{v0 v1 v2 v3 v4 v5:Value}(h:ET T #[v0,v1,v2,v3,v4,v5] R lo g b0 w W m i e c k):W.cell? ⟨b0,0,none⟩=some v0/\W.cell? ⟨b0,1,none⟩=some v1/\W.cell? ⟨b0,2,none⟩=some v2/\W.cell? ⟨b0,3,none⟩=some v3/\W.cell? ⟨b0,4,none⟩=some v4/\W.cell? ⟨b0,5,none⟩=some v5:=JT h.yK
theorem ET.K(h:ET T cs R lo g b0 w W m i e c k):Ma W m i e c k:=h.yI.2.2.rd
theorem ET.zQ(h:ET T cs R lo g b0 w W m i e c k):bZ m i e c:=by obtain⟨h1,h2,h3,h4⟩:=h.K;obtain⟨am,cm,rfl,_⟩:=h1.open;obtain⟨ai,ci,rfl,_,_⟩:=h2.shape;obtain⟨ae,ce,rfl,_⟩:=h3.open;obtain⟨ac,cc,rfl,_,_⟩:=h4.shape;exact⟨_,_,_,_,_,_,_,_,_,_,_,_,rfl,rfl,rfl,rfl⟩
theorem ET.ret(h:ET T cs [b] lo w.heap.size b0 w W m i e c k)(ay:lo<=b)(fp:w.heap.size<=b){v code:Int}{res:ML}(hr:res=(k,v,code)):
 ((((W.setCell ⟨b,0,none⟩ m).setCell ⟨b,1,none⟩ i).setCell ⟨b,2,none⟩ e).setCell ⟨b,3,none⟩ c).heap[b]?=some (.cells #[m,i,e,c] 28 (0,0))/\
 Kr lo w res (.returned (.tuple #[.agg #[m,i,e,c],.int .i64 v,.int .i64 code])) ((((W.setCell ⟨b,0,none⟩ m).setCell ⟨b,1,none⟩ i).setCell ⟨b,2,none⟩ e).setCell ⟨b,3,none⟩ c):=by
 obtain⟨cU,hB⟩:=h.rs b (xx.2 rfl);subst hr;have co:=An (An (An (Aq W b 0 m) 1 i) 2 e) 3 c;obtain⟨⟨vs,o1⟩,o2,⟨ps,o3⟩,o4⟩:=h.yI.2.2;exact⟨Cs hB,m,i,e,c,rfl,h.zQ,λ_=>⟨⟨vs,o1.yL co hB⟩,o2.yL co hB,⟨ps,o3.yL co hB⟩,o4.yL co hB⟩,(((h.bel.setCell ay _).setCell ay _).setCell ay _).setCell ay _,λq cu hq=>(Ap ((h.kf q cu (by have:=AW hq;omega) hq).trans hq) (An (An (An (Aq W b 0 m) 1 i) 2 e) 3 c) (by have:=AW hq;omega)).trans hq.symm⟩
theorem ET.bad(h:ET T cs [b] lo w.heap.size b0 w W m i e c k)(ay:lo<=b)(fp:w.heap.size<=b){v code:Int}{res:ML}{k':AN}(hr:res=(k',v,code))(hc:code≠0):
 ((((W.setCell ⟨b,0,none⟩ m).setCell ⟨b,1,none⟩ i).setCell ⟨b,2,none⟩ e).setCell ⟨b,3,none⟩ c).heap[b]?=some (.cells #[m,i,e,c] 28 (0,0))/\
 Kr lo w res (.returned (.tuple #[.agg #[m,i,e,c],.int .i64 v,.int .i64 code])) ((((W.setCell ⟨b,0,none⟩ m).setCell ⟨b,1,none⟩ i).setCell ⟨b,2,none⟩ e).setCell ⟨b,3,none⟩ c):=by
 obtain⟨cU,hB⟩:=h.rs b (xx.2 rfl);subst hr;exact⟨Cs hB,m,i,e,c,rfl,h.zQ,λh=>absurd h hc,(((h.bel.setCell ay _).setCell ay _).setCell ay _).setCell ay _,λq cu hq=>(Ap ((h.kf q cu (by have:=AW hq;omega) hq).trans hq) (An (An (An (Aq W b 0 m) 1 i) 2 e) 3 c) (by have:=AW hq;omega)).trans hq.symm⟩
theorem ET.zs(h:ET T cs [b] lo g b0 w W m i e c k):(W.cell? ⟨b,0,none⟩=some (.slice none 0 0)/\W.cell? ⟨b,1,none⟩=some (.slice none 0 0)/\W.cell? ⟨b,2,none⟩=some (.slice none 0 0)/\W.cell? ⟨b,3,none⟩=some (.slice none 0 0))/\∀q,W.frozen? ⟨b,q,none⟩=false:=
 have hB:=(h.rs b (xx.2 rfl)).2
 ⟨AG hB,AK hB⟩
def bH(W:World)(lo g b:Nat)(m i e c:Value)(w:World)(res:ML)(v code:Int):Prop:=(W.cell? ⟨g,0,none⟩=some m/\W.cell? ⟨g,1,none⟩=some i/\W.cell? ⟨g,2,none⟩=some e/\W.cell? ⟨g,3,none⟩=some c)/\((W.cell? ⟨b,0,none⟩=some (.slice none 0 0)/\W.cell? ⟨b,1,none⟩=some (.slice none 0 0)/\W.cell? ⟨b,2,none⟩=some (.slice none 0 0)/\W.cell? ⟨b,3,none⟩=some (.slice none 0 0))/\∀q,W.frozen? ⟨b,q,none⟩=false)/\
 Hid (((((W.setCell ⟨b,0,none⟩ m).setCell ⟨b,1,none⟩ i).setCell ⟨b,2,none⟩ e).setCell ⟨b,3,none⟩ c).cell? ⟨b,0,none⟩=some m/\((((W.setCell ⟨b,0,none⟩ m).setCell ⟨b,1,none⟩ i).setCell ⟨b,2,none⟩ e).setCell ⟨b,3,none⟩ c).cell? ⟨b,1,none⟩=some i/\((((W.setCell ⟨b,0,none⟩ m).setCell ⟨b,1,none⟩ i).setCell ⟨b,2,none⟩ e).setCell ⟨b,3,none⟩ c).cell? ⟨b,2,none⟩=some e/\((((W.setCell ⟨b,0,none⟩ m).setCell ⟨b,1,none⟩ i).setCell ⟨b,2,none⟩ e).setCell ⟨b,3,none⟩ c).cell? ⟨b,3,none⟩=some c)/\
 Hid (Kr lo w res (.returned (.tuple #[.agg #[m,i,e,c],.int .i64 v,.int .i64 code])) ((((W.setCell ⟨b,0,none⟩ m).setCell ⟨b,1,none⟩ i).setCell ⟨b,2,none⟩ e).setCell ⟨b,3,none⟩ c))
theorem ET.fin(h:ET T cs [w.heap.size+2] lo w.heap.size b0 w W m i e c k)(ay:lo<=w.heap.size){v code:Int}{res:ML}(hr:res=(k,v,code)):bH W lo w.heap.size (w.heap.size+2) m i e c w res v code:=
 have⟨h1,h2⟩:=h.ret (yB ay (wI _ _)) (wI _ _) hr
 ⟨h.xs,h.zs,AA (AG h1),AA h2⟩
theorem ET.yH(h:ET T cs [w.heap.size+2] lo w.heap.size b0 w W m i e c k)(ay:lo<=w.heap.size){v code:Int}{res:ML}{k':AN}(hr:res=(k',v,code))(hc:code≠0):bH W lo w.heap.size (w.heap.size+2) m i e c w res v code:=
 have⟨h1,h2⟩:=h.bad (yB ay (wI _ _)) (wI _ _) hr hc
 ⟨h.xs,h.zs,AA (AG h1),AA h2⟩
end
theorem Ue{lo:Nat}{m:Value}{k:AN}{w:World}(h:DP lo w m iv ev cv k)(ay:lo<=w.heap.size)(hk:DJ k)(call:Aa)(he:0<=call.e/\call.e<3)(h2:call.k=2):
 Calls prog 172 #[.agg #[m,iv,ev,cv],.agg call.cs] w (Kr lo w (Ad k call)):=by
 have bk:=SC.start h ay call;have HP:=AA (VS (k:=k) h2);have FZ:=AA (λhz=>JW (k:=k) (c:=call) (kind:=1) hz);obtain⟨am,b7,cm,ai,ni,ci,ae,b8,ce,ac,nc,cc,rfl,rfl,rfl,rfl⟩:=bk.zQ;have S0:=AA bk;obtain⟨kk,e,a,b,c,nm⟩:=call;simp only[Aa.cs] at S0 HP FZ ⊢;have HK:=AA hk;have CF:=AA (λW (h:Ma W (.slice am b7 cm) (.slice ai ni ci) (.slice ae b8 ce) (.slice ac nc cc) k)=>KU _ _ _ _ k kk e a b c nm 1 W h hk he (.inr rfl));obtain⟨x0,x1,x2,x3⟩:=S0.out.xs;obtain⟨y0,y1,y2,y3,y4,y5⟩:=S0.out.ys6;generalize hfc:Bx k ⟨kk,e,a,b,c,nm⟩ 1=fc at*;have Hn:Hid (w.heap.size=w.heap.size):=AA rfl;clear h h2 bk hfc he hk;generalize hW0:((w.alloc _).alloc _).alloc _=W0 at*;go_in;go_wp2_with fail;refine(CF.out _ S0.out.K).mono ?_;rintro r w1 ⟨rfl,br⟩;have S1:=AA (S0.out.below br);clear x0 x1 x2 x3 y0 y1 y2 y3 y4 y5 br CF
 by_cases ef:fc=0
 .subst ef
  obtain⟨cH,dE,hm,df,_⟩:=FZ.out rfl;have ab:=Ab.1 cH;obtain⟨an,rfl⟩:∃n:Nat,a=(n:Int):=⟨a.toNat,by omega⟩
  have cr:an<12:=by omega
  have dD:(zS k.zZ an).k=1:=df (by decide);have bs:=(At HK.out).2.1;have a7:=AA (show Ad k ⟨kk,e,(an:Int),b,c,nm⟩=if(zS k.zZ an).r≠0 then(k,0,2) else({k with zZ:=k.zZ.set an AU.zero},0,0) by rw[HP.out];rfl);obtain⟨x0,x1,x2,x3⟩:=S1.out.xs;obtain⟨y0,y1,y2,y3,y4,y5⟩:=S1.out.ys6
  by_cases er:(zS k.zZ an).r=0
  focus
   have CG:=AA (λW hi=>QJ (.slice ai ni ci) k.zZ an W hi bs cr dD er)
   have a5:=AA (show Ad k ⟨kk,e,(an:Int),b,c,nm⟩=({k with zZ:=k.zZ.set an AU.zero},0,0) by rw[a7.out,if_neg (by simp[er])]);clear cH dE hm df dD er bs FZ HP a7 ab;go_wp2_with fail;refine(CG.out _ S1.out.K.2.1).mono ?_;rintro r w2 ⟨v',rfl,hO,a4⟩;clear x0 x1 x2 x3 y0 y1 y2 y3 y4 y5;have S2:=AA (S1.out.zm a4 hO);have dZ:=AK (S1.out.below a4).yI.1;have el:=(S1.out.below a4).xs.2.1;obtain⟨a9,c9,e9,_,_⟩:=hO.rd.shape;generalize wX _=n9 at e9;subst e9;clear hO a4;generalize hW9:w2.setCell _ _=W9 at S2;obtain⟨⟨x0,x1,x2,x3⟩,⟨⟨z0,z1,z2,z3⟩,bA⟩,HE,HR⟩:=S2.out.fin ay (v:=0) (code:=0) (a5.out)
  rotate_left
  focus
   have CG:=AA (λW hi=>RH (.slice ai ni ci) k.zZ an W hi bs cr dD er)
   have a5:=AA (show Ad k ⟨kk,e,(an:Int),b,c,nm⟩=(k,0,2) by rw[a7.out,if_pos er]);clear cH dE hm df dD er bs FZ HP a7 ab;go_wp2_with fail;refine(CG.out _ S1.out.K.2.1).mono ?_;rintro r w2 ⟨v',rfl,a4⟩;have S2:=AA (S1.out.below a4);clear x0 x1 x2 x3 y0 y1 y2 y3 y4 y5 a4;obtain⟨⟨x0,x1,x2,x3⟩,⟨⟨z0,z1,z2,z3⟩,bA⟩,HE,HR⟩:=S2.out.yH ay (v:=0) (code:=2) (a5.out) (by decide)
  rotate_left
  all_goals
   go_wp2_with ((try simp only[xQ,Exit.then]);with_reducible refine yk ?_ rfl HR.out;obtain⟨E0,E1,E2,E3⟩:=HE.out;simp[results,sS,go_sem,E0,E1,E2,E3])
 .have t1:(fc !=0)=true:=by simp[ef]
  have hc:=AA ef;have a5:=AA (show Ad k ⟨kk,e,a,b,c,nm⟩=(k,0,fc) by rw[HP.out,if_neg ef]);clear ef FZ HP;obtain⟨⟨x0,x1,x2,x3⟩,⟨⟨z0,z1,z2,z3⟩,bA⟩,HE,HR⟩:=S1.out.yH ay (v:=0) (code:=fc) (a5.out) (hc.out);go_wp2_with ((try simp only[xQ,Exit.then]);with_reducible refine yk ?_ rfl HR.out;obtain⟨E0,E1,E2,E3⟩:=HE.out;simp[results,sS,go_sem,E0,E1,E2,E3])
theorem Uf{lo:Nat}{m:Value}{k:AN}{w:World}(h:DP lo w m iv ev cv k)(ay:lo<=w.heap.size)(hk:DJ k)(call:Aa)(he:0<=call.e/\call.e<3)(h2:call.k=3):
 Calls prog 173 #[.agg #[m,iv,ev,cv],.agg call.cs] w (Kr lo w (Ad k call)):=by
 have bk:=SC.start h ay call;have HP:=AA (VT (k:=k) h2);have FZ:=AA (λhz=>JW (k:=k) (c:=call) (kind:=1) hz);have ca:=(At hk).1;obtain⟨gm,cf,rfl,_⟩:=ET.mems bk ca;obtain⟨am,b7,cm,ai,ni,ci,ae,b8,ce,ac,nc,cc,em,rfl,rfl,rfl⟩:=bk.zQ;clear em;have S0:=AA bk;obtain⟨kk,e,a,b,c,nm⟩:=call;simp only[Aa.cs] at S0 HP FZ ⊢;have HK:=AA hk;have CF:=AA (λW (h:Ma W (.slice (some ⟨gm,0,none⟩) 12 cf) (.slice ai ni ci) (.slice ae b8 ce) (.slice ac nc cc) k)=>KU _ _ _ _ k kk e a b c nm 1 W h hk he (.inr rfl));obtain⟨x0,x1,x2,x3⟩:=S0.out.xs;obtain⟨y0,y1,y2,y3,y4,y5⟩:=S0.out.ys6;generalize hfc:Bx k ⟨kk,e,a,b,c,nm⟩ 1=fc at*;have dt:=AA ca;clear h h2 bk hfc he hk ca;generalize hW0:((w.alloc _).alloc _).alloc _=W0 at*;go_in;go_wp2_with fail;refine(CF.out _ S0.out.K).mono ?_;rintro r w1 ⟨rfl,br⟩;have S1:=AA (S0.out.below br);clear x0 x1 x2 x3 y0 y1 y2 y3 y4 y5 br CF
 by_cases ef:fc=0
 .subst ef
  obtain⟨cH,dE,hm,df,_⟩:=FZ.out rfl;have ab:=Ab.1 cH;obtain⟨an,rfl⟩:∃n:Nat,a=(n:Int):=⟨a.toNat,by omega⟩
  have cr:an<12:=by omega
  have cQ:(an:Int)<12:=by omega
  have a7:=AA (show Ad k ⟨kk,e,(an:Int),b,c,nm⟩=if Be b 0 3=false∨EA c=false then(k,0,3) else({k with mem:=CZ k.mem an b.toNat c},0,0) by rw[HP.out];rfl);obtain⟨x0,x1,x2,x3⟩:=S1.out.xs;obtain⟨y0,y1,y2,y3,y4,y5⟩:=S1.out.ys6;clear cH dE hm df ab FZ HP;cases bx:Be b 0 3
  .have a5:=AA (show Ad k ⟨kk,e,(an:Int),b,c,nm⟩=(k,0,3) by rw[a7.out,if_pos (.inl bx)])
   have dv:=AA bx;clear bx a7;go_wp2_with fail;refine(Cv _ _ _ _).mono ?_;rintro r w2 ⟨rfl,rfl⟩;rw[dv.out];clear x0 x1 x2 x3 y0 y1 y2 y3 y4 y5;obtain⟨⟨x0,x1,x2,x3⟩,⟨⟨z0,z1,z2,z3⟩,bA⟩,HE,HR⟩:=S1.out.yH ay (v:=0) (code:=3) (a5.out) (by decide);go_wp2_with ((try simp only[xQ,Exit.then]);with_reducible refine yk ?_ rfl HR.out;obtain⟨E0,E1,E2,E3⟩:=HE.out;simp[results,vk,go_sem,E0,E1,E2,E3])
  .cases cZ:EA c
   .have a5:=AA (show Ad k ⟨kk,e,(an:Int),b,c,nm⟩=(k,0,3) by rw[a7.out,if_pos (.inr cZ)])
    have dv:=AA bx;have d5:=AA (show Be c 0 9999=false from cZ);clear bx a7 cZ;go_wp2_with fail;refine(Cv _ _ _ _).mono ?_;rintro r w2 ⟨rfl,rfl⟩;rw[dv.out];go_wp2_with fail;refine(Cv _ _ _ _).mono ?_;rintro r w2 ⟨rfl,rfl⟩;rw[d5.out];clear x0 x1 x2 x3 y0 y1 y2 y3 y4 y5;obtain⟨⟨x0,x1,x2,x3⟩,⟨⟨z0,z1,z2,z3⟩,bA⟩,HE,HR⟩:=S1.out.yH ay (v:=0) (code:=3) (a5.out) (by decide);go_wp2_with ((try simp only[xQ,Exit.then]);with_reducible refine yk ?_ rfl HR.out;obtain⟨E0,E1,E2,E3⟩:=HE.out;simp[results,vk,go_sem,E0,E1,E2,E3])
   .have a5:=AA (show Ad k ⟨kk,e,(an:Int),b,c,nm⟩=({k with mem:=CZ k.mem an b.toNat c},0,0) by rw[a7.out,if_neg (by simp[bx,cZ])])
    have bb:=Ab.1 bx;obtain⟨bn,rfl⟩:∃n:Nat,b=(n:Int):=⟨b.toNat,by omega⟩
    have cI:bn<4:=by omega
    have fx:(bn:Int)<4:=by omega
    have dv:=AA bx;have d5:=AA (show Be c 0 9999=true from cZ);obtain⟨gw,ds,D,fY,fu,_⟩:=ET.mrow S1.out dt.out cr;obtain⟨cg,bz,_,_⟩:=S1.out.lts;have eK:gm<w1.heap.size:=yA _ _ D;clear bx cZ bb a7;go_wp2_with fail;refine(Cv _ _ _ _).mono ?_;rintro r w2 ⟨rfl,rfl⟩;rw[dv.out];go_wp2_with fail;refine(Cv _ _ _ _).mono ?_;rintro r w2 ⟨rfl,rfl⟩;rw[d5.out];go_wp2_with fail;refine AY 10 40 [.p w.heap.size 0,.s gm 12 cf,.p (w.heap.size+1) 2,.i ((an:Int)),.p gm an,.s gw 4 ds,.p (w.heap.size+1) 3,.i ((bn:Int)),.p (w.heap.size+1) 4,.i c] (λ_ _ _=>True) ?_ ?_
    .intro i hi o ho a wx Hb Hd hG K HK
     have bw:=bc hG cg y2;have ck:=bc hG cg y3;have cT:=bc hG cg y4
     match i,hi with
     |0,_|2,_|6,_|8,_=>exact sP ho HK Hb Hd
     |1,_=>exact sL ho HK Hb Hd (hl:=GT (bc hG bz x0))
     |3,_|7,_|9,_=>exact sL ho HK Hb Hd (hl:=Fp ‹_›)
     |4,_=>exact sI ho HK Hb Hd (hr:=by clear Hd Hb HK;go_simp)
     |5,_=>exact sL ho HK Hb Hd (hl:=J5 (bc hG eK D))
    .intro vs wx hR hG
     have q5:(vs 5)=.slice (some ⟨gw,0,none⟩) 4 ds:=BW hR 5;have q7:(vs 7)=.int .i64 bn:=BW hR 7;have q9:(vs 9)=.int .i64 c:=BW hR 9;clear hR;simp only[Aj,Ae,yC,yz,yy,yw,q5,q7,q9];simp;clear q5 q7 q9;have S2:=AA (S1.out.below hG);obtain⟨fz,dr,D2,_,_,hC,Fr,_,_,_,hS⟩:=ET.mrow S2.out dt.out cr;have eD:=D2.symm.trans ((hG.cell (p:=⟨gm,an,none⟩) eK).trans D);cases eD;have D3:=hC bn cI;have S3:=AA (hS bn c cI);generalize hW9:wx.setCell _ _=W9 at S3;clear x0 x1 x2 x3 y0 y1 y2 y3 y4 y5 D D2 hS hG S1 hC;obtain⟨⟨x0,x1,x2,x3⟩,⟨⟨z0,z1,z2,z3⟩,bA⟩,HE,HR⟩:=S3.out.fin ay (v:=0) (code:=0) (a5.out);go_wp2_with ((try simp only[xQ,Exit.then]);with_reducible refine yk ?_ rfl HR.out;obtain⟨E0,E1,E2,E3⟩:=HE.out;simp[results,vk,go_sem,E0,E1,E2,E3])
 .have t1:(fc !=0)=true:=by simp[ef]
  have hc:=AA ef;have a5:=AA (show Ad k ⟨kk,e,a,b,c,nm⟩=(k,0,fc) by rw[HP.out,if_neg ef]);clear ef FZ HP;obtain⟨⟨x0,x1,x2,x3⟩,⟨⟨z0,z1,z2,z3⟩,bA⟩,HE,HR⟩:=S1.out.yH ay (v:=0) (code:=fc) (a5.out) (hc.out);go_wp2_with ((try simp only[xQ,Exit.then]);with_reducible refine yk ?_ rfl HR.out;obtain⟨E0,E1,E2,E3⟩:=HE.out;simp[results,vk,go_sem,E0,E1,E2,E3])
def Ex(w:World)(b:Nat)(m i e c:Value):World:=(((w.setCell ⟨b,0,none⟩ m).setCell ⟨b,1,none⟩ i).setCell ⟨b,2,none⟩ e).setCell ⟨b,3,none⟩ c
def GA(W:World)(b:Nat)(m i e c:Value)(t:Bool)(ww:World):Prop:=match t with
 |false=>Below W.heap.size W ww
 |true=>∃wz,Below W.heap.size W wz/\Below wz.heap.size (Ex wz b m i e c) ww
theorem GA.grow{W:World}{b:Nat}{m i e c:Value}{t:Bool}{ww cS:World}(h:GA W b m i e c t ww)(hb:Below ww.heap.size ww cS):GA W b m i e c t cS:=by
 cases t
 .exact Below.trans h (hb.mono (Below.size h))
 .obtain⟨wz,h1,h2⟩:=h
  exact⟨wz,h1,h2.trans (hb.mono (by have:=h2.size;simpa[Ex] using this))⟩
theorem GA.cell{W:World}{b:Nat}{m i e c:Value}{t:Bool}{ww:World}(h:GA W b m i e c t ww){g o:Nat}(hp:g<W.heap.size)(cU:g≠b):ww.cell? ⟨g,o,none⟩=W.cell? ⟨g,o,none⟩:=by
 cases t
 .exact Below.cell (p:=⟨g,o,none⟩) h hp
 .obtain⟨wz,h1,h2⟩:=h
  have hz:g<wz.heap.size:=xX hp h1.size;have co:wz.grownBy (Ex wz b m i e c) (some b):=An (An (An (Aq wz b 0 m) 1 i) 2 e) 3 c;exact(Below.cell (p:=⟨g,o,none⟩) h2 hz).trans ((F5 co hz (λe=>cU (yF e).symm)).trans (h1.cell (p:=⟨g,o,none⟩) hp))
theorem Fx{w:World}{g T:Nat}{a b c:Value}(h:w.heap[g]?=some (.cells #[a,b,c] T (0,0))):w.cell? ⟨g,0,none⟩=some a/\w.cell? ⟨g,1,none⟩=some b/\w.cell? ⟨g,2,none⟩=some c:=
 ⟨yi _ _ 0 _ _ _ h,yi _ _ 1 _ _ _ h,yi _ _ 2 _ _ _ h⟩
theorem WZ{m:List (List Int)}{root a fr:Nat}{wb:Bool}(h:Bu m root a=(0,fr,wb)):fr<12:=by
 unfold Bu at h
 split at h
 .split at h
  .next h2=>cases h;exact EP h2
  .cases h
 .cases h
theorem ET.yL{T:Nat}{cs:Array Value}{R:List Nat}{lo g b0 q:Nat}{w W W':World}{m i e c:Value}{k:AN}(h:ET T cs R lo g b0 w W m i e c k)(hT:T≠114){cu:Array Value}(hB:W.heap[q]?=some (.cells cu 114 (0,0)))(hq:lo<=q)(hg:W.grownBy W' (some q)):ET T cs R lo g b0 w W' m i e c k:=by
 obtain⟨hK,ay,⟨vs,o1⟩,o2,⟨ps,o3⟩,o4⟩:=h.yI;exact⟨⟨KP hK hg hB (by decide),ay,⟨vs,o1.yL hg hB⟩,o2.yL hg hB,⟨ps,o3.yL hg hB⟩,o4.yL hg hB⟩,Ap h.yK hg (Bp hB h.yK hT.symm),AM h.bel hg hq h.lo,yB h.lo hg.size,h.ty,h.kf.row hg hB (by decide),λb hr=>⟨(h.rs b hr).1,Ap (h.rs b hr).2 hg (Bp hB (h.rs b hr).2 (by decide))⟩⟩
theorem ET.place{T:Nat}{cs:Array Value}{R:List Nat}{lo g b0 q:Nat}{w W:World}{m i e c x y z:Value}{k:AN}(h:ET T cs R lo g b0 w W m i e c k)(hT:T≠114)(hB:W.heap[q]?=some (.cells #[x,y,z] 114 (0,0)))(hq:lo<=q)(u v t:Value):
 ET T cs R lo g b0 w (((W.setCell ⟨q,0,none⟩ u).setCell ⟨q,1,none⟩ v).setCell ⟨q,2,none⟩ t) m i e c k/\(((W.setCell ⟨q,0,none⟩ u).setCell ⟨q,1,none⟩ v).setCell ⟨q,2,none⟩ t).heap[q]?=some (.cells #[u,v,t] 114 (0,0)):=by
 refine⟨h.yL hT hB hq (An (An (Aq W q 0 u) 1 v) 2 t),?_⟩;have h1:=ym W q 0 _ 114 u hB;have h2:=ym _ q 1 _ 114 v h1;have h3:=ym _ q 2 _ 114 t h2;simpa using h3
theorem ET.place2{T:Nat}{cs:Array Value}{R:List Nat}{lo g b0 q:Nat}{w W:World}{m i e c x y z:Value}{k:AN}(h:ET T cs R lo g b0 w W m i e c k)(hT:T≠114)(hB:W.heap[q]?=some (.cells #[x,y,z] 114 (0,0)))(hq:lo<=q)(u t:Value):
 ET T cs R lo g b0 w ((W.setCell ⟨q,0,none⟩ u).setCell ⟨q,2,none⟩ t) m i e c k/\((W.setCell ⟨q,0,none⟩ u).setCell ⟨q,2,none⟩ t).heap[q]?=some (.cells #[u,y,t] 114 (0,0)):=by
 refine⟨h.yL hT hB hq (An (Aq W q 0 u) 2 t),?_⟩;have h1:=ym W q 0 _ 114 u hB;have h3:=ym _ q 2 _ 114 t h1;simpa using h3
theorem Kr.below{lo:Nat}{w W W':World}{res:ML}{r:Ending}(h:Kr lo w res r W)(ay:lo<=W.heap.size)(hb:Below W.heap.size W W'):Kr lo w res r W':=by
 obtain⟨m,i,e,c,h1,hs,h2,h3,h4⟩:=h;exact⟨m,i,e,c,h1,hs,λhc=>(h2 hc).below hb,h3.trans (hb.mono ay),λb cu hB=>(hb.block b (AW ((h4 b cu hB).trans hB))).trans (h4 b cu hB)⟩
theorem Ph(v:Value)(m:List (List Int))(root a:Nat)(w:World)(h:Bf w v m)(ca:Bs m=true)(hr:root<12)(ha:a<64):
 Calls prog 133 #[v,.int .i64 root,.int .i64 a] w λe w'=>e=.returned (Il m root a)/\Below w.heap.size w w':=by
 obtain⟨q,c,rfl,hc,dh,H0⟩:=h.open;have hl:=(Ai.1 ca).1;unfold maxLen at dh;rw[hl] at hc ⊢;obtain⟨b,bf,b2,dN,c2,rfl,hb,D,a4,D2⟩:=H0.word ca hr (show a/16<4 by omega);have D':=((AE w (.cells #[.int .i64 0,.int .i64 0,.bool false] 114)).cell (p:=⟨b,bf+root,none⟩) hb).trans D;have gg:=((AE w (.cells #[.int .i64 0,.int .i64 0,.bool false] 114)).cell (p:=⟨b2,dN+a/16,none⟩) a4).trans D2;have dO:=Gx ca hr (show a/16<4 by omega);have E1:=AA (λW=>Cy (Ar m root (a/16)) W (by omega));have hB:=AE w (.cells #[.int .i64 0,.int .i64 0,.bool false] 114);cases cp:Bh (Ar m root (a/16))
 .have S:=AA (show Il m root a=.tuple #[Et,.int .i64 1] by simp[Il,Bu,cp])
  have V1:=AA (Eg cp);clear H0 D D2 cp dO hb a4;go_in;go_wp2_with fail;refine(E1.out _).mono ?_;rintro e w' ⟨rfl,rfl⟩;rw[V1.out];go_wp2_with fail;exact yk (v:=.tuple #[Et,.int .i64 1]) (by simp[results,vj,go_sem,Et]) rfl ⟨by rw[S.out],hB⟩
 .have ht:A9 (Ar m root (a/16))<12:=EP cp
  have V1:=AA (EX cp);obtain⟨b',ff,b3,dM,c3,e,eL,D3,bx,D4⟩:=H0.word ca ht (show a/4%4<4 by omega);cases e;have gb:=((AE w (.cells #[.int .i64 0,.int .i64 0,.bool false] 114)).cell (p:=⟨b,bf+A9 (Ar m root (a/16)),none⟩) hb).trans D3;have ga:=((AE w (.cells #[.int .i64 0,.int .i64 0,.bool false] 114)).cell (p:=⟨b3,dM+a/4%4,none⟩) bx).trans D4;have eA:=Gx ca ht (show a/4%4<4 by omega);have E2:=AA (λW=>Cy (Ar m (A9 (Ar m root (a/16))) (a/4%4)) W (by omega));cases cW:Bh (Ar m (A9 (Ar m root (a/16))) (a/4%4))
  .have S:=AA (show Il m root a=.tuple #[Et,.int .i64 2] by simp[Il,Bu,cp,cW])
   have V2:=AA (Eg cW);clear H0 D D2 D3 D4 cp cW dO eA hb a4 bx eL;go_in;go_wp2_with fail;refine(E1.out _).mono ?_;rintro e w' ⟨rfl,rfl⟩;rw[V1.out];go_wp2_with fail;refine(E2.out _).mono ?_;rintro e w' ⟨rfl,rfl⟩;rw[V2.out];go_wp2_with fail;exact yk (v:=.tuple #[Et,.int .i64 2]) (by simp[results,vj,go_sem,Et]) rfl ⟨by rw[S.out],hB⟩
  .have S:=AA (show Il m root a=.tuple #[.agg #[.int .i64 ((A9 (Ar m (A9 (Ar m root (a/16))) (a/4%4)):Nat):Int),.int .i64 ((a:Int)%4),.bool (KQ (Ar m root (a/16))&&KQ (Ar m (A9 (Ar m root (a/16))) (a/4%4)))],.int .i64 0] by simp[Il,Bu,cp,cW,MW])
   have V2:=AA (EX cW);generalize A9 (Ar m (A9 (Ar m root (a/16))) (a/4%4))=fr at S V2;generalize KQ (Ar m (A9 (Ar m root (a/16))) (a/4%4))=wb at S V2;generalize KQ (Ar m root (a/16))=wa at S V1;cases wa
   all_goals
    clear H0 D D2 D3 D4 cp cW dO eA hb a4 bx eL;go_in;go_wp2_with fail;refine(E1.out _).mono ?_;rintro e w' ⟨rfl,rfl⟩;rw[V1.out];go_wp2_with fail;refine(E2.out _).mono ?_;rintro e w' ⟨rfl,rfl⟩;rw[V2.out];go_wp2_with fail
   .exact yk (v:=.tuple #[.agg #[.int .i64 fr,.int .i64 ((a:Int)%4),.bool false],.int .i64 0]) (by simp[results,vj,go_sem]) rfl ⟨by rw[S.out,Bool.false_and],AE _ _⟩
   .exact yk (v:=.tuple #[.agg #[.int .i64 fr,.int .i64 ((a:Int)%4),.bool wb],.int .i64 0]) (by simp[results,vj,go_sem]) rfl ⟨by rw[S.out,vT],AE _ _⟩
theorem L7{P:Program}{f:FuncId}{bB:Array Value}{w:World}{v:Ending}(h:Calls P f bB w λe w'=>e=v/\∃n,w'=w.drewN n):Calls P f bB w λe w'=>e=v/\Below w.heap.size w w':=by refine h.mono ?_;rintro e w' ⟨h1,n,rfl⟩;exact⟨h1,A8 (yD _ _) n⟩
theorem OQ(m i e c:Value)(k:AN)(w:World)(h:Bf w m k.mem)(hm:Bs k.mem=true)(hI:BS w i k.zZ)(bs:BI k.zZ=true)(hE:Fq w e k.zX)(cd:k.zX.length=3)(hr:∀j,j<3->(AJ k.zX j).root<12):
 Calls prog 76 #[.agg #[m,i,e,c]] w λr w'=>r=.returned (.bool ((yC 12).all (Gs k)))/\Below w.heap.size w w':=by
 have N0:=yv w (.cells #[m,i,e,c] 28);have az:=AE w (.cells #[m,i,e,c] 28);replace h:=h.below az;replace hI:=BD.below hI az;obtain⟨ae,ce,rfl,_,_,ct⟩:=(hE.below az).open;have cV:=(Az.1 bs).1;have C:=AA (TG _ _ k.mem k.zZ _ h hm hI cV);obtain⟨ai,ci,rfl,_,_,dx⟩:=BD.open Ay (by decide) hI;obtain⟨x0,x1,_,_⟩:=AG N0;obtain⟨am,cm,rfl,_⟩:=h.open;have Hl:=AA cV;have ch:=AA cd;clear cV cd;go_in;go_wp2_with fail;generalize w.alloc _=W0 at*;have HN:=AA N0;have HH:=AA dx;have HE:=AA ct;have Hm:=AA hm;have Hr:=AA hr;have dC:=AW N0;have bC:=AA az;clear h hI hm bs N0 dx ct hE hr;refine C.out.mono ?_;rintro r w1 ⟨v',rfl,hO,br⟩;rw[<-SS] at hO;obtain⟨gr,bu,rfl,fT,fh⟩:=JN hO (by rw[Dp];omega);have fy:Hid (AF W0.heap.size w1 (.slice (some ⟨gr,0,none⟩) 12 bu) (Ee k 0)):=AA (by have:=hO;rw[Dp] at this;exact this);rw[Dp];have fH:=AA br;clear hO fh x0 x1 C br az;go_wp2_with fail;go_loopw [4] (λs4 wr=>∃j:Nat,j<=3/\s4=.int .i64 j/\AF W0.heap.size wr (.slice (some ⟨gr,0,none⟩) 12 bu) (Ee k j)/\Below W0.heap.size W0 wr) (λs4 _=>3 - (intOf s4).toNat)
 case atStart=>exact⟨0,yh _,rfl,fy.out,fH.out⟩
 case round=>
  obtain⟨j,hj,rfl,hO,al⟩:=hrel;have HO:=AA hO;have HB:=AA al;obtain⟨_,x1,x2,_⟩:=AG (AC HN.out al);have cx:w.heap.size<wr.heap.size:=xX dC al.size
  by_cases ax:j<3
  .have dg:j<k.zX.length:=by have:=ch.out;omega
   have dS:(j:Int)<k.zX.length:=by omega
   obtain⟨b,bf,ua,uc,rfl,dX,D0,D1,RR⟩:=(HE.out.below al) j dg;clear hO al RR x1 dX D0
   by_cases hn:(AJ k.zX j).root<0
   .have S:=AA (Wr dg hn)
    have t0:¬(0:Int)<=(AJ k.zX j).root:=by omega
    clear hn;go_wp2_with fail;go_roundw
    case rel=>exact⟨j+1,by omega,by go_num,by rw[S.out];exact HO.out,HB.out⟩
    case measure=>simp[intOf];omega
   .obtain⟨rn,hrn⟩:∃n:Nat,(AJ k.zX j).root=(n:Int):=⟨(AJ k.zX j).root.toNat,by omega⟩
    have bY:rn<12:=by have:=Hr.out j ax;omega
    have S:=AA (Uz dg hrn bY);have f1:=QD Hm.out (j:=j) ch.out bY;have b9:wr.ownsRow W0.heap.size 3 1 (.slice (some ⟨gr,0,none⟩) 12 bu) 12 ((Ee k j).map (Value.int .i64)):=by have:=HO.out;unfold AF at this;rwa [Dp] at this
    have DC:=(b9.cellAt rn (by omega)).trans (FV (xs:=Ee k j) (by rw[Dp];exact bY));have dw:=AA b9;rw[hrn] at D1;have t0:(0:Int)<=(rn:Int):=by omega
    have eE:(rn:Int)<12:=by omega
    generalize nth (Ee k j) rn=cn at*;obtain⟨nc,hnc⟩:∃nc:Int,cn+1=nc:=⟨_,rfl⟩
    have eT:=AA hnc;have hb:=yA _ _ D1;have co:=yA _ _ DC;clear hn hrn b9 hnc;go_wp2_with fail;refine AY 17 58 [.s gr 12 bu,.p w.heap.size 2,.v (.slice (some ⟨b,bf,none⟩) k.zX.length ce),.i ((j:Int)),.p b (bf+j*2),.p b (bf+j*2+1),.i ((rn:Int)),.s gr 12 bu,.p w.heap.size 2,.v (.slice (some ⟨b,bf,none⟩) k.zX.length ce),.i ((j:Int)),.p b (bf+j*2),.p b (bf+j*2+1),.i ((rn:Int)),.p gr rn,.i cn,.i nc] (λ_ _ _=>True) ?_ ?_
    .intro i hi o ho a wx Hb Hd hG K HK
     have bN:=bc hG cx x2;have bw:=bc hG hb D1;have bK:=bc hG co DC
     match i,hi with
     |0,_|1,_|3,_|5,_|7,_|8,_|10,_|12,_=>exact sP ho HK Hb Hd
     |2,_|9,_=>exact sL ho HK Hb Hd (hl:=No ‹_›)
     |4,_|11,_|14,_=>exact sI ho HK Hb Hd (hr:=by clear Hd Hb HK;go_simp)
     |6,_|13,_|15,_=>exact sL ho HK Hb Hd (hl:=Fp ‹_›)
     |16,_=>clear bN bw bK;obtain rfl:=yF ho;have f7:(a.tmps[40]?.getD undef)=.int .i64 cn:=BM Hd 15;clear Hd Hb;refine yE ?_;go_simp;exact HK.out _ _ (by show Value.int .i64 (IntKind.i64.wrap (cn+1))=.int .i64 nc;rw[IntWalk.i64_in _ (by omega),eT.out]) (yD _ _)
     |_+17,hq=>omega
    .intro vs wx hR hG
     have q0:(vs 0)=.slice (some ⟨gr,0,none⟩) 12 bu:=BW hR 0;have q6:(vs 6)=.int .i64 rn:=BW hR 6;have ep:(vs 16)=.int .i64 nc:=BW hR 16;clear hR;simp only[Aj,Ae,yC,yz,yy,yw,q0,q6,ep];simp;clear q0 q6 ep;have O3:=Co dw.out hG;have Fr:=O3.frozenAt rn;have C2:=(hG.cell (p:=⟨gr,rn,none⟩) co).trans DC;have S2:=AA (O3.stored rn (.int .i64 nc));have fm:=AA (World.ownsRow.lt O3 gr rfl).1;have eX:=AA (HB.out.trans (hG.mono HB.out.size));clear D1 DC hG O3 x2;go_wp2_with fail;go_roundw
     case rel=>refine⟨j+1,by omega,by go_num,?_,AM eX.out S2.out.2 fm.out eX.out.size⟩;rw[S.out,eT.out];unfold AF;rw[List.length_set,Dp,List.map_set];exact S2.out.1
     case measure=>simp[intOf];omega
  .obtain rfl:j=3:=by omega
   have dS:¬((3:Nat):Int)<k.zX.length:=by have:=ch.out;omega
   have fl:¬(3:Int)<k.zX.length:=by have:=ch.out;omega
   obtain⟨w2,rfl⟩:∃w2:World,w2=wr:=⟨_,rfl⟩
   clear hO al x1;go_wp2_with fail;clear x2;go_loopw [5] (λs5 wr=>∃f:Nat,f<=12/\s5=.int .i64 f/\(∀j,j<f->Gs k j=true)/\AF W0.heap.size wr (.slice (some ⟨gr,0,none⟩) 12 bu) (Ee k 3)/\Below W0.heap.size W0 wr) (λs5 _=>12 - (intOf s5).toNat)
   case atStart=>exact⟨0,yh _,rfl,λj hj=>absurd hj (xP _),HO.out,HB.out⟩
   case round=>
    clear HO HB;obtain⟨f,hf,rfl,ad,hO,al⟩:=hrel;have av:=AA ad;have HO:=AA hO;have HB:=AA al;clear ad
    by_cases cF:f<12
    .have fq:(f:Int)<12:=by omega
     have fZ:(f:Int)<k.zZ.length:=by have:=Hl.out;omega
     obtain⟨_,x1,_,_⟩:=AG (AC HN.out al);have cp:w.heap.size<wr.heap.size:=xX dC al.size;obtain⟨bi,be,rfl,cP,_,_,D2⟩:=(HH.out.below al).zP (show f<k.zZ.length by rw[Hl.out];exact cF);have dm:=yA _ _ D2;have b9:wr.ownsRow W0.heap.size 3 1 (.slice (some ⟨gr,0,none⟩) 12 bu) 12 ((Ee k 3).map (Value.int .i64)):=by have:=hO;unfold AF at this;rwa [Dp] at this
     have DC:=(b9.cellAt f (by omega)).trans (FV (xs:=Ee k 3) (by rw[Dp];exact cF));have co:=yA _ _ DC;have RL:=QC (k:=k) ch.out cF;clear hO al b9 cP cx;have cx:=cp;go_wp2_with fail;refine AY 10 58 [.p w.heap.size 1,.v (.slice (some ⟨bi,be,none⟩) k.zZ.length ci),.i ((f:Int)),.p bi (be+f*3),.p bi (be+f*3+2),.i ((zS k.zZ f).r),.s gr 12 bu,.i ((f:Int)),.p gr f,.i (nth (Ee k 3) f)] (λ_ _ _=>True) ?_ ?_
     .intro i hi o ho a wx Hb Hd hG K HK
      have bw:=bc hG dm D2;have bK:=bc hG co DC
      match i,hi with
      |0,_|2,_|4,_|6,_|7,_=>exact sP ho HK Hb Hd
      |1,_=>exact sL ho HK Hb Hd (hl:=F8 (bc hG cx x1))
      |3,_|8,_=>exact sI ho HK Hb Hd (hr:=by clear Hd Hb HK;go_simp)
      |5,_|9,_=>exact sL ho HK Hb Hd (hl:=Fp ‹_›)
     .intro vs wx hR hG
      have q5:(vs 5)=.int .i64 ((zS k.zZ f).r):=BW hR 5;have q9:(vs 9)=.int .i64 (nth (Ee k 3) f):=BW hR 9;clear hR;simp only[Aj,Ae,yC,yz,yy,yw,q5,q9];simp;clear q5 q9;have bt:=HB.out.trans (hG.mono HB.out.size);have fG:=AA (AF.below HO.out hG);clear hG x1 D2 DC;cases cU:((zS k.zZ f).r !=nth (Ee k 3) f)
      .have S:=AA (show Gs k f=true by rw[RL];simpa using cU)
       clear RL;go_wp2_with fail;go_roundw
       case rel=>exact⟨f+1,by omega,by go_num,Ak av.out S.out,fG.out,bt⟩
       case measure=>simp[intOf];omega
      .have S:=AA (show(yC 12).all (Gs k)=false from List.all_eq_false.2 ⟨f,xU.2 cF,by rw[RL];simpa using cU⟩)
       clear RL;go_wp2_with fail;go_ret;exact⟨AI S.out.symm,bC.out.trans (bt.mono bC.out.size)⟩
    .have ek:f=12:=by omega
     have ad:=av.out;rw[ek] at ad;have S:=AA (show(yC 12).all (Gs k)=true from yd.2 λj hj=>ad j (xU.1 hj));clear av ad;go_wp2_with fail;go_ret;exact⟨AI S.out.symm,bC.out.trans (al.mono bC.out.size)⟩
theorem KR{l:List EU}{j:Nat}(h:j<l.length):l[j]?=some (AJ l j):=by unfold AJ;exact A1 h
theorem OP(m i e c:Value)(k:AN)(w:World)(h:Bf w m k.mem)(hm:Bs k.mem=true)(hI:BS w i k.zZ)(bs:BI k.zZ=true)(hE:Fq w e k.zX)(da:∀j,j<k.zX.length->DQ (AJ k.zX j).zT):
 Calls prog 74 #[.agg #[m,i,e,c]] w λr w'=>r=.returned (.bool (Iq k))/\Below w.heap.size w w':=by
 have N0:=yv w (.cells #[m,i,e,c] 28);have az:=AE w (.cells #[m,i,e,c] 28);replace h:=h.below az;replace hI:=BD.below hI az;obtain⟨ae,ce,rfl,fv,di,ct⟩:=(hE.below az).open;unfold maxLen at di;have cV:=(Az.1 bs).1;have eB:=CJ bs;have HI:=AA hI;have HR:=AA h;obtain⟨ai,ci,rfl,_,_,dx⟩:=BD.open Ay (by decide) hI;obtain⟨am,cm,rfl,_⟩:=h.open;have ES:Iq k=(k.zX.all (Du k)&&decide (k.zX.length=3)):=rfl;rw[ES];have Hl:=AA cV;clear cV;go_in;go_wp2_with fail;generalize w.alloc _=W0 at*;have HN:=AA N0;have HH:=AA dx;have HE:=AA ct;have Hm:=AA hm;have Hs:=AA da;have eR:=AA eB;have dC:=AW N0;have bC:=AA az;clear h hI hm bs N0 dx ct hE da eB az ES;go_loopw [3] (λs3 wr=>∃j:Nat,j<=k.zX.length/\s3=.int .i64 j/\(∀j',j'<j->Du k (AJ k.zX j')=true)/\Below W0.heap.size W0 wr) (λs3 _=>k.zX.length - (intOf s3).toNat)
 case atStart=>exact⟨0,yh _,rfl,λj hj=>absurd hj (xP _),yD _ _⟩
 case round=>
  obtain⟨j,hj,rfl,ad,al⟩:=hrel;have av:=AA ad;clear ad;obtain⟨_,_,x2,_⟩:=AG (AC HN.out al)
  by_cases ax:j<k.zX.length
  .have dS:(j:Int)<k.zX.length:=by omega
   obtain⟨b,bf,ua,uc,rfl,cJ,D0,D1,RR⟩:=(HE.out.below al) j ax;have N:=yv wr (.cells #[.slice ua (AJ k.zX j).zT.length uc,.int .i64 (AJ k.zX j).root] 74);have cI:=AE wr (.cells #[.slice ua (AJ k.zX j).zT.length uc,.int .i64 (AJ k.zX j).root] 74);go_wp2_with fail;generalize wr.alloc _=wa at*;have cy:=al.trans (cI.mono al.size);have y0:wa.cell? ⟨wr.heap.size,0,none⟩=some (.slice ua (AJ k.zX j).zT.length uc):=yi _ _ 0 _ _ _ N;have y1:wa.cell? ⟨wr.heap.size,1,none⟩=some (.int .i64 (AJ k.zX j).root):=yi _ _ 1 _ _ _ N;have cG:=AW N;have cx:=xX dC cy.size;obtain⟨x0,x1,_,_⟩:=AG (AC HN.out cy);have bq:=AA cy;have d6:=AA (BD.below RR cI);clear D0 D1 N cI al cy RR x2 cJ;have c5:=λW (hW:Below wa.heap.size wa W)=>L7 (GI _ (AJ k.zX j).zT W (BD.below d6.out hW) (Hs.out j ax))
   have b5:Du k (AJ k.zX j)=(BQ (AJ k.zX j).zT&&(decide ((AJ k.zX j).root= -1)||(Be (AJ k.zX j).root 0 11&&decide ((zS k.zZ (AJ k.zX j).root.toNat).k=3)))&&BG k.zZ (BZ k.mem (AJ k.zX j).root) (AJ k.zX j).zT):=rfl;cases e5:BQ (AJ k.zX j).zT
   .rw[e5] at c5 b5
    have CR:=AA c5;have bp:Du k (AJ k.zX j)=false:=by rw[b5];rfl
    clear c5 e5 b5;have S:=AA (show k.zX.all (Du k)=false from Ip (KR ax) (bp));go_wp2_with fail;refine AY 36 59 [.p wr.heap.size 0,.v (.slice ua (AJ k.zX j).zT.length uc),.b false,.b true,.b true,.u,.u,.u,.u,.b true,.b true,.u,.u,.u,.u,.u,.u,.u,.u,.u,.u,.u,.u,.u,.b true,.b true,.u,.u,.u,.u,.u,.u,.u,.u,.u,.u] (λ_ _ _=>True) ?_ ?_
    .intro i hi o ho a wx Hb Hd hG K HK
     match i,hi with
     |0,_|3,_|4,_|9,_|10,_|24,_|25,_=>exact sP ho HK Hb Hd
     |1,_=>exact sL ho HK Hb Hd (hl:=LM (bc hG cG y0))
     |2,_=>exact sD ho HK Hb Hd (CR.out _ hG)
     |5,_|6,_|7,_|8,_|11,_|12,_|13,_|14,_|15,_|16,_|17,_|18,_|19,_|20,_|21,_|22,_|23,_|26,_|27,_|28,_|29,_|30,_|31,_|32,_|33,_|34,_|35,_=>exact sB ho HK Hd
     |_+36,hq=>omega
    .intro vs wx hR hG
     have b6:(vs 25)=.bool true:=BW hR 25;clear hR;simp only[Aj,Ae,yC,yz,yy,yw,b6];simp;clear b6;have bt:=bq.out.trans (hG.mono bq.out.size);clear hG x0 x1 y0 y1;go_wp2_with fail;go_ret;exact⟨AI (by rw[S.out];rfl),bC.out.trans (bt.mono bC.out.size)⟩
   .rw[e5] at c5 b5
    have CR:=AA c5;clear c5 e5;have cz:=λW (hW:Below wa.heap.size wa W)=>BK (Cv (AJ k.zX j).root (-1) 11 W)
    cases e6:Be (AJ k.zX j).root (-1) 11
    .rw[e6] at cz
     have CF:=AA cz;have bp:Du k (AJ k.zX j)=false:=by
      rw[b5];have:¬(-1<=(AJ k.zX j).root/\(AJ k.zX j).root<=11):=λh=>by rw[Ab.2 h] at e6;cases e6
      have h1:decide ((AJ k.zX j).root= -1)=false:=decide_eq_false (by omega);have h2:Be (AJ k.zX j).root 0 11=false:=by cases hx:Be (AJ k.zX j).root 0 11;rfl;exact absurd (Ab.1 hx) (by omega)
      rw[h1,h2];rfl
     clear cz e6 b5;have S:=AA (show k.zX.all (Du k)=false from Ip (KR ax) (bp));go_wp2_with fail;refine AY 36 59 [.p wr.heap.size 0,.v (.slice ua (AJ k.zX j).zT.length uc),.b true,.b false,.b false,.p wr.heap.size 1,.i ((AJ k.zX j).root),.b false,.b true,.b true,.b true,.u,.u,.u,.u,.u,.u,.u,.u,.u,.u,.u,.u,.u,.b true,.b true,.u,.u,.u,.u,.u,.u,.u,.u,.u,.u] (λ_ _ _=>True) ?_ ?_
     .intro i hi o ho a wx Hb Hd hG K HK
      match i,hi with
      |0,_|3,_|4,_|5,_|8,_|9,_|10,_|24,_|25,_=>exact sP ho HK Hb Hd
      |1,_=>exact sL ho HK Hb Hd (hl:=LM (bc hG cG y0))
      |2,_=>exact sD ho HK Hb Hd (CR.out _ hG)
      |6,_=>exact sL ho HK Hb Hd (hl:=Fp (bc hG cG y1))
      |7,_=>exact sD ho HK Hb Hd (CF.out _ hG)
      |11,_|12,_|13,_|14,_|15,_|16,_|17,_|18,_|19,_|20,_|21,_|22,_|23,_|26,_|27,_|28,_|29,_|30,_|31,_|32,_|33,_|34,_|35,_=>exact sB ho HK Hd
      |_+36,hq=>omega
     .intro vs wx hR hG
      have b6:(vs 25)=.bool true:=BW hR 25;clear hR;simp only[Aj,Ae,yC,yz,yy,yw,b6];simp;clear b6;have bt:=bq.out.trans (hG.mono bq.out.size);clear hG x0 x1 y0 y1;go_wp2_with fail;go_ret;exact⟨AI (by rw[S.out];rfl),bC.out.trans (bt.mono bC.out.size)⟩
    .have eN:=Ab.1 e6
     rw[e6] at cz;clear e6
     by_cases e7:(AJ k.zX j).root= -1
     .rw[e7] at cz y1 b5
      have CF:=AA cz;have RI:=HI.out;have CX:=AA (λW (hW:Below wa.heap.size wa W)=>JC _ k.mem (-1) W ((HR.out.below bq.out).below hW) Hm.out (by decide));have cL:=λW (hW:Below wa.heap.size wa W) v2 (h2:Aw W v2 (A0 (Ed k.mem (-1))))=>F7 _ v2 _ k.zZ (Ed k.mem (-1)) (AJ k.zX j).zT W (BD.below (BD.below HI.out bq.out) hW) h2 (BD.below d6.out hW) (λf hf=>by have:=zw (root:= -1) (by decide) f ((GD (by decide) f).1 hf);rw[Hl.out];exact this) eR.out (Hs.out j ax)
      rw[Fv (GD (by decide))] at cL;have cR:Du k (AJ k.zX j)=BG k.zZ (BZ k.mem (-1)) (AJ k.zX j).zT:=by rw[b5];simp
      generalize BG k.zZ (BZ k.mem (-1)) (AJ k.zX j).zT=bb at cL cR;have CA:=AA cL;have EO:=AA cR;clear cz cL b5 cR eN e7 RI;go_wp2_with fail;refine BN 36 59 [.p wr.heap.size 0,.v (.slice ua (AJ k.zX j).zT.length uc),.b true,.b false,.b false,.p wr.heap.size 1,.i (-1),.b true,.b false,.b false,.b false,.p wr.heap.size 1,.i (-1),.b false,.b false,.u,.u,.u,.u,.u,.u,.u,.u,.b false,.b false,.b false,.p w.heap.size 1,.v (.slice ai k.zZ.length ci),.p w.heap.size 0,.v (.slice am k.mem.length cm),.p wr.heap.size 1,.i (-1),.z,.p wr.heap.size 0,.v (.slice ua (AJ k.zX j).zT.length uc),.b bb] (λix vv ww=>match ix with
       |32=>AF wa.heap.size ww vv (A0 (Ed k.mem (-1)))
       |_=>True) ?_ ?_ ?_
      .intro i hi o ho a wx Hb Hd hG K HK
       have bN:=bc hG cG y0;have bw:=bc hG cG y1;have bK:=bc hG cx x1;have ck:=bc hG cx x0
       match i,hi with
       |0,_|3,_|4,_|5,_|8,_|9,_|10,_|11,_|14,_|23,_|24,_|25,_|26,_|28,_|30,_|33,_=>exact sP ho HK Hb Hd
       |1,_|34,_=>exact sL ho HK Hb Hd (hl:=LM ‹_›)
       |2,_=>exact sD ho HK Hb Hd (CR.out _ hG)
       |6,_|12,_|31,_=>exact sL ho HK Hb Hd (hl:=Fp ‹_›)
       |7,_=>exact sD ho HK Hb Hd (CF.out _ hG)
       |15,_|16,_|17,_|18,_|19,_|20,_|21,_|22,_=>exact sB ho HK Hd
       |27,_=>exact sL ho HK Hb Hd (hl:=F8 ‹_›)
       |29,_=>exact sL ho HK Hb Hd (hl:=GT ‹_›)
       |32,_=>exact sC ho HK Hb Hd (CX.out _ hG) (by rintro e w_ ⟨v',rfl,hO,a4⟩;exact⟨_,rfl,(BO hO hG.size),a4⟩)
       |13,_=>clear bN bw bK ck;obtain rfl:=yF ho;have eO:(a.tmps[29]?.getD undef)=.int .i64 (-1):=BM Hd 12;have c4:(a.tmps[27]?.getD undef)=.bool false:=BM Hd 10;clear Hd Hb;refine AV.yes rfl rfl c4 ?_;go_simp;exact HK.out _ _ rfl (yD _ _)
       |35,_=>clear bN bw bK ck;obtain rfl:=yF ho;have fC:(a.tmps[44]?.getD undef)=.slice ai k.zZ.length ci:=BM Hd 27;have dp:AF wa.heap.size wx (a.tmps[49]?.getD undef) (A0 (Ed k.mem (-1))):=BM Hd 32;have fB:(a.tmps[51]?.getD undef)=.slice ua (AJ k.zX j).zT.length uc:=BM Hd 34;have d3:(a.tmps[42]?.getD undef)=.bool false:=BM Hd 25;clear Hd Hb;generalize e49:a.tmps[49]?.getD undef=v2 at dp;have eh:=CA.out wx hG v2 (AF.rd dp);refine AV.yes rfl rfl d3 ?_;go_simp;refine eh.mono ?_;rintro e w_ ⟨rfl,a4⟩;exact HK.out _ _ rfl a4
       |_+36,hq=>omega
      .intro i hi vv wz cS cO hz
       match i,hi with
       |32,_=>exact(AF.below hz cO)
       |0,_|1,_|2,_|3,_|4,_|5,_|6,_|7,_|8,_|9,_|10,_|11,_|12,_|13,_|14,_|15,_|16,_|17,_|18,_|19,_|20,_|21,_|22,_|23,_|24,_|25,_|26,_|27,_|28,_|29,_|30,_|31,_|33,_|34,_|35,_=>exact hz
       |_+36,hq=>omega
      .intro vs wx hR hG
       have b6:(vs 25)=.bool false:=BW hR 25;have c6:(vs 35)=.bool bb:=BW hR 35;clear hR;simp only[Aj,Ae,yC,yz,yy,yw,b6,c6];simp;clear b6 c6;have bt:=bq.out.trans (hG.mono bq.out.size);clear hG x0 x1 y0 y1;cases bb
       .have S:=AA (show k.zX.all (Du k)=false from Ip (KR ax) (EO.out))
        go_wp2_with fail;go_ret;exact⟨AI (by rw[S.out];rfl),bC.out.trans (bt.mono bC.out.size)⟩
       .go_wp2_with fail
        go_roundw
        case rel=>exact⟨j+1,by omega,by go_num,Ak av.out EO.out,bt⟩
        case measure=>simp[intOf];omega
     .obtain⟨r,hr⟩:∃n:Nat,(AJ k.zX j).root=(n:Int):=⟨(AJ k.zX j).root.toNat,by omega⟩
      have bY:r<12:=by omega
      have dy:(r:Int)<12:=by omega
      have fg:(r:Int)<k.zZ.length:=by have:=Hl.out;omega
      have fU:(0:Int)<=(r:Int):=by omega
      rw[hr] at cz y1 b5;have CF:=AA cz;obtain⟨bi,be,rfl,cP,d1,_,_⟩:=(HH.out.below bq.out).zP (show r<k.zZ.length by rw[Hl.out];exact bY);have dm:=yA _ _ d1;have cH:Be (r:Int) 0 11=true:=Ab.2 (by omega);have de:decide ((r:Int)= -1)=false:=decide_eq_false (by omega);rw[cH,de,yb] at b5;clear cz eN e7 cP cH de
      by_cases e8:(zS k.zZ r).k=3
      .have t8:((zS k.zZ r).k !=3)=false:=by simp[e8]
       have CX:=AA (λW (hW:Below wa.heap.size wa W)=>JC _ k.mem (r:Int) W ((HR.out.below bq.out).below hW) Hm.out dy);have cL:=λW (hW:Below wa.heap.size wa W) v2 (h2:Aw W v2 (A0 (Ed k.mem (r:Int))))=>F7 _ v2 _ k.zZ (Ed k.mem (r:Int)) (AJ k.zX j).zT W (BD.below (BD.below HI.out bq.out) hW) h2 (BD.below d6.out hW) (λf hf=>by have:=zw (root:=(r:Int)) dy f ((GD dy f).1 hf);rw[Hl.out];exact this) eR.out (Hs.out j ax)
       rw[Fv (GD dy)] at cL;have cR:Du k (AJ k.zX j)=BG k.zZ (BZ k.mem (r:Int)) (AJ k.zX j).zT:=by rw[b5,e8];simp
       generalize BG k.zZ (BZ k.mem (r:Int)) (AJ k.zX j).zT=bb at cL cR;have CA:=AA cL;have EO:=AA cR;clear cL b5 cR e8 hr;go_wp2_with fail;refine BN 36 59 [.p wr.heap.size 0,.v (.slice ua (AJ k.zX j).zT.length uc),.b true,.b false,.b false,.p wr.heap.size 1,.i ((r:Int)),.b true,.b false,.b false,.b false,.p wr.heap.size 1,.i ((r:Int)),.b true,.b true,.p w.heap.size 1,.v (.slice (some ⟨bi,be,none⟩) k.zZ.length ci),.p wr.heap.size 1,.i ((r:Int)),.p bi (be+r*3),.p bi (be+r*3),.i ((zS k.zZ r).k),.b false,.b false,.b false,.b false,.p w.heap.size 1,.v (.slice (some ⟨bi,be,none⟩) k.zZ.length ci),.p w.heap.size 0,.v (.slice am k.mem.length cm),.p wr.heap.size 1,.i ((r:Int)),.z,.p wr.heap.size 0,.v (.slice ua (AJ k.zX j).zT.length uc),.b bb] (λix vv ww=>match ix with
        |32=>AF wa.heap.size ww vv (A0 (Ed k.mem ((r:Int))))
        |_=>True) ?_ ?_ ?_
       .intro i hi o ho a wx Hb Hd hG K HK
        have bN:=bc hG cG y0;have bw:=bc hG cG y1;have bK:=bc hG cx x1;have ck:=bc hG dm d1;have cT:=bc hG cx x0
        match i,hi with
        |0,_|3,_|4,_|5,_|8,_|9,_|10,_|11,_|14,_|15,_|17,_|20,_|23,_|24,_|25,_|26,_|28,_|30,_|33,_=>exact sP ho HK Hb Hd
        |1,_|34,_=>exact sL ho HK Hb Hd (hl:=LM ‹_›)
        |2,_=>exact sD ho HK Hb Hd (CR.out _ hG)
        |6,_|12,_|18,_|21,_|31,_=>exact sL ho HK Hb Hd (hl:=Fp ‹_›)
        |7,_=>exact sD ho HK Hb Hd (CF.out _ hG)
        |16,_|27,_=>exact sL ho HK Hb Hd (hl:=F8 ‹_›)
        |19,_=>exact sI ho HK Hb Hd (hr:=by clear Hd Hb HK;go_simp)
        |29,_=>exact sL ho HK Hb Hd (hl:=GT ‹_›)
        |32,_=>exact sC ho HK Hb Hd (CX.out _ hG) (by rintro e w_ ⟨v',rfl,hO,a4⟩;exact⟨_,rfl,(BO hO hG.size),a4⟩)
        |13,_=>clear bN bw bK ck cT;obtain rfl:=yF ho;have eO:(a.tmps[29]?.getD undef)=.int .i64 r:=BM Hd 12;have c4:(a.tmps[27]?.getD undef)=.bool false:=BM Hd 10;clear Hd Hb;refine AV.yes rfl rfl c4 ?_;go_simp;exact HK.out _ _ rfl (yD _ _)
        |22,_=>clear bN bw bK ck cT;obtain rfl:=yF ho;have fD:(a.tmps[38]?.getD undef)=.int .i64 ((zS k.zZ r).k):=BM Hd 21;have d4:(a.tmps[31]?.getD undef)=.bool true:=BM Hd 14;clear Hd Hb;refine AV.yes rfl rfl d4 ?_;go_simp;exact HK.out _ _ rfl (yD _ _)
        |35,_=>clear bN bw bK ck cT;obtain rfl:=yF ho;have fC:(a.tmps[44]?.getD undef)=.slice (some ⟨bi,be,none⟩) k.zZ.length ci:=BM Hd 27;have dp:AF wa.heap.size wx (a.tmps[49]?.getD undef) (A0 (Ed k.mem ((r:Int)))):=BM Hd 32;have fB:(a.tmps[51]?.getD undef)=.slice ua (AJ k.zX j).zT.length uc:=BM Hd 34;have d3:(a.tmps[42]?.getD undef)=.bool false:=BM Hd 25;clear Hd Hb;generalize e49:a.tmps[49]?.getD undef=v2 at dp;have eh:=CA.out wx hG v2 (AF.rd dp);refine AV.yes rfl rfl d3 ?_;go_simp;refine eh.mono ?_;rintro e w_ ⟨rfl,a4⟩;exact HK.out _ _ rfl a4
        |_+36,hq=>omega
       .intro i hi vv wz cS cO hz
        match i,hi with
        |32,_=>exact(AF.below hz cO)
        |0,_|1,_|2,_|3,_|4,_|5,_|6,_|7,_|8,_|9,_|10,_|11,_|12,_|13,_|14,_|15,_|16,_|17,_|18,_|19,_|20,_|21,_|22,_|23,_|24,_|25,_|26,_|27,_|28,_|29,_|30,_|31,_|33,_|34,_|35,_=>exact hz
        |_+36,hq=>omega
       .intro vs wx hR hG
        have b6:(vs 25)=.bool false:=BW hR 25;have c6:(vs 35)=.bool bb:=BW hR 35;clear hR;simp only[Aj,Ae,yC,yz,yy,yw,b6,c6];simp;clear b6 c6;have bt:=bq.out.trans (hG.mono bq.out.size);clear hG x0 x1 y0 y1;cases bb
        .have S:=AA (show k.zX.all (Du k)=false from Ip (KR ax) (EO.out))
         go_wp2_with fail;go_ret;exact⟨AI (by rw[S.out];rfl),bC.out.trans (bt.mono bC.out.size)⟩
        .go_wp2_with fail
         go_roundw
         case rel=>exact⟨j+1,by omega,by go_num,Ak av.out EO.out,bt⟩
         case measure=>simp[intOf];omega
      .have t8:((zS k.zZ r).k !=3)=true:=by simp[e8]
       have bp:Du k (AJ k.zX j)=false:=by rw[b5];simp[e8]
       clear b5 e8 hr;have S:=AA (show k.zX.all (Du k)=false from Ip (KR ax) (bp));go_wp2_with fail;refine AY 36 59 [.p wr.heap.size 0,.v (.slice ua (AJ k.zX j).zT.length uc),.b true,.b false,.b false,.p wr.heap.size 1,.i ((r:Int)),.b true,.b false,.b false,.b false,.p wr.heap.size 1,.i ((r:Int)),.b true,.b true,.p w.heap.size 1,.v (.slice (some ⟨bi,be,none⟩) k.zZ.length ci),.p wr.heap.size 1,.i ((r:Int)),.p bi (be+r*3),.p bi (be+r*3),.i ((zS k.zZ r).k),.b true,.b true,.b true,.b true,.u,.u,.u,.u,.u,.u,.u,.u,.u,.u] (λ_ _ _=>True) ?_ ?_
       .intro i hi o ho a wx Hb Hd hG K HK
        have bN:=bc hG cG y0;have bw:=bc hG cG y1;have bK:=bc hG cx x1;have ck:=bc hG dm d1
        match i,hi with
        |0,_|3,_|4,_|5,_|8,_|9,_|10,_|11,_|14,_|15,_|17,_|20,_|23,_|24,_|25,_=>exact sP ho HK Hb Hd
        |1,_=>exact sL ho HK Hb Hd (hl:=LM ‹_›)
        |2,_=>exact sD ho HK Hb Hd (CR.out _ hG)
        |6,_|12,_|18,_|21,_=>exact sL ho HK Hb Hd (hl:=Fp ‹_›)
        |7,_=>exact sD ho HK Hb Hd (CF.out _ hG)
        |16,_=>exact sL ho HK Hb Hd (hl:=F8 ‹_›)
        |19,_=>exact sI ho HK Hb Hd (hr:=by clear Hd Hb HK;go_simp)
        |26,_|27,_|28,_|29,_|30,_|31,_|32,_|33,_|34,_|35,_=>exact sB ho HK Hd
        |13,_=>clear bN bw bK ck;obtain rfl:=yF ho;have eO:(a.tmps[29]?.getD undef)=.int .i64 r:=BM Hd 12;have c4:(a.tmps[27]?.getD undef)=.bool false:=BM Hd 10;clear Hd Hb;refine AV.yes rfl rfl c4 ?_;go_simp;exact HK.out _ _ rfl (yD _ _)
        |22,_=>clear bN bw bK ck;obtain rfl:=yF ho;have fD:(a.tmps[38]?.getD undef)=.int .i64 ((zS k.zZ r).k):=BM Hd 21;have d4:(a.tmps[31]?.getD undef)=.bool true:=BM Hd 14;clear Hd Hb;refine AV.yes rfl rfl d4 ?_;go_simp;exact HK.out _ _ rfl (yD _ _)
        |_+36,hq=>omega
       .intro vs wx hR hG
        have b6:(vs 25)=.bool true:=BW hR 25;clear hR;simp only[Aj,Ae,yC,yz,yy,yw,b6];simp;clear b6;have bt:=bq.out.trans (hG.mono bq.out.size);clear hG x0 x1 y0 y1;go_wp2_with fail;go_ret;exact⟨AI (by rw[S.out];rfl),bC.out.trans (bt.mono bC.out.size)⟩
  .have ek:j=k.zX.length:=by omega
   have ad:=av.out;rw[ek] at ad;have S:=AA (show k.zX.all (Du k)=true from Jl (f:=AJ k.zX) (λk hk=>KR hk) ad);have dS:¬(j:Int)<k.zX.length:=by omega
   clear av ad;go_wp2_with fail;go_ret;exact⟨AI (by rw[S.out,vT];by_cases h3:k.zX.length=3<;>simp[h3]<;>omega),bC.out.trans (al.mono bC.out.size)⟩
theorem TI(m i e c:Value)(k:AN)(w:World)(h:Bf w m k.mem)(hm:Bs k.mem=true)(hE:Fq w e k.zX)(cd:k.zX.length=3)(hC:Dz w c k.zW)(cY:BT k.zW=true)(hr:∀j,j<3->(AJ k.zX j).root<12):
 Calls prog 77 #[.agg #[m,i,e,c]] w λr w'=>r=.returned (.bool (k.zW.all (Cn k)))/\Below w.heap.size w w':=by
 have N0:=yv w (.cells #[m,i,e,c] 28);have az:=AE w (.cells #[m,i,e,c] 28);replace h:=h.below az;replace hC:=BD.below hC az;obtain⟨ae,ce,rfl,fv,di,ct⟩:=(hE.below az).open;obtain⟨ac,cc,rfl,f3,fw,eW⟩:=BD.open Ch (by decide) hC;have H1:=AA h;obtain⟨am,cm,rfl,_⟩:=h.open;have T1:=AA hm;have T3:=AA cY;have T4:=AA cd;have Hr:=AA hr;have KT:=AA (λj (hj:j<k.zW.length) (hx:Cn k (AT k.zW j)=false)=>show k.zW.all (Cn k)=false from Ip (Eo hj) hx);clear hm cY cd hr hE hC h;go_in;go_wp2_with fail;generalize w.alloc _=W0 at*;have HN:=AA N0;have HE:=AA ct;have H4:=AA eW;have f9:=AA (AW N0);have a0:=AA az;clear N0 ct eW az;go_loopw [3] (λi wr=>∃j:Nat,j<=k.zW.length/\i=.int .i64 j/\(∀j',j'<j->Cn k (AT k.zW j')=true)/\Below W0.heap.size W0 wr) (λi _=>k.zW.length - (intOf i).toNat)
 case atStart=>exact⟨0,yh _,rfl,λj hj=>absurd hj (xP _),yD _ _⟩
 case round=>
  obtain⟨j,hj,rfl,ad,al⟩:=hrel;have av:=AA ad;clear ad;obtain⟨x0,_,x2,x3⟩:=AG (AC HN.out al)
  by_cases ax:j<k.zW.length
  .obtain⟨bi,be,rfl,dm,D0,D1,D2,D3⟩:=(H4.out.below al).zL ax
   have cY:CU (AT k.zW j)=true:=by have h1:=T3.out;unfold BT at h1;simp only[yp,yd] at h1;have h2:=h1.1 j (xU.2 ax);unfold Ct at h2;simp only[yp] at h2;exact h2.1
   unfold CU at cY;simp only[yp,Ab] at cY;obtain⟨⟨⟨e0,e2⟩,p0,p2⟩,f0,f2⟩:=cY;obtain⟨en,cb⟩:∃n:Nat,(AT k.zW j).e=(n:Int):=⟨(AT k.zW j).e.toNat,by omega⟩
   obtain⟨pn,hpn⟩:∃n:Nat,(AT k.zW j).p=(n:Int):=⟨(AT k.zW j).p.toNat,by omega⟩
   obtain⟨fn,hfn⟩:∃n:Nat,(AT k.zW j).f=(n:Int):=⟨(AT k.zW j).f.toNat,by omega⟩
   have TO:=AA (show Cn k (AT k.zW j)=(decide (0<=(AJ k.zX en).root)&&decide (Bu k.mem (AJ k.zX en).root.toNat (4*pn)=(0,fn,(AT k.zW j).w))) by unfold Cn;rw[cb,hpn,hfn];rfl);have dW:en<3:=by omega
   have eF:pn<16:=by omega
   rw[cb] at D0;rw[hpn] at D1;rw[hfn] at D2;generalize fu:(AT k.zW j).w=cw at*;have N:=yv wr (.cells #[.int .i64 en,.int .i64 pn,.int .i64 fn,.bool cw] 112);have cI:=AE wr (.cells #[.int .i64 en,.int .i64 pn,.int .i64 fn,.bool cw] 112);have fj:(j:Int)<k.zW.length:=by omega
   have dH:k.zW.length<=4:=by have h1:=T3.out;unfold BT at h1;simp only[yp,decide_eq_true_eq] at h1;exact h1.2
   have fW:(j:Int)<4:=by omega
   have cy:=al.trans (cI.mono al.size);obtain⟨b,bf,ua,uc,rfl,cJ,E0,E1,RR⟩:=HE.out en (by have:=T4.out;omega);replace E1:=(cy.cell (p:=⟨b,bf+en*2+1,none⟩) cJ).trans E1;have eo:=(AG (AC HN.out cy)).1;have ej:=(AG (AC HN.out cy)).2.2.1;obtain⟨y0,y1,y2,y3⟩:=AG N;have fA:(en:Int)<k.zX.length:=by have:=T4.out;omega
   have bq:=AA cy;have cC:=Hr.out en dW;clear E0 RR cI al cy N e0 e2 p0 p2 f0 f2 cb hpn hfn
   by_cases cl:(AJ k.zX en).root<0
   .have S:=AA (KT.out j ax (by rw[TO.out];simp;omega))
    have bt:=bq.out;go_wp2_with fail;go_ret;exact⟨AI S.out.symm,a0.out.trans (bt.mono a0.out.size)⟩
   .obtain⟨rn,hrn⟩:∃n:Nat,(AJ k.zX en).root=(n:Int):=⟨(AJ k.zX en).root.toNat,by omega⟩
    have dd:rn<12:=by omega
    have cj:=λW (hW:Below W0.heap.size W0 W)=>Ph _ k.mem rn (4*pn) W (H1.out.below hW) T1.out dd (by omega)
    have eH:wr.heap.size<(wr.alloc (.cells #[.int .i64 en,.int .i64 pn,.int .i64 fn,.bool cw] 112)).heap.size:=by simp
    rw[hrn] at E1 TO cl;unfold Il at cj;rw[show((4*pn:Nat):Int)=4*(pn:Int) by omega] at cj;simp only[yb] at TO;obtain⟨code,fr,wb,hwp⟩:∃code fr wb,Bu k.mem rn (4*pn)=(code,fr,wb):=⟨_,_,_,rfl⟩
    simp only[hwp] at cj TO;clear hwp hrn cC;have dJ:=AA (show Cn k (AT k.zW j)=(decide (code=0)&&(decide (fr=fn)&&decide (wb=cw))) by
     rw[TO.out];have:(0:Int)<=(rn:Int):=by omega
     simp[this])
    by_cases dl:code=0
    .subst dl
     rw[if_pos rfl] at cj;unfold MW at cj;rw[show((4*pn%4:Nat):Int)=0 by omega] at cj;have CW:=AA cj;clear cj;go_wp2_with fail;refine(CW.out _ bq.out).mono ?_;rintro e w2 ⟨rfl,a4⟩;have b4:=bq.out.trans (a4.mono bq.out.size);replace y2:=(a4.cell (p:=⟨wr.heap.size,2,none⟩) eH).trans y2;replace y3:=(a4.cell (p:=⟨wr.heap.size,3,none⟩) eH).trans y3;clear x0 x2 x3 eo ej E1 y0 y1 a4;have bt:=b4.trans ((AE w2 (.cells #[.int .i64 fr,.int .i64 0,.bool wb] 114)).mono b4.size);replace y2:=((AE w2 (.cells #[.int .i64 fr,.int .i64 0,.bool wb] 114)).cell (yA w2 _ y2)).trans y2;replace y3:=((AE w2 (.cells #[.int .i64 fr,.int .i64 0,.bool wb] 114)).cell (yA w2 _ y3)).trans y3;have HG:=AA bt;clear b4 bt cl
     by_cases cX:fr=fn
     .have t1:((fr:Int) !=(fn:Int))=false:=by simp[cX]
      by_cases c7:wb=cw
      .have S:=AA (show Cn k (AT k.zW j)=true by rw[dJ.out];simp[cX,c7])
       subst c7;clear cX;cases wb
       all_goals
        go_wp2_with fail;go_roundw
        case rel=>exact⟨j+1,by omega,by go_num,Ak av.out S.out,HG.out⟩
        case measure=>simp[intOf];omega
      .have S:=AA (KT.out j ax (by rw[dJ.out];simp[c7]))
       have hq:=AA c7;clear cX c7;cases wb<;>cases cw
       .exact absurd rfl hq.out
       .go_wp2_with fail
        go_ret;exact⟨AI S.out.symm,a0.out.trans (HG.out.mono a0.out.size)⟩
       .go_wp2_with fail
        go_ret;exact⟨AI S.out.symm,a0.out.trans (HG.out.mono a0.out.size)⟩
       .exact absurd rfl hq.out
     .have t1:((fr:Int) !=(fn:Int))=true:=by simp;omega
      have S:=AA (KT.out j ax (by rw[dJ.out];simp[cX]));clear cX y3;go_wp2_with fail;go_ret;exact⟨AI S.out.symm,a0.out.trans (HG.out.mono a0.out.size)⟩
    .rw[if_neg dl] at cj
     unfold Et at cj;have CW:=AA cj;have t1:(code !=0)=true:=by simp[dl]
     have S:=AA (KT.out j ax (by rw[dJ.out];simp[dl]));clear cj dl;go_wp2_with fail;refine(CW.out _ bq.out).mono ?_;rintro e w2 ⟨rfl,a4⟩;have b4:=bq.out.trans (a4.mono bq.out.size);have HG:=AA (b4.trans ((AE w2 (.cells #[.int .i64 0,.int .i64 0,.bool false] 114)).mono b4.size));clear x0 x2 x3 eo ej E1 y0 y1 y2 y3 a4 b4 cl;go_wp2_with fail;go_ret;exact⟨AI S.out.symm,a0.out.trans (HG.out.mono a0.out.size)⟩
  .have ek:j=k.zW.length:=by omega
   have ad:=av.out;rw[ek] at ad;have S:=AA (show k.zW.all (Cn k)=true from Jl (f:=AT k.zW) (λk hk=>Eo hk) ad);have fj:¬(j:Int)<k.zW.length:=by omega
   clear av ad;go_wp2_with fail;go_ret;exact⟨AI S.out.symm,a0.out.trans (al.mono a0.out.size)⟩
theorem KD(m i e c:Value)(k:AN)(w:World)(h:Ma w m i e c k)(hs:EW k):
 Calls prog 36 #[.agg #[m,i,e,c]] w λr w'=>r=.returned (.bool (Cl k))/\Below w.heap.size w w':=by
 have N0:=yv w (.cells #[m,i,e,c] 28);have az:=AE w (.cells #[m,i,e,c] 28);replace h:=h.below az;have HK:=AA h;have Hs:=AA hs;obtain⟨x0,x1,x2,x3⟩:=AG N0;have KO:=AA (show Cl k=(Bs k.mem&&BI k.zZ&&BT k.zW&&Iq k&&(yC 12).all (Da k)&&(yC 12).all (Gs k)&&k.zW.all (Cn k)) from rfl);clear h hs;go_in;go_wp2_with fail;generalize w.alloc _=W0 at*;have HN:=AA N0;have a0:=AA az;have hb:Below W0.heap.size W0 W0:=yD _ _;clear N0 az;cases e1:Bs k.mem
 .have S:=AA (show Cl k=false by rw[KO.out];simp[e1])
  have C:=IK m k.mem _ (HK.out.1.below hb);rw[e1] at C;clear e1;go_wp2_with fail;refine C.mono ?_;rintro r w_ ⟨rfl,ar⟩;clear x0 x1 x2 x3;go_wp2_with fail;go_ret;exact⟨AI S.out.symm,a0.out.trans ((hb.trans (ar.mono hb.size)).mono a0.out.size)⟩
 have C:=IK m k.mem _ (HK.out.1.below hb);rw[e1] at C;have T1:=AA e1;rw[e1] at KO;clear e1;go_wp2_with fail;refine C.mono ?_;rintro r w_ ⟨rfl,ar⟩;replace hb:=hb.trans (ar.mono hb.size);clear ar C x0 x1 x2 x3;obtain⟨x0,x1,x2,x3⟩:=AG (AC HN.out hb);cases e2:BI k.zZ
 .have S:=AA (show Cl k=false by rw[KO.out];simp[e2])
  have C:=DO i k.zZ _ (BD.below HK.out.2.1 hb) Hs.out.1;rw[e2] at C;clear e2;go_wp2_with fail;refine C.mono ?_;rintro r w_ ⟨rfl,ar⟩;clear x0 x1 x2 x3;go_wp2_with fail;go_ret;exact⟨AI S.out.symm,a0.out.trans ((hb.trans (ar.mono hb.size)).mono a0.out.size)⟩
 have C:=DO i k.zZ _ (BD.below HK.out.2.1 hb) Hs.out.1;rw[e2] at C;have T2:=AA e2;rw[e2] at KO;clear e2;go_wp2_with fail;refine C.mono ?_;rintro r w_ ⟨rfl,ar⟩;replace hb:=hb.trans (ar.mono hb.size);clear ar C x0 x1 x2 x3;obtain⟨x0,x1,x2,x3⟩:=AG (AC HN.out hb);cases e3:BT k.zW
 .have S:=AA (show Cl k=false by rw[KO.out];simp[e3])
  have C:=Is c k.zW _ (BD.below HK.out.2.2.2 hb);rw[e3] at C;clear e3;go_wp2_with fail;refine C.mono ?_;rintro r w_ ⟨rfl,ar⟩;clear x0 x1 x2 x3;go_wp2_with fail;go_ret;exact⟨AI S.out.symm,a0.out.trans ((hb.trans (ar.mono hb.size)).mono a0.out.size)⟩
 have C:=Is c k.zW _ (BD.below HK.out.2.2.2 hb);rw[e3] at C;have T3:=AA e3;rw[e3] at KO;clear e3;go_wp2_with fail;refine C.mono ?_;rintro r w_ ⟨rfl,ar⟩;replace hb:=hb.trans (ar.mono hb.size);clear ar C x0 x1 x2 x3;obtain⟨x0,x1,x2,x3⟩:=AG (AC HN.out hb);cases e4:Iq k
 .have S:=AA (show Cl k=false by rw[KO.out];simp[e4])
  have C:=OP m i e c k _ (HK.out.1.below hb) T1.out (BD.below HK.out.2.1 hb) T2.out (HK.out.2.2.1.below hb) Hs.out.2;rw[e4] at C;clear e4;go_wp2_with fail;refine C.mono ?_;rintro r w_ ⟨rfl,ar⟩;clear x0 x1 x2 x3;go_wp2_with fail;go_ret;exact⟨AI S.out.symm,a0.out.trans ((hb.trans (ar.mono hb.size)).mono a0.out.size)⟩
 have C:=OP m i e c k _ (HK.out.1.below hb) T1.out (BD.below HK.out.2.1 hb) T2.out (HK.out.2.2.1.below hb) Hs.out.2;rw[e4] at C;have T4:=AA e4;rw[e4] at KO;clear e4;go_wp2_with fail;refine C.mono ?_;rintro r w_ ⟨rfl,ar⟩;replace hb:=hb.trans (ar.mono hb.size);clear ar C x0 x1 x2 x3;obtain⟨x0,x1,x2,x3⟩:=AG (AC HN.out hb);have cd:Hid (k.zX.length=3):=AA (by have:=T4.out;unfold Iq at this;rw[yp,decide_eq_true_eq] at this;exact this.2);have cC:Hid (∀j,j<3->(AJ k.zX j).root<12):=AA (by
  intro j hj;have h4:=T4.out;unfold Iq at h4;rw[yp,yd] at h4;have h5:=h4.1 _ (ye (KR (show j<k.zX.length by have:=cd.out;omega)));unfold Du at h5;simp only[yp,Bool.or_eq_true,decide_eq_true_eq,Ab] at h5
  rcases h5.1.2 with h|h<;>omega)
 cases e5:(yC 12).all (Da k)
 .have S:=AA (show Cl k=false by rw[KO.out];simp[e5])
  have C:=MC m i e c k _ (HK.out.1.below hb) T1.out (BD.below HK.out.2.1 hb) T2.out;rw[e5] at C;clear e5;go_wp2_with fail;refine C.mono ?_;rintro r w_ ⟨rfl,ar⟩;clear x0 x1 x2 x3;go_wp2_with fail;go_ret;exact⟨AI S.out.symm,a0.out.trans ((hb.trans (ar.mono hb.size)).mono a0.out.size)⟩
 have C:=MC m i e c k _ (HK.out.1.below hb) T1.out (BD.below HK.out.2.1 hb) T2.out;rw[e5] at C;have T5:=AA e5;rw[e5] at KO;clear e5;go_wp2_with fail;refine C.mono ?_;rintro r w_ ⟨rfl,ar⟩;replace hb:=hb.trans (ar.mono hb.size);clear ar C x0 x1 x2 x3;obtain⟨x0,x1,x2,x3⟩:=AG (AC HN.out hb);cases e6:(yC 12).all (Gs k)
 .have S:=AA (show Cl k=false by rw[KO.out];simp[e6])
  have C:=OQ m i e c k _ (HK.out.1.below hb) T1.out (BD.below HK.out.2.1 hb) T2.out (HK.out.2.2.1.below hb) cd.out cC.out;rw[e6] at C;clear e6;go_wp2_with fail;refine C.mono ?_;rintro r w_ ⟨rfl,ar⟩;clear x0 x1 x2 x3;go_wp2_with fail;go_ret;exact⟨AI S.out.symm,a0.out.trans ((hb.trans (ar.mono hb.size)).mono a0.out.size)⟩
 have C:=OQ m i e c k _ (HK.out.1.below hb) T1.out (BD.below HK.out.2.1 hb) T2.out (HK.out.2.2.1.below hb) cd.out cC.out;rw[e6] at C;have T6:=AA e6;rw[e6] at KO;clear e6;go_wp2_with fail;refine C.mono ?_;rintro r w_ ⟨rfl,ar⟩;replace hb:=hb.trans (ar.mono hb.size);clear ar C x0 x1 x2 x3;obtain⟨x0,x1,x2,x3⟩:=AG (AC HN.out hb);have C:=TI m i e c k _ (HK.out.1.below hb) T1.out (HK.out.2.2.1.below hb) cd.out (BD.below HK.out.2.2.2 hb) T3.out cC.out;have S:=AA (show Cl k=k.zW.all (Cn k) by rw[KO.out];simp);go_wp2_with fail;refine C.mono ?_;rintro r w_ ⟨rfl,ar⟩;go_wp2_with fail;go_ret;exact⟨AI S.out.symm,a0.out.trans ((hb.trans (ar.mono hb.size)).mono a0.out.size)⟩
theorem RX(v1 v2:Value)(xs:List ByteArray)(w:World)(h1:BR w v1 xs)(h2:BR w v2 xs):
 Calls prog 123 #[v1,v2] w λe w'=>e=.returned (.bool true)/\∃n,w'=w.drewN n:=by
 obtain⟨a1,c1,rfl,dk,bm,H1⟩:=BD.open Gv (by decide) h1;obtain⟨a2,c2,rfl,dj,bl,H2⟩:=BD.open Gv (by decide) h2;unfold maxLen at bm bl;clear h1 h2;have hb:((xs.length:Int) !=xs.length)=false:=by simp
 go_in;go_wp2_with fail;go_loopw [5] (λi wr=>∃k:Nat,k<=xs.length/\i=.int .i64 k/\∃n,wr=w.drewN n) (λi _=>xs.length - (intOf i).toNat)
 case atStart=>exact⟨0,yh _,rfl,0,rfl⟩
 case round=>
  obtain⟨k,hk,rfl,n,rfl⟩:=hrel
  by_cases ax:k<xs.length
  .have a6:(k:Int)<(xs.length:Int):=by omega
   obtain⟨b1,o1,rfl,D1⟩:=H1.str ax;obtain⟨b2,o2,rfl,D2⟩:=H2.str ax;clear H1 H2;go_wp2_with fail;go_quiet (fail);go_wp2_with fail;go_roundw
   case rel=>exact⟨k+1,by omega,by go_num,_,rfl⟩
   case measure=>simp[intOf];omega
  .have a6:¬(k:Int)<(xs.length:Int):=by omega
   go_wp2_with fail;go_ret;exact⟨rfl,_,rfl⟩
theorem RT(v1 v2:Value)(xs:List AU)(w:World)(h1:BS w v1 xs)(h2:BS w v2 xs):
 Calls prog 68 #[v1,v2] w λe w'=>e=.returned (.bool true)/\∃n,w'=w.drewN n:=by
 obtain⟨a1,c1,rfl,dk,bm,H1⟩:=BD.open Ay (by decide) h1;obtain⟨a2,c2,rfl,dj,bl,H2⟩:=BD.open Ay (by decide) h2;unfold maxLen at bm bl;clear h1 h2;have hb:((xs.length:Int) !=xs.length)=false:=by simp
 go_in;go_wp2_with fail;go_loopw [5] (λi wr=>∃k:Nat,k<=xs.length/\i=.int .i64 k/\∃n,wr=w.drewN n) (λi _=>xs.length - (intOf i).toNat)
 case atStart=>exact⟨0,yh _,rfl,0,rfl⟩
 case round=>
  obtain⟨k,hk,rfl,n,rfl⟩:=hrel
  by_cases ax:k<xs.length
  .have a6:(k:Int)<(xs.length:Int):=by omega
   obtain⟨b1,o1,rfl,_,ed,ea,eZ⟩:=H1.zP ax;obtain⟨b2,o2,rfl,_,d9,d7,eY⟩:=H2.zP ax;clear H1 H2;go_wp2_with fail;go_quiet (fail);go_wp2_with fail;go_roundw
   case rel=>exact⟨k+1,by omega,by go_num,_,rfl⟩
   case measure=>simp[intOf];omega
  .have a6:¬(k:Int)<(xs.length:Int):=by omega
   go_wp2_with fail;go_ret;exact⟨rfl,_,rfl⟩
theorem RO(v1 v2:Value)(xs:List Al)(w:World)(h1:Dz w v1 xs)(h2:Dz w v2 xs):
 Calls prog 70 #[v1,v2] w λe w'=>e=.returned (.bool true)/\∃n,w'=w.drewN n:=by
 obtain⟨a1,c1,rfl,dk,bm,H1⟩:=BD.open Ch (by decide) h1;obtain⟨a2,c2,rfl,dj,bl,H2⟩:=BD.open Ch (by decide) h2;unfold maxLen at bm bl;clear h1 h2;have hb:((xs.length:Int) !=xs.length)=false:=by simp
 go_in;go_wp2_with fail;go_loopw [5] (λi wr=>∃k:Nat,k<=xs.length/\i=.int .i64 k/\∃n,wr=w.drewN n) (λi _=>xs.length - (intOf i).toNat)
 case atStart=>exact⟨0,yh _,rfl,0,rfl⟩
 case round=>
  obtain⟨k,hk,rfl,n,rfl⟩:=hrel
  by_cases ax:k<xs.length
  .have a6:(k:Int)<(xs.length:Int):=by omega
   obtain⟨b1,o1,rfl,_,ed,ea,eZ,gh⟩:=H1.zL ax;obtain⟨b2,o2,rfl,_,d9,d7,eY,gf⟩:=H2.zL ax;clear H1 H2;go_wp2_with fail;go_quiet (fail);go_wp2_with fail;go_roundw
   case rel=>exact⟨k+1,by omega,by go_num,_,rfl⟩
   case measure=>simp[intOf];omega
  .have a6:¬(k:Int)<(xs.length:Int):=by omega
   go_wp2_with fail;go_ret;exact⟨rfl,_,rfl⟩
theorem Sk.zq{w:World}{a:Option Addr}{xs:List Bk}(h:Sk 3 Cw w a xs){k:Nat}(hk:k<xs.length):∃b bf,a=some ⟨b,bf,none⟩/\b<w.heap.size/\w.cell? ⟨b,bf+k*3,none⟩=some (.int .i64 (AB xs k).w)/\w.cell? ⟨b,bf+k*3+1,none⟩=some (.int .i64 (AB xs k).a)/\w.cell? ⟨b,bf+k*3+2,none⟩=some (.bool (AB xs k).u):=by obtain⟨b,bf,rfl,cJ,hc⟩:=h k _ (show xs[k]?=some (AB xs k) from A1 hk);exact⟨b,bf,rfl,cJ,by simpa using hc 0 _ rfl,hc 1 _ rfl,hc 2 _ rfl⟩
theorem RU(v1 v2:Value)(xs:List Bk)(w:World)(h1:BD 3 Cw w v1 xs)(h2:BD 3 Cw w v2 xs):
 Calls prog 35 #[v1,v2] w λe w'=>e=.returned (.bool true)/\∃n,w'=w.drewN n:=by
 obtain⟨a1,c1,rfl,dk,bm,H1⟩:=BD.open DT (by decide) h1;obtain⟨a2,c2,rfl,dj,bl,H2⟩:=BD.open DT (by decide) h2;unfold maxLen at bm bl;clear h1 h2;have hb:((xs.length:Int) !=xs.length)=false:=by simp
 go_in;go_wp2_with fail;go_loopw [5] (λi wr=>∃k:Nat,k<=xs.length/\i=.int .i64 k/\∃n,wr=w.drewN n) (λi _=>xs.length - (intOf i).toNat)
 case atStart=>exact⟨0,yh _,rfl,0,rfl⟩
 case round=>
  obtain⟨k,hk,rfl,n,rfl⟩:=hrel
  by_cases ax:k<xs.length
  .have a6:(k:Int)<(xs.length:Int):=by omega
   obtain⟨b1,o1,rfl,_,ed,ea,eZ⟩:=H1.zq ax;obtain⟨b2,o2,rfl,_,d9,d7,eY⟩:=H2.zq ax;clear H1 H2;go_wp2_with fail;go_quiet (fail);go_wp2_with fail;go_roundw
   case rel=>exact⟨k+1,by omega,by go_num,_,rfl⟩
   case measure=>simp[intOf];omega
  .have a6:¬(k:Int)<(xs.length:Int):=by omega
   go_wp2_with fail;go_ret;exact⟨rfl,_,rfl⟩
theorem QA{P:Program}{f:FuncId}{bB:Array Value}{w:World}{n:Nat}(h:∀m,Calls P f bB (w.drewN m) λe w'=>e=.returned (.bool true)/\∃j,w'=(w.drewN m).drewN j):∀x,Calls P f bB (w.drewN (n+x)) λe fb=>e=.returned (.bool true)/\∃j,fb=w.drewN (n+j):=by intro x;refine(h (n+x)).mono ?_;rintro e w' ⟨rfl,j,rfl⟩;exact⟨rfl,x+j,by rw[LD,Nat.add_assoc]⟩
theorem MG(v1 v2:Value)(xs:List Int)(w:World)(h1:Aw w v1 xs)(h2:Aw w v2 xs):
 Calls prog 19 #[v1,v2] w λe w'=>e=.returned (.bool true)/\∃n,w'=w.drewN n:=by
 refine(M9 v1 v2 xs xs w h1 h2).mono ?_;rintro e w' ⟨rfl,h⟩;exact⟨by simp,h⟩
theorem LV(v1 v2:Value)(xs:List (List Int))(w:World)(h1:Bf w v1 xs)(h2:Bf w v2 xs):
 Calls prog 34 #[v1,v2] w λe w'=>e=.returned (.bool true)/\∃n,w'=w.drewN n:=by
 obtain⟨a1,c1,rfl,dk,bm,H1⟩:=h1.open;obtain⟨a2,c2,rfl,dj,bl,H2⟩:=h2.open;unfold maxLen at bm bl;clear h1 h2;have hb:((xs.length:Int) !=xs.length)=false:=by simp
 go_in;go_wp2_with fail;go_loopw [5] (λi wr=>∃k:Nat,k<=xs.length/\i=.int .i64 k/\∃n,wr=w.drewN n) (λi _=>xs.length - (intOf i).toNat)
 case atStart=>exact⟨0,yh _,rfl,0,rfl⟩
 case round=>
  obtain⟨k,hk,rfl,n,rfl⟩:=hrel
  by_cases ax:k<xs.length
  .have a6:(k:Int)<(xs.length:Int):=by omega
   obtain⟨b1,o1,u1,rfl,_,D1,R1⟩:=H1 k ax;obtain⟨b2,o2,u2,rfl,_,D2,R2⟩:=H2 k ax;have HQ:=AA (QA (w:=w) (n:=n) λm=>MG u1 u2 (AH xs k) (w.drewN m) (R1.below (A8 (yD _ _) m)) (R2.below (A8 (yD _ _) m)));clear H1 H2 R1 R2;go_wp2_with fail;go_quiet ((go_at_call 19;exact HQ.out _));go_wp2_with fail;go_roundw
   case rel=>exact⟨k+1,by omega,by go_num,_,rfl⟩
   case measure=>simp[intOf];omega
  .have a6:¬(k:Int)<(xs.length:Int):=by omega
   go_wp2_with fail;go_ret;exact⟨rfl,_,rfl⟩
theorem Tl(v1 v2:Value)(xs:List EU)(w:World)(h1:Fq w v1 xs)(h2:Fq w v2 xs):
 Calls prog 69 #[v1,v2] w λe w'=>e=.returned (.bool true)/\∃n,w'=w.drewN n:=by
 obtain⟨a1,c1,rfl,dk,bm,H1⟩:=h1.open;obtain⟨a2,c2,rfl,dj,bl,H2⟩:=h2.open;unfold maxLen at bm bl;clear h1 h2;have hb:((xs.length:Int) !=xs.length)=false:=by simp
 go_in;go_wp2_with fail;go_loopw [5] (λi wr=>∃k:Nat,k<=xs.length/\i=.int .i64 k/\∃n,wr=w.drewN n) (λi _=>xs.length - (intOf i).toNat)
 case atStart=>exact⟨0,yh _,rfl,0,rfl⟩
 case round=>
  obtain⟨k,hk,rfl,n,rfl⟩:=hrel
  by_cases ax:k<xs.length
  .have a6:(k:Int)<(xs.length:Int):=by omega
   obtain⟨b1,o1,fO,fM,rfl,_,ed,ea,R1⟩:=H1 k ax;obtain⟨b2,o2,fN,fL,rfl,_,d9,d7,R2⟩:=H2 k ax;have HQ:=AA (QA (w:=w) (n:=n) λm=>RX _ _ (AJ xs k).zT (w.drewN m) (BD.below R1 (A8 (yD _ _) m)) (BD.below R2 (A8 (yD _ _) m)));clear H1 H2 R1 R2;go_wp2_with fail;go_quiet ((go_at_call 123;exact HQ.out _));go_wp2_with fail;go_roundw
   case rel=>exact⟨k+1,by omega,by go_num,_,rfl⟩
   case measure=>simp[intOf];omega
  .have a6:¬(k:Int)<(xs.length:Int):=by omega
   go_wp2_with fail;go_ret;exact⟨rfl,_,rfl⟩
theorem Ge{P:Program}{f:FuncId}{bB:Array Value}{w:World}{v:Ending}(h:Calls P f bB w λe w'=>e=v/\∃n,w'=w.drewN n):Calls P f bB w λe w'=>e=v/\Below w.heap.size w w':=L7 h
theorem QO(m i e c m' i' e' c':Value)(k:AN)(w:World)(h1:Ma w m i e c k)(h2:Ma w m' i' e' c' k):
 Calls prog 33 #[.agg #[m,i,e,c],.agg #[m',i',e',c']] w λr w'=>r=.returned (.bool true)/\Below w.heap.size w w':=by
 obtain⟨N0,N1,az,db⟩:=Jy w (.cells #[m,i,e,c] 28) (.cells #[m',i',e',c'] 28);have H1:=AA (h1.below az);have H2:=AA (h2.below az);clear h1 h2;go_in;go_wp2_with fail;generalize(w.alloc _).alloc _=W0 at*;have HN:=AA (And.intro N0 N1);have a0:=AA az;obtain⟨x0,x1,x2,x3⟩:=AG N0;obtain⟨y0,y1,y2,y3⟩:=AG N1;clear N0 N1 az db;have hb:Below W0.heap.size W0 W0:=yD _ _;go_wp2_with fail;refine(Ge (LV m m' k.mem _ (H1.out.1.below hb) (H2.out.1.below hb))).mono ?_;rintro r w_ ⟨rfl,ar⟩;replace hb:=hb.trans (ar.mono hb.size);clear ar x0 x1 x2 x3 y0 y1 y2 y3;obtain⟨x0,x1,x2,x3⟩:=AG (AC HN.out.1 hb);obtain⟨y0,y1,y2,y3⟩:=AG (AC HN.out.2 hb);go_wp2_with fail;refine(Ge (RT i i' k.zZ _ (BD.below H1.out.2.1 hb) (BD.below H2.out.2.1 hb))).mono ?_;rintro r w_ ⟨rfl,ar⟩;replace hb:=hb.trans (ar.mono hb.size);clear ar x0 x1 x2 x3 y0 y1 y2 y3;obtain⟨x0,x1,x2,x3⟩:=AG (AC HN.out.1 hb);obtain⟨y0,y1,y2,y3⟩:=AG (AC HN.out.2 hb);go_wp2_with fail;refine(Ge (Tl e e' k.zX _ (H1.out.2.2.1.below hb) (H2.out.2.2.1.below hb))).mono ?_;rintro r w_ ⟨rfl,ar⟩;replace hb:=hb.trans (ar.mono hb.size);clear ar x0 x1 x2 x3 y0 y1 y2 y3;obtain⟨x0,x1,x2,x3⟩:=AG (AC HN.out.1 hb);obtain⟨y0,y1,y2,y3⟩:=AG (AC HN.out.2 hb);go_wp2_with fail;refine(Ge (RO c c' k.zW _ (BD.below H1.out.2.2.2 hb) (BD.below H2.out.2.2.2 hb))).mono ?_;rintro r w_ ⟨rfl,ar⟩;replace hb:=hb.trans (ar.mono hb.size);clear ar x0 x1 x2 x3 y0 y1 y2 y3;obtain⟨x0,x1,x2,x3⟩:=AG (AC HN.out.1 hb);obtain⟨y0,y1,y2,y3⟩:=AG (AC HN.out.2 hb);go_wp2_with fail;go_ret;exact⟨rfl,a0.out.trans (hb.mono a0.out.size)⟩
theorem FB(m i e c s l q m' i' e' c' s' l' q':Value)(P:AR)(w:World)(h1:Kx w m i e c s l q P)(h2:Kx w m' i' e' c' s' l' q' P):
 Calls prog 13 #[AO m i e c s l q P.zR P.zU,AO m' i' e' c' s' l' q' P.zR P.zU] w λr w'=>r=.returned (.bool true)/\Below w.heap.size w w':=by
 unfold AO;obtain⟨N0,N1,az,db⟩:=Jy w (.cells #[m,i,e,c,s,l,q,.int .i64 P.zR,.int .i64 P.zU] 32) (.cells #[m',i',e',c',s',l',q',.int .i64 P.zR,.int .i64 P.zU] 32);have H1:=AA (h1.below az);have H2:=AA (h2.below az);clear h1 h2;go_in;go_wp2_with fail;generalize(w.alloc _).alloc _=W0 at*;have HN:=AA (And.intro N0 N1);have a0:=AA az;obtain⟨x0,x1,x2,x3,x4,x5,x6,x7,x8⟩:=AD N0;obtain⟨y0,y1,y2,y3,y4,y5,y6,y7,y8⟩:=AD N1;clear N0 N1 az db;have hb:Below W0.heap.size W0 W0:=yD _ _;go_wp2_with fail;refine(QO m i e c m' i' e' c' P.zV _ (H1.out.1.below hb) (H2.out.1.below hb)).mono ?_;rintro r w_ ⟨rfl,ar⟩;replace hb:=hb.trans (ar.mono hb.size);clear ar x0 x1 x2 x3 x4 x5 x6 x7 x8 y0 y1 y2 y3 y4 y5 y6 y7 y8;obtain⟨x0,x1,x2,x3,x4,x5,x6,x7,x8⟩:=AD (AC HN.out.1 hb);obtain⟨y0,y1,y2,y3,y4,y5,y6,y7,y8⟩:=AD (AC HN.out.2 hb);go_wp2_with fail;refine(Ge (LV s s' P.swap _ (H1.out.2.1.below hb) (H2.out.2.1.below hb))).mono ?_;rintro r w_ ⟨rfl,ar⟩;replace hb:=hb.trans (ar.mono hb.size);clear ar x0 x1 x2 x3 x4 x5 x6 x7 x8 y0 y1 y2 y3 y4 y5 y6 y7 y8;obtain⟨x0,x1,x2,x3,x4,x5,x6,x7,x8⟩:=AD (AC HN.out.1 hb);obtain⟨y0,y1,y2,y3,y4,y5,y6,y7,y8⟩:=AD (AC HN.out.2 hb);go_wp2_with fail;refine(Ge (MG l l' P.low _ (H1.out.2.2.1.below hb) (H2.out.2.2.1.below hb))).mono ?_;rintro r w_ ⟨rfl,ar⟩;replace hb:=hb.trans (ar.mono hb.size);clear ar x0 x1 x2 x3 x4 x5 x6 x7 x8 y0 y1 y2 y3 y4 y5 y6 y7 y8;obtain⟨x0,x1,x2,x3,x4,x5,x6,x7,x8⟩:=AD (AC HN.out.1 hb);obtain⟨y0,y1,y2,y3,y4,y5,y6,y7,y8⟩:=AD (AC HN.out.2 hb);go_wp2_with fail;refine(Ge (RU q q' P.zY _ (BD.below H1.out.2.2.2 hb) (BD.below H2.out.2.2.2 hb))).mono ?_;rintro r w_ ⟨rfl,ar⟩;replace hb:=hb.trans (ar.mono hb.size);clear ar x0 x1 x2 x3 x4 x5 x6 x7 x8 y0 y1 y2 y3 y4 y5 y6 y7 y8;obtain⟨x0,x1,x2,x3,x4,x5,x6,x7,x8⟩:=AD (AC HN.out.1 hb);obtain⟨y0,y1,y2,y3,y4,y5,y6,y7,y8⟩:=AD (AC HN.out.2 hb);go_wp2_with fail;go_ret;exact⟨rfl,a0.out.trans (hb.mono a0.out.size)⟩
def Ro(p:AR):Bool:=decide (p.zU<=(Ac p.zY 1:Int))||decide (Am p.zV.zZ<0)
theorem MO{zZ:List AU}:Am zZ<0↔zZ.countP (λx=>decide (x.k=0))=0:=by
 unfold Am;rw[List.countP_eq_zero];constructor
 .intro h x hx hk
  rw[if_pos (vo.2 ⟨x,hx,hk⟩)] at h;omega
 .intro h
  rw[if_neg]
  .decide
  .intro ha
   obtain⟨x,hx,hk⟩:=vo.1 ha;exact h x hx hk
def Lw(r:List Int):Bool:=r.isEmpty||Di r
theorem Sg{s:List (List Int)}:FE s=(s.all Lw&&decide (s.length=16)):=rfl
theorem Hz(v:Value)(s:List (List Int))(w:World)(h:Bf w v s):Calls prog 37 #[v] w λe w'=>e=.returned (.bool (FE s))/\Below w.heap.size w w':=by
 obtain⟨ao,c,rfl,hc,dh,H⟩:=h.open;unfold maxLen at dh;have HH:=AA H;clear h H;go_in;go_wp2_with fail;go_loopw [3] (λix wr=>∃k:Nat,k<=s.length/\ix=.int .i64 k/\(∀j,j<k->Lw (AH s j)=true)/\Below w.heap.size w wr) (λix _=>s.length - (intOf ix).toNat)
 case atStart=>exact⟨0,yh _,rfl,λj hj=>absurd hj (xP _),yD _ _⟩
 case round=>
  obtain⟨k,hk,rfl,ad,hb⟩:=hrel;have av:=AA ad;clear ad
  by_cases ax:k<s.length
  .have a6:(k:Int)<(s.length:Int):=by omega
   obtain⟨b,bf,u,rfl,cJ,D,hr⟩:=(HH.out.below hb) k ax;have C:=LJ u _ wr hr;obtain⟨au,cu,rfl,_,_,_⟩:=hr.open
   by_cases he:(AH s k).length=0
   .have t0:¬(0:Int)<(AH s k).length:=by omega
    have S:=AA (show Lw (AH s k)=true by unfold Lw;rw[List.isEmpty_iff.2 (List.eq_nil_of_length_eq_zero he)];rfl);clear C hr he;go_wp2_with fail;go_roundw
    case rel=>exact⟨k+1,by omega,by go_num,Ak av.out S.out,hb⟩
    case measure=>simp[intOf];omega
   .have t0:(0:Int)<(AH s k).length:=by omega
    have E:Lw (AH s k)=Di (AH s k):=by
     unfold Lw;have:(AH s k).isEmpty=false:=by cases hx:AH s k;rw[hx] at he;exact absurd rfl he;rfl
     rw[this,Bool.false_or]
    have C:=AA C;cases h2:Di (AH s k)
    .have S:=AA (show FE s=false by rw[Sg,Ip (Jq ax) (E.trans h2)];rfl)
     have T:=AA h2;clear hr he E h2;go_wp2_with fail;refine C.out.mono ?_;rintro e w2 ⟨rfl,b2⟩;rw[T.out];go_wp2_with fail;go_ret;exact⟨AI S.out.symm,hb.trans (b2.mono hb.size)⟩
    .have S:=AA (E.trans h2)
     have T:=AA h2;clear hr he E h2;go_wp2_with fail;refine C.out.mono ?_;rintro e w2 ⟨rfl,b2⟩;rw[T.out];go_wp2_with fail;go_roundw
     case rel=>exact⟨k+1,by omega,by go_num,Ak av.out S.out,hb.trans (b2.mono hb.size)⟩
     case measure=>simp[intOf];omega
  .have ek:k=s.length:=by omega
   have ad:=av.out;rw[ek] at ad;have S:=AA (show FE s=((s.length:Int)==16) by
    rw[Sg,Jl (λk hk=>Jq hk) ad,vT]
    by_cases h3:s.length=16<;>simp[h3]<;>omega)
   have a6:¬(k:Int)<(s.length:Int):=by omega
   clear av ad;go_wp2_with fail;go_ret;exact⟨AI S.out.symm,hb⟩
theorem Mp(m i e c:Value)(k:AN)(w:World)(hE:Fq w e k.zX)(cd:k.zX.length=3)(da:∀j,j<k.zX.length->DQ (AJ k.zX j).zT):
 Calls prog 38 #[.agg #[m,i,e,c]] w λr w'=>r=.returned (.bool (Gb k))/\Below w.heap.size w w':=by
 have N0:=yv w (.cells #[m,i,e,c] 28);have az:=AE w (.cells #[m,i,e,c] 28);obtain⟨ae,ce,rfl,_,_,ct⟩:=(hE.below az).open;have AL:Gb k=(Bv (AJ k.zX 0).zT gA&&!Bv (AJ k.zX 1).zT gA&&!Bv (AJ k.zX 2).zT gA):=rfl;have CM:=AA (λv j (hj:j<3) W (hW:BR W v (AJ k.zX j).zT)=>KS v (AJ k.zX j).zT gA W hW (da j (by omega)) (by decide));unfold gA at CM;have ch:=AA cd;clear cd da hE;go_in;go_wp2_with fail;generalize w.alloc _=W0 at*;have HN:=AA N0;have HE:=AA ct;have a0:=AA az;have HA:=AA AL;clear N0 ct az AL;go_loopw [3] (λix wr=>∃j:Nat,1<=j/\j<=3/\ix=.int .i64 j/\(∀j',1<=j'->j'<j->Bv (AJ k.zX j').zT gA=false)/\Below W0.heap.size W0 wr) (λix _=>3 - (intOf ix).toNat)
 case atStart=>exact⟨1,by omega,by omega,rfl,λj h1 h2=>by omega,yD _ _⟩
 case round=>
  obtain⟨j,fX,hj,rfl,ad,hb⟩:=hrel;have av:=AA ad;clear ad;obtain⟨_,_,x2,_⟩:=AG (AC HN.out hb)
  by_cases ax:j<3
  .have dg:(j:Int)<k.zX.length:=by have:=ch.out;omega
   obtain⟨b,bf,ua,uc,rfl,cJ,D0,_,RR⟩:=(HE.out.below hb) j (by have:=ch.out;omega);have C:=CM.out _ j ax wr RR;cases hm:Bv (AJ k.zX j).zT ⟨#[97]⟩
   .rw[hm] at C
    have S:=AA (show Bv (AJ k.zX j).zT gA=false from hm);clear hm RR;go_wp2_with fail;refine C.mono ?_;rintro r w2 ⟨rfl,b2⟩;go_wp2_with fail;go_roundw
    case rel=>exact⟨j+1,by omega,by omega,by go_num,λj' h1 h2=>by
     rcases Nat.lt_succ_iff_lt_or_eq.1 h2 with h|rfl
     .exact av.out j' h1 h
     .exact S.out,hb.trans (b2.mono hb.size)⟩
    case measure=>simp[intOf];omega
   .rw[hm] at C
    have S:=AA (show Gb k=false by
     have fi:Bv (AJ k.zX j).zT gA=true:=hm;rw[HA.out];have:j=1∨j=2:=by omega
     rcases this with rfl|rfl<;>rw[fi]<;>simp)
    clear hm RR;go_wp2_with fail;refine C.mono ?_;rintro r w2 ⟨rfl,b2⟩;go_wp2_with fail;go_ret;exact⟨AI S.out.symm,a0.out.trans ((hb.trans (b2.mono hb.size)).mono a0.out.size)⟩
  .obtain rfl:j=3:=by omega
   obtain⟨b,bf,ua,uc,rfl,cJ,D0,_,RR⟩:=(HE.out.below hb) 0 (by have:=ch.out;omega);have C:=CM.out _ 0 (by omega) wr RR;have dg:¬((3:Nat):Int)<k.zX.length:=by have:=ch.out;omega
   have fk:¬(3:Int)<k.zX.length:=by have:=ch.out;omega
   have f5:(0:Int)<k.zX.length:=by have:=ch.out;omega
   have S:=AA (show Gb k=Bv (AJ k.zX 0).zT ⟨#[97]⟩ by rw[HA.out,av.out 1 (by omega) (by omega),av.out 2 (by omega) (by omega)];simp[gA])
   have e0:bf+0*2=bf:=by omega
   rw[e0] at D0;clear RR av;go_wp2_with fail;refine C.mono ?_;rintro r w2 ⟨rfl,b2⟩;go_wp2_with fail;go_ret;exact⟨AI S.out.symm,a0.out.trans ((hb.trans (b2.mono hb.size)).mono a0.out.size)⟩
theorem OH{l:List Bk}{k:Nat}{wh:Int}(hk:k<l.length):Ac (l.take (k+1)) wh=Ac (l.take k) wh+(if(AB l k).w=wh then 1 else 0):=by
 unfold Ac;rw[Cx (x:=AB l k) (A1 hk),tx]
 congr 1
 simp only[xC,sR,Nn,decide_eq_true_eq,Nat.zero_add]
theorem Ni{l:List Bk}{wh:Int}:Ac l wh<=l.length:=by unfold Ac;exact vO
theorem Mq(mv iv ev cv sv lv qv:Value)(P:AR)(wh:Int)(w:World)(h:BD 3 Cw w qv P.zY)(hl:P.zY.length<=1048576):
 Calls prog 43 #[AO mv iv ev cv sv lv qv P.zR P.zU,.int .i64 wh] w λr w'=>r=.returned (.int .i64 (Ac P.zY wh:Nat))/\Below w.heap.size w w':=by
 unfold AO;have N0:=yv w (.cells #[mv,iv,ev,cv,sv,lv,qv,.int .i64 P.zR,.int .i64 P.zU] 32);have az:=AE w (.cells #[mv,iv,ev,cv,sv,lv,qv,.int .i64 P.zR,.int .i64 P.zU] 32);obtain⟨aq,cq,rfl,_,_,eV⟩:=BD.open DT (by decide) (BD.below h az);obtain⟨_,_,_,_,_,_,x6,_,_⟩:=AD N0;clear h;go_in;go_wp2_with fail;generalize w.alloc _=W0 at*;have HQ:=AA eV;clear eV N0;go_loopw [5,6] (λn ix wr=>∃k:Nat,k<=P.zY.length/\ix=.int .i64 k/\n=.int .i64 (Ac (P.zY.take k) wh:Nat)/\W0=wr) (λn ix _=>P.zY.length - (intOf ix).toNat)
 case atStart=>exact⟨0,yh _,rfl,rfl,rfl⟩
 case round=>
  obtain⟨k,hk,rfl,rfl,rfl⟩:=hrel
  by_cases ax:k<P.zY.length
  .have dQ:(k:Int)<P.zY.length:=by omega
   obtain⟨b,bf,rfl,_,D0,_,_⟩:=HQ.out.zq ax;have S:=OH (wh:=wh) ax;have dH:=Ni (l:=P.zY.take k) (wh:=wh);rw[xT] at dH
   by_cases hw:(AB P.zY k).w=wh
   .rw[if_pos hw] at S
    have t0:((AB P.zY k).w==wh)=true:=by simp[hw]
    have S:=AA S;generalize Ac (P.zY.take k) wh=n0 at*;clear hw;go_wp2_with fail;go_roundw
    case rel=>exact⟨k+1,by omega,by go_num,by rw[S.out];go_num,by first|rfl|trivial⟩
    case measure=>simp[intOf];omega
   .rw[if_neg hw] at S
    have t0:((AB P.zY k).w==wh)=false:=by simp[hw]
    have S:=AA S;clear hw;go_wp2_with fail;go_roundw
    case rel=>exact⟨k+1,by omega,by go_num,by rw[S.out,Nat.add_zero],by first|rfl|trivial⟩
    case measure=>simp[intOf];omega
  .obtain rfl:k=P.zY.length:=by omega
   have dQ:¬(P.zY.length:Int)<P.zY.length:=by omega
   rw[xt];go_wp2_with fail;go_ret;exact⟨rfl,az⟩
theorem PZ{l:List AU}{k:Nat}(hk:k<l.length):(l.take (k+1)).countP (λx=>decide (x.k=0))=(l.take k).countP (λx=>decide (x.k=0))+(if(zS l k).k=0 then 1 else 0):=by
 rw[Cx (Cj hk),tx]
 congr 1
 simp only[xC,sR,decide_eq_true_eq,Nat.zero_add]
theorem QI(v:Value)(l:List AU)(w:World)(h:BS w v l)(bs:BI l=true):
 Calls prog 89 #[v] w λr w'=>r=.returned (.int .i64 (l.countP (λx=>decide (x.k=0)):Nat))/\Below w.heap.size w w':=by
 have CV:=DO v l w h (CJ bs);rw[bs] at CV;obtain⟨ai,ci,rfl,_,_,H0⟩:=BD.open Ay (by decide) h;have dP:=(Az.1 bs).1;have fV:(l.length:Int)<=12:=by omega
 have HH:=AA H0;have CV:=AA CV;clear h H0 bs dP;go_in;go_wp2_with fail;go_loopw [3,4] (λn ix wr=>∃k:Nat,k<=l.length/\ix=.int .i64 k/\n=.int .i64 ((l.take k).countP (λx=>decide (x.k=0)):Nat)/\w=wr) (λn ix _=>l.length - (intOf ix).toNat)
 case atStart=>exact⟨0,yh _,rfl,rfl,rfl⟩
 case round=>
  obtain⟨k,hk,rfl,rfl,rfl⟩:=hrel
  by_cases ax:k<l.length
  .have dQ:(k:Int)<l.length:=by omega
   obtain⟨b,bf,rfl,_,D0,_,_⟩:=HH.out.zP ax;have S:=PZ ax;have dH:=vO (p:=λx:AU=>decide (x.k=0)) (l:=l.take k);rw[xT] at dH
   by_cases hw:(zS l k).k=0
   .rw[if_pos hw] at S
    have t0:((zS l k).k==0)=true:=by simp[hw]
    have S:=AA S;generalize List.countP _ (l.take k)=n0 at*;clear hw;go_wp2_with fail;go_roundw
    case rel=>exact⟨k+1,by omega,by go_num,by rw[S.out];go_num,by first|rfl|trivial⟩
    case measure=>simp[intOf];omega
   .rw[if_neg hw] at S
    have t0:((zS l k).k==0)=false:=by simp[hw]
    have S:=AA S;clear hw;go_wp2_with fail;go_roundw
    case rel=>exact⟨k+1,by omega,by go_num,by rw[S.out,Nat.add_zero],by first|rfl|trivial⟩
    case measure=>simp[intOf];omega
  .obtain rfl:k=l.length:=by omega
   have dQ:¬(l.length:Int)<l.length:=by omega
   rw[xt];go_wp2_with fail;refine CV.out.mono ?_;rintro r w2 ⟨rfl,b2⟩;go_wp2_with fail;go_ret;exact⟨rfl,b2⟩
theorem UV{s:List (List Int)}{k:Nat}(hk:k<s.length)(h:∀j,j<k->(AH s j).isEmpty=false)(hp:(AH s k).isEmpty=true):BY s=(k:Int):=by
 have g:∀j (hj:j<s.length),s[j]=AH s j:=λj hj=>by have:=Jq hj;rw[List.getElem?_eq_getElem hj] at this;exact yF this
 unfold BY;rw[if_pos (Ng (Jq hk) hp)];have:s.findIdx List.isEmpty=k:=by
  rw[List.findIdx_eq hk];exact⟨by rw[g k hk];exact hp,λj hj=>by rw[g j (by omega)];exact h j hj⟩
 rw[this]
theorem TD{s:List (List Int)}(h:∀j,j<s.length->(AH s j).isEmpty=false):BY s= -1:=by
 unfold BY;rw[if_neg];rw[LA (λk hk=>Jq hk) h];simp
theorem Ui(v:Value)(s:List (List Int))(w:World)(h:Bf w v s):Calls prog 196 #[v] w λe w'=>e=.returned (.int .i64 (BY s))/\Below w.heap.size w w':=by
 obtain⟨ao,c,rfl,hc,dh,H⟩:=h.open;unfold maxLen at dh;have HH:=AA H;clear h H;go_in;go_wp2_with fail;go_loopw [3] (λix wr=>∃k:Nat,k<=s.length/\ix=.int .i64 k/\(∀j,j<k->(AH s j).isEmpty=false)/\Below w.heap.size w wr) (λix _=>s.length - (intOf ix).toNat)
 case atStart=>exact⟨0,yh _,rfl,λj hj=>absurd hj (xP _),yD _ _⟩
 case round=>
  obtain⟨k,hk,rfl,ad,hb⟩:=hrel;have av:=AA ad;clear ad
  by_cases ax:k<s.length
  .have a6:(k:Int)<(s.length:Int):=by omega
   obtain⟨b,bf,u,rfl,cJ,D,hr⟩:=(HH.out.below hb) k ax;obtain⟨au,cu,rfl,_,_,_⟩:=hr.open;cases hp:(AH s k).isEmpty
   .have t0:(((AH s k).length:Int)==0)=false:=by rw[<-hp];cases hx:AH s k<;>simp<;>omega
    have Hp:=AA hp;clear hp;go_wp2_with fail;go_roundw
    case rel=>exact⟨k+1,by omega,by go_num,Ak av.out Hp.out,hb⟩
    case measure=>simp[intOf];omega
   .have t0:(((AH s k).length:Int)==0)=true:=by rw[<-hp];cases hx:AH s k<;>simp<;>omega
    have S:=AA (UV ax av.out hp);have Hp:=AA hp;clear hp;go_wp2_with fail;go_ret;exact⟨Cb S.out.symm,hb⟩
  .have ek:k=s.length:=by omega
   have ad:=av.out;rw[ek] at ad;have S:=AA (TD ad);clear av ad;go_wp2_with fail;go_ret;exact⟨Cb S.out.symm,hb⟩
theorem VV{k:AN}{c:Aa}(h:c.k=1):Ad k c=Ix k c:=by unfold Ad;rw[if_pos h]
theorem Uh{lo:Nat}{m:Value}{k:AN}{w:World}(h:DP lo w m iv ev cv k)(ay:lo<=w.heap.size)(hk:DJ k)(call:Aa)(he:0<=call.e/\call.e<3)(h2:call.k=1)(dA:call.nm.size<=maxLen):
 Calls prog 171 #[.agg #[m,iv,ev,cv],.agg call.cs] w (Kr lo w (Ad k call)):=by
 have bk:=SC.start h ay call;have P0:Ad k call=if BP call.nm=false then(k,0,3) else if Bv (AJ k.zX call.e.toNat).zT call.nm=false then(k,0,1) else if Am k.zZ<0 then(k,0,4) else({k with zZ:=k.zZ.set (Am k.zZ).toNat ⟨1,call.nm,0⟩,mem:=k.mem.set (Am k.zZ).toNat [0,0,0,0]},Am k.zZ,0):=VV h2
 have ca:=(At hk).1;have bs:=(At hk).2.1;obtain⟨gm,cf,rfl,_⟩:=ET.mems bk ca;obtain⟨am,b7,cm,ai,ni,ci,ae,b8,ce,ac,nc,cc,em,rfl,rfl,rfl⟩:=bk.zQ;clear em;have S0:=AA bk;obtain⟨kk,e,a,b,c,nm⟩:=call;simp only at he dA;obtain⟨en,rfl⟩:∃n:Nat,e=(n:Int):=⟨e.toNat,by omega⟩
 simp only[Aa.cs,yb] at S0 P0 ⊢;have HP:=AA P0;have HK:=AA hk;have CR:=AA (λW=>BK (EJ nm W dA));have CM:=AA (λW (h:Fq W (.slice ae b8 ce) k.zX)=>JY (.slice (some ⟨gm,0,none⟩) 12 cf) (.slice ai ni ci) (.slice ae b8 ce) (.slice ac nc cc) k en nm W h hk (by omega) dA);have CF:=AA (λW (h:BS W (.slice ai ni ci) k.zZ)=>OM (.slice ai ni ci) k.zZ W h);obtain⟨x0,x1,x2,x3⟩:=S0.out.xs;obtain⟨y0,y1,y2,y3,y4,y5⟩:=S0.out.ys6;have dt:=AA ca;have fF:=AA bs;generalize hrv:BP nm=rv at CR HP;generalize hmb:Bv (AJ k.zX en).zT nm=mb at CM HP;have fE:=AA hrv;clear h h2 bk he hk ca bs dA P0 hrv hmb;generalize hW0:((w.alloc _).alloc _).alloc _=W0 at*;go_in;go_wp2_with fail;refine(CR.out _).mono ?_;rintro r w0 ⟨rfl,az⟩;have S0:=AA (S0.out.below az);clear x0 x1 x2 x3 y0 y1 y2 y3 y4 y5 az hW0;cases rv
 .have a5:=AA (show Ad k ⟨kk,(en:Int),a,b,c,nm⟩=(k,0,3) by rw[HP.out];rfl)
  clear HP CR CM CF;obtain⟨⟨x0,x1,x2,x3⟩,⟨⟨z0,z1,z2,z3⟩,bA⟩,HE,HR⟩:=S0.out.yH ay (v:=0) (code:=3) (a5.out) (by decide);go_wp2_with ((try simp only[xQ,Exit.then]);with_reducible refine yk ?_ rfl HR.out;obtain⟨E0,E1,E2,E3⟩:=HE.out;simp[results,vi,go_sem,E0,E1,E2,E3])
 .obtain⟨x0,x1,x2,x3⟩:=S0.out.xs
  obtain⟨y0,y1,y2,y3,y4,y5⟩:=S0.out.ys6;go_wp2_with fail;refine(CM.out _ S0.out.K.2.2.1).mono ?_;rintro r w1 ⟨rfl,br⟩;have S1:=AA (S0.out.below br);clear x0 x1 x2 x3 y0 y1 y2 y3 y4 y5 br;cases mb
  .have a5:=AA (show Ad k ⟨kk,(en:Int),a,b,c,nm⟩=(k,0,1) by rw[HP.out];rfl)
   obtain⟨⟨x0,x1,x2,x3⟩,⟨⟨z0,z1,z2,z3⟩,bA⟩,HE,HR⟩:=S1.out.yH ay (v:=0) (code:=1) (a5.out) (by decide);go_wp2_with ((try simp only[xQ,Exit.then]);with_reducible refine yk ?_ rfl HR.out;obtain⟨E0,E1,E2,E3⟩:=HE.out;simp[results,vi,go_sem,E0,E1,E2,E3])
  .have a7:=AA (show Ad k ⟨kk,(en:Int),a,b,c,nm⟩=if Am k.zZ<0 then(k,0,4) else({k with zZ:=k.zZ.set (Am k.zZ).toNat ⟨1,nm,0⟩,mem:=k.mem.set (Am k.zZ).toNat [0,0,0,0]},Am k.zZ,0) by rw[HP.out];rfl)
   obtain⟨x0,x1,x2,x3⟩:=S1.out.xs;clear HP;go_wp2_with fail;refine(CF.out _ S1.out.K.2.1).mono ?_;rintro r w2 ⟨rfl,a4⟩;have S2:=AA (S1.out.below a4);clear x0 x1 x2 x3 a4
   by_cases dU:Am k.zZ<0
   .have a5:=AA (show Ad k ⟨kk,(en:Int),a,b,c,nm⟩=(k,0,4) by rw[a7.out,if_pos dU])
    clear a7;obtain⟨⟨x0,x1,x2,x3⟩,⟨⟨z0,z1,z2,z3⟩,bA⟩,HE,HR⟩:=S2.out.yH ay (v:=0) (code:=4) (a5.out) (by decide);go_wp2_with ((try simp only[xQ,Exit.then]);with_reducible refine yk ?_ rfl HR.out;obtain⟨E0,E1,E2,E3⟩:=HE.out;simp[results,vi,go_sem,E0,E1,E2,E3])
   .obtain⟨fs,_,_⟩:=FU (zZ:=k.zZ) (by omega)
    obtain⟨f,hf⟩:∃f:Nat,Am k.zZ=(f:Int):=⟨(Am k.zZ).toNat,by omega⟩
    have cN:f<12:=by have:=HK.out.len;omega
    have a5:=AA (show Ad k ⟨kk,(en:Int),a,b,c,nm⟩=({k with zZ:=k.zZ.set f ⟨1,nm,0⟩,mem:=k.mem.set f [0,0,0,0]},(f:Int),0) by rw[a7.out,if_neg dU,hf];rfl);have CT:=AA (λW hi=>QL (.slice ai ni ci) k.zZ nm f W hi fF.out fE.out hf cN);obtain⟨x0,x1,x2,x3⟩:=S2.out.xs;obtain⟨y0,y1,y2,y3,y4,y5⟩:=S2.out.ys6;rw[hf];clear a7 hf dU fs;go_wp2_with fail;refine(CT.out _ S2.out.K.2.1).mono ?_;rintro r w3 ⟨v',rfl,hO,bx⟩;clear x0 x1 x2 x3 y0 y1 y2 y3 y4 y5;have S3:=AA (S2.out.zm bx hO);have dZ:=AK (S2.out.below bx).yI.1;have el:=(S2.out.below bx).xs.2.1;obtain⟨a9,c9,e9,_,_⟩:=hO.rd.shape;generalize wX _=n9 at e9;subst e9;clear hO bx;generalize hW9:w3.setCell _ _=W9 at S3;obtain⟨x0,x1,x2,x3⟩:=S3.out.xs;have bz:=S3.out.lts.2.1;have fq:(f:Int)<12:=by omega
    have eG:=(Ai.1 dt.out).1;go_wp2_with fail;refine BN 4 49 [.p w.heap.size 0,.s gm 12 cf,.i ((f:Int)),.z] (λix vv ww=>match ix with
     |3=>AF W9.heap.size ww vv [0,0,0,0]
     |_=>True) ?_ ?_ ?_
    .intro i hi o ho a wx Hb Hd hG K HK
     match i,hi with
     |0,_|2,_=>exact sP ho HK Hb Hd
     |1,_=>exact sL ho HK Hb Hd (hl:=GT (bc hG bz x0))
     |3,_=>obtain rfl:=yF ho;clear Hd Hb;obtain⟨i0,eJ,ez,ey,ex⟩:=info_parts Tryz.zI;obtain⟨w9,dc,h3,h4⟩:=run_make_full (P:=prog) wx wx.heap.size 29 3 i0 _ 1 underlying29 eJ ez ey .i64 .i64 4 (by rw[ex];decide) (by decide) (Nat.le_refl _);have h5:=Below.zu h4;rw[Un (.int .i64 0) rfl 4] at h3;have eC:(Instr.makeSlice 29 (.int .i64 4) (.int .i64 4)).run prog wx=.ok (.slice (some ⟨wx.heap.size,0,none⟩) 4 4) w9:=dc;clear eJ ez ey ex dc;refine yE ?_;go_simp;exact HK.out _ _ (BO h3 hG.size) h5
    .intro i hi vv wz cS cO hz
     match i,hi with
     |3,_=>exact(AF.below hz cO)
     |0,_|1,_|2,_=>exact hz
    .intro vs wx hR hG
     have q1:(vs 1)=.slice (some ⟨gm,0,none⟩) 12 cf:=BW hR 1;have q2:(vs 2)=.int .i64 f:=BW hR 2;have q3:AF W9.heap.size wx (vs 3) [0,0,0,0]:=BW hR 3;clear hR;simp only[Aj,Ae,yC,yz,yy,yw,q1,q2];simp;generalize vs 3=z3 at q3 ⊢;clear q1 q2;have S4:=AA (S3.out.newRow eG.symm hG q3 (by rw[eG];exact cN));obtain⟨f6,eP,fz,dr,fJ,e2,_,_,D2,_⟩:=(S3.out.below hG).yI.zd dt.out cN;cases e2;have Fr:=AK (A6 ((S3.out.below hG).yI.2.2.1.choose_spec.1) gm rfl).choose_spec;obtain⟨a9,c9,e9,_,_⟩:=q3.rd.open;rw[show([0,0,0,0]:List Int).length=4 from rfl] at e9;subst e9;generalize hW10:wx.setCell _ _=W10 at S4;clear x0 x1 x2 x3 q3 hG bz;obtain⟨⟨x0,x1,x2,x3⟩,⟨⟨z0,z1,z2,z3⟩,bA⟩,HE,HR⟩:=S4.out.fin ay (v:=(f:Int)) (code:=0) (a5.out);go_wp2_with ((try simp only[xQ,Exit.then]);with_reducible refine yk ?_ rfl HR.out;obtain⟨E0,E1,E2,E3⟩:=HE.out;simp[results,vi,go_sem,E0,E1,E2,E3])
theorem Xm{m:List (List Int)}{xs:List AU}{f:Nat}{kind:Int}{ss:List ByteArray}:(Hy m xs f kind ss).2=0∨(Hy m xs f kind ss).2=1∨(Hy m xs f kind ss).2=2:=by
 unfold Hy
 repeat' split
 all_goals simp
theorem U6{m:List (List Int)}{xs:List AU}{f:Nat}:(Dm m xs f).2=0∨(Dm m xs f).2=1∨(Dm m xs f).2=2:=by
 unfold Dm
 repeat' split
 all_goals simp
theorem Vu{lo:Nat}{mv:Value}{k:AN}{w:World}(h:DP lo w mv iv ev cv k)(ay:lo<=w.heap.size)(hk:DJ k)(call:Aa)(he:0<=call.e/\call.e<3)(h2:call.k=4∨call.k=5):
 Calls prog 174 #[.agg #[mv,iv,ev,cv],.agg call.cs] w (Kr lo w (Ad k call)):=by
 have bk:=SC.start h ay call;have P0:=XD (k:=k) h2;obtain⟨gi,a3,e8,dG,_⟩:=bk.zZ (by rw[hk.len];omega);rw[hk.len] at e8;obtain⟨am,b7,cm,ai,ni,ci,ae,b8,ce,ac,nc,cc,em,ei,ee,ec⟩:=bk.zQ;subst e8;clear ei;have S0:=AA bk;obtain⟨kk,e,a,b,c,nm⟩:=call;simp only at he h2;obtain⟨en,rfl⟩:∃n:Nat,e=(n:Int):=⟨e.toNat,by omega⟩
 have cb:en<3:=by omega
 simp only[Aa.cs] at S0 P0 ⊢;obtain⟨rfl,rfl,rfl⟩:=And.intro em (And.intro ee ec);have HP:=AA P0;have HK:=AA hk;have Hl:=AA hk.len;obtain⟨bad,bp⟩:∃b',decide (Be a 0 11=false∨(zS k.zZ a.toNat).k=0∨(kk=4/\Bd b=false))=b':=⟨_,rfl⟩
 have HB:=AA bp;obtain⟨x0,x1,x2,x3⟩:=S0.out.xs;obtain⟨y0,y1,y2,y3,y4,y5⟩:=S0.out.ys6;clear h bk he hk P0 h2 bp;go_in;go_upto_region 1 with fail;go_cut [33] (λfd wx=>fd=.bool bad/\SC lo w.heap.size ⟨kk,(en:Int),a,b,c,nm⟩ w wx (.slice am b7 cm) (.slice (some ⟨gi,0,none⟩) 12 a3) (.slice ae b8 ce) (.slice ac nc cc) k)
 case first=>
  go_wp2_with fail;refine(BK (D6 _ _)).mono ?_;rintro r w1 ⟨rfl,br⟩;have S1:=AA (S0.out.below br);clear x0 x1 x2 x3 y0 y1 y2 y3 y4 y5 br;cases e1:Be a 0 11
  .have E1:=AA e1
   clear e1;go_wp2_with fail;go_meet
   case rel=>exact⟨by rw[<-HB.out];simp[E1.out],S1.out⟩
  have ab:=Ab.1 e1;have E1:=AA e1;clear e1;obtain⟨an,rfl⟩:∃n:Nat,a=(n:Int):=⟨a.toNat,by omega⟩
  have cQ:(an:Int)<12:=by omega
  obtain⟨x0,x1,x2,x3⟩:=S1.out.xs;obtain⟨y0,y1,y2,y3,y4,y5⟩:=S1.out.ys6;obtain⟨D0,_,_⟩:=S1.out.zS (f:=an) (by rw[Hl.out];omega);have HB:=AA (show decide (Be (an:Int) 0 11=false∨(zS k.zZ an).k=0∨(kk=4/\Bd b=false))=bad from HB.out);generalize(zS k.zZ an).k=kd at*
  by_cases e0:kd=0
  .subst e0
   go_wp2_with fail;go_meet
   case rel=>exact⟨by rw[<-HB.out];simp,S1.out⟩
  have t0:(kd==0)=false:=by simp[e0]
  have E0:=AA e0;clear e0;cases tk:(kk==4)
  .have TK:=AA (show kk≠4 by simpa using tk)
   go_wp2_with fail;go_meet
   case rel=>exact⟨by rw[<-HB.out];simp[E1.out,E0.out,TK.out],S1.out⟩
  have TK:=AA (show kk=4 by simpa using tk);go_wp2_with fail;refine(BK (FY _ _)).mono ?_;rintro r w2 ⟨rfl,a4⟩;have S2:=AA (S1.out.below a4);clear x0 x1 x2 x3 y0 y1 y2 y3 y4 y5 D0 a4;go_wp2_with fail;go_meet
  case rel=>exact⟨by rw[<-HB.out];cases hw:Bd b<;>simp[E1.out,E0.out,TK.out],S2.out⟩
 case rest=>
 obtain⟨rfl,hS⟩:=hcut;have S2:=AA hS;obtain⟨w2,rfl⟩:∃w2,w2=wc:=⟨_,rfl⟩
 clear x0 x1 x2 x3 y0 y1 y2 y3 y4 y5 hS S0;cases bad
 rotate_left
 .have a5:=AA (HP.out.trans (if_pos (of_decide_eq_true HB.out)))
  clear HP HB;obtain⟨⟨x0,x1,x2,x3⟩,⟨⟨z0,z1,z2,z3⟩,bA⟩,HE,HR⟩:=S2.out.yH ay (v:=0) (code:=3) (a5.out) (by decide);go_wp2_with ((try simp only[xQ,Exit.then]);with_reducible refine yk ?_ rfl HR.out;obtain⟨E0,E1,E2,E3⟩:=HE.out;simp[results,vh,go_sem,E0,E1,E2,E3])
 have dB:=of_decide_eq_false HB.out;have dz:=HP.out.trans (if_neg dB);have ab:=Ab.1 (show Be a 0 11=true by cases e1:Be a 0 11;(· exact absurd (.inl e1) dB);(· rfl));obtain⟨an,rfl⟩:∃n:Nat,a=(n:Int):=⟨a.toNat,by omega⟩
 have cr:an<12:=by omega
 have cQ:(an:Int)<12:=by omega
 have eI:kk=4->Bd b=true:=λx=>by cases e:Bd b;(· exact absurd (.inr (.inr ⟨x,e⟩)) dB);(· rfl)
 have HG:=AA (CJ (At HK.out).2.1 _ (ye (Cj (show an<k.zZ.length by rw[Hl.out];exact cr))));have CP:=AA (λW (h:Ma W (.slice am b7 cm) (.slice (some ⟨gi,0,none⟩) 12 a3) (.slice ae b8 ce) (.slice ac nc cc) k)=>Qt _ _ _ _ k kk b c en an nm W h HK.out cb cr eI);replace dz:Ad k ⟨kk,(en:Int),(an:Int),b,c,nm⟩=if Bv (AJ k.zX en).zT (zS k.zZ an).g=false then(k,0,1) else EH k (if kk=4 then Hy k.mem k.zZ an b (AJ k.zX en).zT else Dm k.mem k.zZ an):=dz
 have a7:=AA dz;have HC:=AA (show(if kk=4 then Hy k.mem k.zZ an b (AJ k.zX en).zT else Dm k.mem k.zZ an).2=0∨(if kk=4 then Hy k.mem k.zZ an b (AJ k.zX en).zT else Dm k.mem k.zZ an).2=1∨(if kk=4 then Hy k.mem k.zZ an b (AJ k.zX en).zT else Dm k.mem k.zZ an).2=2 by
  split
  .exact Xm
  .exact U6)
 generalize(if kk=4 then Hy k.mem k.zZ an b (AJ k.zX en).zT else Dm k.mem k.zZ an)=res at CP a7 HC;clear HP HB dB ab eI dz;obtain⟨x0,x1,x2,x3⟩:=S2.out.xs;obtain⟨y0,y1,y2,y3,y4,y5⟩:=S2.out.ys6;obtain⟨_,D1,_⟩:=S2.out.zS (f:=an) (by rw[Hl.out];exact cr);obtain⟨cg,bz,_,_⟩:=S2.out.lts;have dT:=S2.out.zl;have CM:=AA (λW (h:Fq W (.slice ae b8 ce) k.zX)=>JY (.slice am b7 cm) (.slice (some ⟨gi,0,none⟩) 12 a3) (.slice ae b8 ce) (.slice ac nc cc) k en (zS k.zZ an).g W h HK.out cb HG.out);generalize(zS k.zZ an).g=gd at D1 CM a7;generalize Bv (AJ k.zX en).zT gd=mb at CM a7;go_wp2_with fail;refine AY 10 64 [.a #[.slice am b7 cm,.slice (some ⟨gi,0,none⟩) 12 a3,.slice ae b8 ce,.slice ac nc cc],.p (w.heap.size+1) 1,.i ((en:Int)),.p w.heap.size 1,.s gi 12 a3,.p (w.heap.size+1) 2,.i ((an:Int)),.p gi (an*3),.p gi (an*3+1),.t gd] (λ_ _ _=>True) ?_ ?_
 .intro i hi o ho a wx Hb Hd hG K HK
  have bN:=bc hG bz x0;have bw:=bc hG bz x1;have bK:=bc hG bz x2;have ck:=bc hG bz x3;have cT:=bc hG cg y1;have fQ:=bc hG cg y2;have fP:=bc hG dT D1
  match i,hi with
  |0,_=>exact sL ho HK Hb Hd (hl:=Np ‹_› ‹_› ‹_› ‹_›)
  |1,_|3,_|5,_|8,_=>exact sP ho HK Hb Hd
  |2,_|6,_=>exact sL ho HK Hb Hd (hl:=Fp ‹_›)
  |4,_=>exact sL ho HK Hb Hd (hl:=F8 ‹_›)
  |7,_=>exact sI ho HK Hb Hd (hr:=by clear Hd Hb HK;go_simp)
  |9,_=>exact sL ho HK Hb Hd (hl:=Yu ‹_›)
 .intro vs wx hR hG
  have q0:(vs 0)=.agg #[.slice am b7 cm,.slice (some ⟨gi,0,none⟩) 12 a3,.slice ae b8 ce,.slice ac nc cc]:=BW hR 0;have q2:(vs 2)=.int .i64 en:=BW hR 2;have q9:(vs 9)=.string gd:=BW hR 9;clear hR;simp only[Aj,Ae,yC,yz,yy,yw,q0,q2,q9];simp;clear q0 q2 q9;have S3:=AA (S2.out.below hG);clear x0 x1 x2 x3 y0 y1 y2 y3 y4 y5 D1 hG;go_wp2_with fail;refine(CM.out _ S3.out.K.2.2.1).mono ?_;rintro r w4 ⟨rfl,dn⟩;have S4:=AA (S3.out.below dn);clear dn;cases mb
  .have a5:=AA (show Ad k ⟨kk,(en:Int),(an:Int),b,c,nm⟩=(k,0,1) by rw[a7.out];rfl)
   obtain⟨⟨x0,x1,x2,x3⟩,⟨⟨z0,z1,z2,z3⟩,bA⟩,HE,HR⟩:=S4.out.yH ay (v:=0) (code:=1) (a5.out) (by decide);go_wp2_with ((try simp only[xQ,Exit.then]);with_reducible refine yk ?_ rfl HR.out;obtain⟨E0,E1,E2,E3⟩:=HE.out;simp[results,vh,go_sem,E0,E1,E2,E3])
  .obtain⟨x0,x1,x2,x3⟩:=S4.out.xs
   obtain⟨y0,y1,y2,y3,y4,y5⟩:=S4.out.ys6;obtain⟨ri,rc⟩:=res;have a5:=AA (show Ad k ⟨kk,(en:Int),(an:Int),b,c,nm⟩=EH k (ri,rc) by rw[a7.out];rfl);go_wp2_with fail;refine(CP.out _ S4.out.K).mono ?_;rintro r w5 ⟨v',rfl,hO,c0⟩;simp only at hO ⊢;clear x0 x1 x2 x3 y0 y1 y2 y3 y4 y5 a7
   rcases HC.out with e|e|e<;>subst e
   .have S5:=AA (S4.out.zm c0 hO)
    have dZ:=AK (S4.out.below c0).yI.1;have el:=(S4.out.below c0).xs.2.1;obtain⟨a9,c9,e9,_,_⟩:=hO.rd.shape;generalize wX _=n9 at e9;subst e9;clear hO c0;generalize hW9:w5.setCell _ _=W9 at S5;obtain⟨⟨x0,x1,x2,x3⟩,⟨⟨z0,z1,z2,z3⟩,bA⟩,HE,HR⟩:=S5.out.fin ay (v:=0) (code:=0) (a5.out);go_wp2_with ((try simp only[xQ,Exit.then]);with_reducible refine yk ?_ rfl HR.out;obtain⟨E0,E1,E2,E3⟩:=HE.out;simp[results,vh,go_sem,E0,E1,E2,E3])
   all_goals
    have S5:=AA (S4.out.below c0);obtain⟨a9,c9,e9,_,_⟩:=hO.rd.shape;generalize wX _=n9 at e9;subst e9;clear hO c0;obtain⟨⟨x0,x1,x2,x3⟩,⟨⟨z0,z1,z2,z3⟩,bA⟩,HE,HR⟩:=S5.out.yH ay (v:=0) (code:=_) (a5.out) (by first|exact(by decide:Mw 1≠0)|exact(by decide:Mw 2≠0));go_wp2_with ((try simp only[xQ,Exit.then]);with_reducible refine yk ?_ rfl HR.out;obtain⟨E0,E1,E2,E3⟩:=HE.out;simp[results,vh,Mw,go_sem,E0,E1,E2,E3])
theorem aA{k:AN}(h:DJ k){o:Int}:(H7 k.zZ o).length=12/\∀n<12,0 - 1<=(zS (H7 k.zZ o) n).r/\(zS (H7 k.zZ o) n).r<=47:=by
 unfold H7
 split
 .refine⟨Cz.trans h.len,λn hn=>?_⟩
  have r1:=h.yP hn;rw[FW]
  split
  .next hx=>
   rw[hx.1] at r1
   show 0 - 1<=(zS k.zZ _).r+ -1/\(zS k.zZ _).r+ -1<=47
   omega
  .omega
 .exact⟨h.len,λn hn=>by have r1:=h.yP hn;omega⟩
theorem Ug{lo:Nat}{mv:Value}{k:AN}{w:World}(h:DP lo w mv iv ev cv k)(ay:lo<=w.heap.size)(hk:DJ k)(call:Aa)(he:0<=call.e/\call.e<3)(h2:call.k=7):
 Calls prog 176 #[.agg #[mv,iv,ev,cv],.agg call.cs] w (Kr lo w (Ad k call)):=by
 have bk:=SC.start h ay call;have P0:=(VU (k:=k) h2).trans ZG;obtain⟨ge,cK,e9,_,_⟩:=bk.zX (by rw[hk.zN];omega);rw[hk.zN] at e9;obtain⟨gi,a3,e8,_,_⟩:=bk.zZ (by rw[hk.len];omega);rw[hk.len] at e8;obtain⟨am,b7,cm,ai,ni,ci,ae,b8,ce,ac,nc,cc,em,ei,ee,ec⟩:=bk.zQ;subst e8 e9 em ec;clear ei ee;have S0:=AA bk;obtain⟨kk,e,ra,b,c,nm⟩:=call;simp only at he h2;subst h2;obtain⟨en,rfl⟩:∃n:Nat,e=(n:Int):=⟨e.toNat,by omega⟩
 have cb:en<3:=by omega
 have ft:(en:Int)<3:=by omega
 simp only[Aa.cs,yb] at S0 P0 ⊢;obtain⟨rt,cC⟩:∃r,(AJ k.zX en).root=r:=⟨_,rfl⟩
 rw[cC] at P0;have eS:=AA cC;have HP:=AA P0;have HK:=AA hk;obtain⟨bad,bp⟩:∃b,decide (ra≠ -1/\(Be ra 0 11=false∨(zS k.zZ ra.toNat).k≠3))=b:=⟨_,rfl⟩
 have HB:=AA bp;obtain⟨x0,x1,x2,x3⟩:=S0.out.xs;obtain⟨y0,y1,y2,y3,y4,y5⟩:=S0.out.ys6;clear h bk he hk cC bp P0;go_in;go_upto_region 1 with fail;go_cut [26] (λfe wx=>fe=.bool bad/\SC lo w.heap.size ⟨7,(en:Int),ra,b,c,nm⟩ w wx (.slice am b7 cm) (.slice (some ⟨gi,0,none⟩) 12 a3) (.slice (some ⟨ge,0,none⟩) 3 cK) (.slice ac nc cc) k)
 case first=>
  by_cases e1:ra= -1
  .have t1:(ra != -1)=false:=by simp[e1]
   have E1:=AA e1;clear e1;go_wp2_with fail;go_meet
   case rel=>exact⟨by rw[<-HB.out];simp[E1.out],S0.out⟩
  .have t1:(ra != -1)=true:=by simp[e1]
   have E1:=AA e1;clear e1;go_wp2_with fail;refine(BK (D6 _ _)).mono ?_;rintro r w1 ⟨rfl,br⟩;have S1:=AA (S0.out.below br);clear x0 x1 x2 x3 y0 y1 y2 y3 y4 y5;cases e2:Be ra 0 11
   .go_wp2_with fail
    go_meet
    case rel=>exact⟨by rw[<-HB.out];simp[E1.out,e2],S1.out⟩
   .have ab:=Ab.1 e2
    have E2:=AA e2;clear e2;obtain⟨an,rfl⟩:∃n:Nat,ra=(n:Int):=⟨ra.toNat,by omega⟩
    have cQ:(an:Int)<12:=by omega
    obtain⟨x0,x1,x2,x3⟩:=S1.out.xs;obtain⟨y0,y1,y2,y3,y4,y5⟩:=S1.out.ys6;obtain⟨d0,_,_⟩:=S1.out.zS (f:=an) (by rw[HK.out.len];omega);go_wp2_with fail;go_meet
    case rel=>exact⟨by rw[<-HB.out];by_cases h3:(zS k.zZ an).k=3<;>simp[E1.out,E2.out,h3],S1.out⟩
 case rest=>
 obtain⟨rfl,hS⟩:=hcut;have S2:=AA hS;obtain⟨w2,rfl⟩:∃w2,w2=wc:=⟨_,rfl⟩
 clear x0 x1 x2 x3 y0 y1 y2 y3 y4 y5 hS S0;cases bad
 .have a7:=AA (HP.out.trans (if_neg (of_decide_eq_false HB.out)))
  have Ha:=AA (show(ra= -1∨0<=ra)/\ra<12 by
   have:=of_decide_eq_false HB.out
   by_cases e1:ra= -1
   .omega
   .cases e2:Be ra 0 11
    .exact absurd ⟨e1,.inl e2⟩ this
    .have:=Ab.1 e2
     omega)
  clear HP HB;obtain⟨x0,x1,x2,x3⟩:=S2.out.xs;obtain⟨y0,y1,y2,y3,y4,y5⟩:=S2.out.ys6;obtain⟨cg,bz,_,_⟩:=S2.out.lts;have fo:=S2.out.yU;obtain⟨ua,uc,D0,D1,R⟩:=S2.out.env (j:=en) (by rw[HK.out.zN];exact cb);have RM:=S2.out.K.1;have RI:=S2.out.K.2.1;have CX:=AA (λW (hW:Below w2.heap.size w2 W)=>JC _ k.mem ra W (RM.below hW) (At HK.out).1 Ha.out.2);have CA:=AA (λW (hW:Below w2.heap.size w2 W) v2 (h2:Aw W v2 (A0 (Ed k.mem ra)))=>by have:=F7 _ v2 _ k.zZ (Ed k.mem ra) (AJ k.zX en).zT W (BD.below RI hW) h2 (BD.below R hW) (λf hf=>by have:=zw Ha.out.2 f ((GD Ha.out.2 f).1 hf);have:=HK.out.len;omega) (CJ (At HK.out).2.1) (II HK.out cb);rw[Fv (GD Ha.out.2)] at this;exact this);generalize BG k.zZ (BZ k.mem ra) (AJ k.zX en).zT=bb at CA a7;clear RM RI R;go_wp2_with fail;refine BN 14 98 [.p w.heap.size 1,.s gi 12 a3,.p w.heap.size 0,.v (.slice am b7 cm),.p (w.heap.size+1) 2,.i ra,.z,.p w.heap.size 2,.s ge 3 cK,.p (w.heap.size+1) 1,.i ((en:Int)),.p ge (en*2),.p ge (en*2),.v (.slice ua (AJ k.zX en).zT.length uc)] (λix vv ww=>match ix with
   |6=>AF w2.heap.size ww vv (A0 (Ed k.mem (ra)))
   |_=>True) ?_ ?_ ?_
  .intro i hi o ho a wx Hb Hd hG K HK
   have bK:=bc hG cg y2;have cT:=bc hG cg y1
   match i,hi with
   |0,_|2,_|4,_|7,_|9,_|12,_=>exact sP ho HK Hb Hd
   |1,_=>exact sL ho HK Hb Hd (hl:=F8 (bc hG bz x1))
   |3,_=>exact sL ho HK Hb Hd (hl:=GT (bc hG bz x0))
   |5,_|10,_=>exact sL ho HK Hb Hd (hl:=Fp ‹_›)
   |6,_=>exact sC ho HK Hb Hd (CX.out _ hG) (by rintro e w_ ⟨v',rfl,hO,a4⟩;exact⟨_,rfl,(BO hO hG.size),a4⟩)
   |8,_=>exact sL ho HK Hb Hd (hl:=No (bc hG bz x2))
   |11,_=>exact sI ho HK Hb Hd (hr:=by clear Hd Hb HK;go_simp)
   |13,_=>exact sL ho HK Hb Hd (hl:=LM (bc hG fo D0))
  .intro i hi vv wz cS cO hz
   match i,hi with
   |6,_=>exact(AF.below hz cO)
   |0,_|1,_|2,_|3,_|4,_|5,_|7,_|8,_|9,_|10,_|11,_|12,_|13,_=>exact hz
  .intro vs wx hR hG
   have q1:(vs 1)=.slice (some ⟨gi,0,none⟩) 12 a3:=BW hR 1;have q6:AF w2.heap.size wx (vs 6) (A0 (Ed k.mem (ra))):=BW hR 6;have es:(vs 13)=.slice ua (AJ k.zX en).zT.length uc:=BW hR 13;clear hR;simp only[Aj,Ae,yC,yz,yy,yw,q1,es];simp;generalize vs 6=z6 at q6 ⊢;clear q1 es;have S3:=AA (S2.out.below hG);obtain⟨a8,c8,e8,_⟩:=q6.rd.open;have HQ:=AA q6.rd;generalize wX _=n8 at e8;subst e8;have eU:=AA hG;clear x0 x1 x2 x3 y0 y1 y2 y3 y4 y5 D0 D1 hG q6;go_wp2_with fail;refine(CA.out _ eU.out _ HQ.out).mono ?_;rintro r w4 ⟨rfl,dn⟩;have S4:=AA (S3.out.below dn);clear dn eU HQ CA;cases bb
   .have a5:=AA (a7.out.trans (if_pos rfl))
    obtain⟨⟨x0,x1,x2,x3⟩,⟨⟨z0,z1,z2,z3⟩,bA⟩,HE,HR⟩:=S4.out.yH ay (v:=0) (code:=1) (a5.out) (by decide);go_wp2_with ((try simp only[xQ,Exit.then]);with_reducible refine yk ?_ rfl HR.out;obtain⟨E0,E1,E2,E3⟩:=HE.out;simp[results,uw,go_sem,E0,E1,E2,E3])
   have a5:=AA (a7.out.trans (if_neg (by decide)));clear a7;obtain⟨x0,x1,x2,x3⟩:=S4.out.xs;obtain⟨y0,y1,y2,y3,y4,y5⟩:=S4.out.ys6;obtain⟨_,_,_,D1,_⟩:=S4.out.env (j:=en) (by rw[HK.out.zN];exact cb);rw[eS.out] at D1;go_upto_if 53 with fail;clear x0 x1 x2 x3 y0 y1 y2 y3 y4 y5 D1;go_cut [] (λwx=>SC lo w.heap.size ⟨7,(en:Int),ra,b,c,nm⟩ w wx (.slice am b7 cm) (.slice (some ⟨gi,0,none⟩) 12 a3) (.slice (some ⟨ge,0,none⟩) 3 cK) (.slice ac nc cc) {k with zZ:=H7 k.zZ rt})
   case first=>
    by_cases ho:rt<0
    .have t5:¬(0:Int)<=rt:=by omega
     go_wp2_with fail;go_meet
     case rel=>exact(by unfold H7;rw[if_neg (by omega)];exact S4.out)
    .obtain⟨rn,rfl⟩:∃n:Nat,rt=(n:Int):=⟨rt.toNat,by omega⟩
     have bY:rn<12:=by have:=zA HK.out cb;rw[eS.out] at this;omega
     have t5:(0:Int)<=(rn:Int):=by omega
     clear ho;obtain⟨x0,x1,x2,x3⟩:=S4.out.xs;obtain⟨y0,y1,y2,y3,y4,y5⟩:=S4.out.ys6;obtain⟨cg,bz,_,_⟩:=S4.out.lts;have dG:=S4.out.zl;obtain⟨_,_,d2⟩:=S4.out.zS (f:=rn) (by show rn<(k.zZ).length;have:=HK.out.len;omega)
     try simp only at d2
     have cM:=HK.out.yP bY;generalize hrv:(zS (k.zZ) rn).r=rv at d2 cM;obtain⟨nr,hnr⟩:∃nr,rv - 1=nr:=⟨_,rfl⟩
     have du:=AA hnr;clear hnr;have dY:(rn:Int)<12:=by omega
     go_wp2_with fail;refine AY 10 98 [.p w.heap.size 1,.s gi 12 a3,.i ((rn:Int)),.p w.heap.size 1,.s gi 12 a3,.i ((rn:Int)),.p gi (rn*3),.p gi (rn*3+2),.i rv,.i nr] (λ_ _ _=>True) ?_ ?_
     .intro i hi o ho a wx Hb Hd hG K HK
      have bN:=bc hG bz x1;have bw:=bc hG dG d2
      match i,hi with
      |0,_|2,_|3,_|5,_|7,_=>exact sP ho HK Hb Hd
      |1,_|4,_=>exact sL ho HK Hb Hd (hl:=F8 ‹_›)
      |6,_=>exact sI ho HK Hb Hd (hr:=by clear Hd Hb HK;go_simp)
      |8,_=>exact sL ho HK Hb Hd (hl:=Fp ‹_›)
      |9,_=>clear bN bw;obtain rfl:=yF ho;have d8:(a.tmps[62]?.getD undef)=.int .i64 rv:=BM Hd 8;clear Hd Hb;refine yE ?_;go_simp;exact HK.out _ _ (by show Value.int .i64 (IntKind.i64.wrap (rv - 1))=.int .i64 nr;rw[IntWalk.i64_in _ (by omega),du.out]) (yD _ _)
     .intro vs wx hR hG
      have q1:(vs 1)=.slice (some ⟨gi,0,none⟩) 12 a3:=BW hR 1;have q2:(vs 2)=.int .i64 rn:=BW hR 2;have q9:(vs 9)=.int .i64 nr:=BW hR 9;clear hR;simp only[Aj,Ae,yC,yz,yy,yw,q1,q2,q9];simp;clear q1 q2 q9;have SB:=AA (S4.out.below hG);obtain⟨_,_,dq⟩:=SB.out.zS (f:=rn) (by show rn<(k.zZ).length;have:=HK.out.len;omega);have Fr:=SB.out.fzi (rn*3+2);have S5:=SB.out.info (by show 12=(k.zZ).length;have:=HK.out.len;omega) (f:=rn) (by show rn<(k.zZ).length;have:=HK.out.len;omega) (-1)
      try simp only at S5 dq
      rw[hrv] at S5 dq;rw[show rv+ -1=nr by have:=du.out;omega] at S5;replace S5:=AA S5;generalize hW5:wx.setCell _ _=W5 at S5;clear x0 x1 x2 x3 y0 y1 y2 y3 y4 y5 d2 hG SB;go_wp2_with fail;go_meet
      case rel=>exact(by unfold H7;rw[if_pos (by omega),yb];exact S5.out)
   case rest=>
   have hX:=aA (o:=rt) HK.out;generalize H7 k.zZ rt=X at*;obtain⟨f4,eM⟩:=hX;have S5:=AA hcut;obtain⟨W5,rfl⟩:∃W5,W5=wc:=⟨_,rfl⟩
   clear hcut S4;obtain⟨y0,y1,y2,y3,y4,y5⟩:=S5.out.ys6;go_upto_if 68 with fail;clear y0 y1 y2 y3 y4 y5;go_cut [] (λwx=>SC lo w.heap.size ⟨7,(en:Int),ra,b,c,nm⟩ w wx (.slice am b7 cm) (.slice (some ⟨gi,0,none⟩) 12 a3) (.slice (some ⟨ge,0,none⟩) 3 cK) (.slice ac nc cc) {k with zZ:=M6 X ra})
   case first=>
    by_cases ho:ra<0
    .have t7:¬(0:Int)<=ra:=by omega
     go_wp2_with fail;go_meet
     case rel=>exact(by unfold M6;rw[if_neg (by omega)];exact S5.out)
    .obtain⟨an,rfl⟩:∃n:Nat,ra=(n:Int):=⟨ra.toNat,by omega⟩
     have cr:an<12:=by have:=Ha.out.2;omega
     have t7:(0:Int)<=(an:Int):=by omega
     clear ho;obtain⟨x0,x1,x2,x3⟩:=S5.out.xs;obtain⟨y0,y1,y2,y3,y4,y5⟩:=S5.out.ys6;obtain⟨cg,bz,_,_⟩:=S5.out.lts;have dG:=S5.out.zl;obtain⟨_,_,d2⟩:=S5.out.zS (f:=an) (by show an<(X).length;have:=HK.out.len;omega)
     try simp only at d2
     have cM:=eM an cr;generalize hrv:(zS (X) an).r=rv at d2 cM;obtain⟨nr,hnr⟩:∃nr,rv+1=nr:=⟨_,rfl⟩
     have du:=AA hnr;clear hnr;have dY:(an:Int)<12:=by omega
     go_wp2_with fail;refine AY 12 98 [.p w.heap.size 1,.s gi 12 a3,.p (w.heap.size+1) 2,.i ((an:Int)),.p w.heap.size 1,.s gi 12 a3,.p (w.heap.size+1) 2,.i ((an:Int)),.p gi (an*3),.p gi (an*3+2),.i rv,.i nr] (λ_ _ _=>True) ?_ ?_
     .intro i hi o ho a wx Hb Hd hG K HK
      have bN:=bc hG bz x1;have bw:=bc hG cg y2;have bK:=bc hG dG d2
      match i,hi with
      |0,_|2,_|4,_|6,_|9,_=>exact sP ho HK Hb Hd
      |1,_|5,_=>exact sL ho HK Hb Hd (hl:=F8 ‹_›)
      |3,_|7,_|10,_=>exact sL ho HK Hb Hd (hl:=Fp ‹_›)
      |8,_=>exact sI ho HK Hb Hd (hr:=by clear Hd Hb HK;go_simp)
      |11,_=>clear bN bw bK;obtain rfl:=yF ho;have c4:(a.tmps[79]?.getD undef)=.int .i64 rv:=BM Hd 10;clear Hd Hb;refine yE ?_;go_simp;exact HK.out _ _ (by show Value.int .i64 (IntKind.i64.wrap (rv+1))=.int .i64 nr;rw[IntWalk.i64_in _ (by omega),du.out]) (yD _ _)
     .intro vs wx hR hG
      have q1:(vs 1)=.slice (some ⟨gi,0,none⟩) 12 a3:=BW hR 1;have q3:(vs 3)=.int .i64 an:=BW hR 3;have eu:(vs 11)=.int .i64 nr:=BW hR 11;clear hR;simp only[Aj,Ae,yC,yz,yy,yw,q1,q3,eu];simp;clear q1 q3 eu;have SB:=AA (S5.out.below hG);obtain⟨_,_,dq⟩:=SB.out.zS (f:=an) (by show an<(X).length;have:=HK.out.len;omega);have Fr:=SB.out.fzi (an*3+2);have S6:=SB.out.info (by show 12=(X).length;have:=HK.out.len;omega) (f:=an) (by show an<(X).length;have:=HK.out.len;omega) (1)
      try simp only at S6 dq
      rw[hrv] at S6 dq;rw[show rv+1=nr by have:=du.out;omega] at S6;replace S6:=AA S6;generalize hW6:wx.setCell _ _=W6 at S6;clear x0 x1 x2 x3 y0 y1 y2 y3 y4 y5 d2 hG SB;go_wp2_with fail;go_meet
      case rel=>exact(by unfold M6;rw[if_pos (by omega),yb];exact S6.out)
   case rest=>
   have S6:=AA hcut;obtain⟨W6,rfl⟩:∃W6,W6=wc:=⟨_,rfl⟩
   clear hcut S5 eM;obtain⟨x0,x1,x2,x3⟩:=S6.out.xs;obtain⟨y0,y1,y2,y3,y4,y5⟩:=S6.out.ys6;obtain⟨_,_,D0,D1,_⟩:=S6.out.env (j:=en) (by show en<k.zX.length;rw[HK.out.zN];exact cb);have Fe:=S6.out.fze (en*2+1);have T1:=AA (S6.out.root HK.out.zN.symm (by show en<k.zX.length;rw[HK.out.zN];exact cb) ra);generalize hW7:W6.setCell _ _=W7 at T1;have CD:=AA (λW (h:Dz W (.slice ac nc cc) k.zW)=>Pi (.slice ac nc cc) k.zW (en:Int) W h (by have:=Pd HK.out;omega));have fa:=T1.out.xs.2.2.2;obtain⟨_,yo,_⟩:=T1.out.ys6;go_wp2_with fail;refine(CD.out _ T1.out.K.2.2.2).mono ?_;rintro r w8 ⟨v',rfl,hO,dI⟩;have T2:=AA (T1.out.zW dI hO);have dZ:=AK (T1.out.below dI).yI.1;have fI:=(T1.out.below dI).xs.2.2.2;clear x0 x1 x2 x3 y0 y1 y2 y3 y4 y5 fa yo D0 D1 Fe hW7;obtain⟨a9,c9,e9,_,_⟩:=hO.rd.shape;generalize wX _=n9 at e9;subst e9;clear hO dI;generalize hW10:w8.setCell _ _=W10 at T2;obtain⟨⟨x0,x1,x2,x3⟩,⟨⟨z0,z1,z2,z3⟩,bA⟩,HE,HR⟩:=T2.out.fin ay (v:=0) (code:=0) (a5.out);go_wp2_with ((try simp only[xQ,Exit.then]);with_reducible refine yk ?_ rfl HR.out;obtain⟨E0,E1,E2,E3⟩:=HE.out;simp[results,uw,go_sem,E0,E1,E2,E3])
 .have a5:=AA (HP.out.trans (if_pos (of_decide_eq_true HB.out)))
  clear HP HB;obtain⟨⟨x0,x1,x2,x3⟩,⟨⟨z0,z1,z2,z3⟩,bA⟩,HE,HR⟩:=S2.out.yH ay (v:=0) (code:=3) (a5.out) (by decide);go_wp2_with ((try simp only[xQ,Exit.then]);with_reducible refine yk ?_ rfl HR.out;obtain⟨E0,E1,E2,E3⟩:=HE.out;simp[results,uw,go_sem,E0,E1,E2,E3])
end Go.Proofs.YtpdjjjdkhedibaaGreatDoor
