/-
  Packed:11 texts.
-/
import Derived.Test.YtinbcpipjfljeaaGreatDoorY1
import Derived.Test.YtinbcpipjfljeaaGreatDoorY8
import Derived.Test.YtinbcpipjfljeaaGreatDoorY4
import Derived.Test.YtinbcpipjfljeaaGreatDoorY6
import Derived.Test.YtinbcpipjfljeaaGreatDoorY3
import Derived.Test.YtinbcpipjfljeaaGreatDoorY5
import Derived.Test.YtinbcpipjfljeaaGreatDoorY7
set_option linter.unusedVariables false
set_option linter.unusedSimpArgs false
set_option maxHeartbeats 16000000
set_option maxRecDepth 100000
open Go Go.Proofs.YtinbcpipjfljeaaGreatDoor
open And renaming intro->ye
open Bool renaming and_eq_true->yt,true_and->vS
open Go.Exit renaming inBlock->xS
open Go.Proofs.Tryz renaming results150->vj,results213->sY,results214->vk
open Go.RowKit.Below renaming refl->yF
open Go.Value renaming int->yf
open Go.Value.slice renaming injEq->xD
open Go.World renaming block_lt_of_cell?->yC
open Go.World.ownsRow renaming lt->yr
open Go renaming bodyPost_ret->yp,cell_of_row->yi,heap_alloc_new->yw,heap_setCell_same->yu
open Int renaming toNat_natCast->xY
open List renaming all_eq_true->yk,any_eq_true->vl,countP_append->tz,countP_cons->xF,countP_le_length->vO,countP_nil->sX,eq_nil_of_length_eq_zero->xT,foldl_cons->yA,foldl_nil->yy,length_append->yl,length_map->uo,length_singleton->xO,length_take->xW,mem_range->yj,mem_singleton->xi,range->yE,take_length->xt
open List.range renaming loop->yB
open Nat renaming le_add_right->vX,le_refl->yv,le_trans->yD,lt_of_lt_of_le->xZ,not_lt_zero->xR,zero_add->uU,zero_le->yh
variable {w1 w2:World} {n:Nat}
namespace Go.Proofs.YtinbcpipjfljeaaGreatDoor
open Go.Proofs.Tryz
open Go.RowKit
def L3 (w0:World) (g:Nat) (m i e c:Value) (k:AN) (qs:List (Value×Int)) (wr:World):Prop:=
 wr.heap[g]? =some (.cells #[m,i,e,c] 28 (0,0))/\(∃vs,At w0.heap.size wr m vs k.mem)/\AP w0.heap.size 93 3 A2 wr i k.Os/\DA w0.heap.size wr e qs (k.zZ.take qs.length)/\AP w0.heap.size 98 4 Ae wr c k.zY/\Below w0.heap.size w0 wr/\w0.heap.size<=g
def Ke (lo:Nat) (T:Nat) (W:World) (V:Value):Prop:=∃g,V= .slice (some ⟨g,0,none⟩) 0 0/\lo<=g/\W.heap[g]? =some (.cells #[] T (0,0))
theorem Ke.below {lo T:Nat} {W W':World} {V:Value} (h:Ke lo T W V) (hb:Below W.heap.size W W'):Ke lo T W' V:=by obtain⟨g,h0,h1,h2⟩:=h;exact⟨g,h0,h1,AC h2 hb⟩
def U2 (lo:Nat) (r:Int) (ts:List ByteArray) (W:World) (V:Value):Prop:=∃u,V= .agg #[u, .int .i64 r]/\AP lo 9 1 BB W u ts
theorem U2.below {lo:Nat} {r:Int} {ts:List ByteArray} {W W':World} {V:Value} (h:U2 lo r ts W V) (hb:Below W.heap.size W W'):U2 lo r ts W' V:=by obtain⟨u,h0,h1⟩:=h;exact⟨u,h0,h1.below hb⟩
def Wg (lo:Nat) (r:Int) (ts:List ByteArray) (W:World) (V:Value):Prop:=∃g u,V= .slice (some ⟨g,0,none⟩) 1 1/\lo<=g/\W.heap[g]? =some (.cells #[u, .int .i64 r] 62 (0,0))/\AP lo 9 1 BB W u ts
theorem Wg.below {lo:Nat} {r:Int} {ts:List ByteArray} {W W':World} {V:Value} (h:Wg lo r ts W V) (hb:Below W.heap.size W W'):Wg lo r ts W' V:=by obtain⟨g,u,h0,h1,h2,h3⟩:=h;exact⟨g,u,h0,h1,AC h2 hb,h3.below hb⟩
theorem Zp {w:World} {g T:Nat} {a b:Value} (h:w.heap[g]? =some (.cells #[a,b] T (0,0))):Rd w (.slice (some ⟨g,0,none⟩) 1 1) 2 1 [a,b]:=by
 have h0:=yi _ _ 0 _ _ _ h;have h1:=yi _ _ 1 _ _ _ h;refine⟨_,_,rfl,yv _,by simp[maxLen],rfl,nofun,fun _=>⟨g,0,rfl,fun j hj=>?_⟩⟩;rw[uU]
 match j,hj with
 |0,_=>exact h0
 |1,_=>exact h1
 |_+2,hj=>exact absurd hj (by omega)
def Ho (lo:Nat) (w:World) (v:Value) (k:AN):Prop:=∃m i e c,v= .agg #[m,i,e,c]/\(∃vs,At lo w m vs k.mem)/\AP lo 93 3 A2 w i k.Os/\DA lo w e [] []/\AP lo 98 4 Ae w c k.zY
theorem Ho.below {lo:Nat} {w w':World} {v:Value} {k:AN} (h:Ho lo w v k) (hb:Below w.heap.size w w'):Ho lo w' v k:=by obtain⟨m,i,e,c,h0,⟨vs,h1⟩,h2,h3,h4⟩:=h;exact⟨m,i,e,c,h0,⟨vs,h1.below hb⟩,h2.below hb,h3.below hb,h4.below hb⟩
def aA (w:World) (row:Option Nat):Prop:=∀q,row=some q->∃dG,w.heap[q]? =some (.cells dG 62 (0,0))
theorem aQ {lo:Nat} {row:Option Nat} {v:Value} {vs:List Value} {es:List (List Int)} (o:At lo w1 v vs es) (h2:w1.grownBy w2 row) (hr:aA w1 row):At lo w2 v vs es:=by
 cases row with
 |none=>exact o.below (Below.zw h2)
 |some q=>obtain⟨dG,hc⟩:=hr q rfl;exact o.yN h2 hc
theorem Z1 {α:Type} {lo e sz:Nat} {cs:α->List Value} {row:Option Nat} {v:Value} {xs:List α} (o:AP lo e sz cs w1 v xs) (h2:w1.grownBy w2 row) (hr:aA w1 row) (he:e≠62):AP lo e sz cs w2 v xs:=by
 cases row with
 |none=>exact o.below (Below.zw h2)
 |some q=>obtain⟨dG,hc⟩:=hr q rfl;exact o.yN h2 hc he
theorem L3.yM {w0:World} {g:Nat} {m i e c:Value} {k:AN} {qs:List (Value×Int)} {wr:World} (h:L3 w0 g m i e c k qs wr) (hb:Below wr.heap.size wr w1) (h2:w1.grownBy w2 e.ownBlock):w2.heap[g]? =some (.cells #[m,i,e,c] 28 (0,0)):=by
 have d1:=AC h.1 hb;exact(h2.block g (AY d1) fun e'=>Dd (h.2.2.2.1.1.below hb) d1 (by decide) e'.symm).trans d1
theorem L3.step {w0:World} {g:Nat} {m i ev c u v':Value} {k:AN} {qs:List (Value×Int)} {wr:World} {e:EN} (h:L3 w0 g m i ev c k qs wr) (hb:Below wr.heap.size wr w1) (hu:AP wr.heap.size 9 1 BB w1 u e.zV) (he:k.zZ[qs.length]? =some e)
 (h1:w2.ownsRow w0.heap.size 62 2 v' (qs.length+1) (Ch EX qs++[u, .int .i64 e.root])) (h2:w1.grownBy w2 ev.ownBlock):L3 w0 g m i v' c k (qs++[(u,e.root)]) (w2.setCell ⟨g,2,none⟩ v'):=by
 have dm:=h.yM hb h2;obtain⟨hB,⟨vs,o1⟩,o2,o3,o4,ct,hg⟩:=h;have P:=DA.push o3 hb ct.size (yv _) hu h1 h2;have hr:aA w1 ev.ownBlock:=fun q hq=>A6 (o3.1.below hb) q hq
 have bf:=Aq w2 g 2 v';have ht:k.zZ.take (qs++[(u,e.root)]).length=k.zZ.take qs.length++[⟨e.zV,e.root⟩]:=by rw[yl,xO,Cw he]
 refine⟨?_,⟨vs,(aQ (o1.below hb) h2 hr).yN bf dm⟩,(Z1 (o2.below hb) h2 hr (by decide)).yN bf dm,?_,(Z1 (o4.below hb) h2 hr (by decide)).yN bf dm,?_,hg⟩
 .have:=yu w2 g 2 _ 28 v' dm
  simpa using this
 .rw[ht]
  exact P.yN bf dm
 .exact((ct.trans (hb.mono ct.size)).grown h2 (ct.trans (hb.mono ct.size)).size (fun q hq=>((o3.1.below hb).lt q hq).1)).setCell hg _
theorem Ky (m i e c:Value) (k:AN) (w:World) (h:MM w m i e c k) (hk:DI k):Calls prog 62 #[.agg #[m,i,e,c]] w (OW w k):=by
 obtain⟨h1,h2,h3,h4⟩:=h;have fp:=(Ah.1 (Aw hk).1).1;have cA:=(A0.1 (Aw hk).2.1).1;have di:k.zY.length<=4:=by have:=hk.zY;simp only[BQ,yt,decide_eq_true_eq] at this;exact this.2
 have eG:∀f,f<k.mem.length->(AH k.mem f).length<=100:=fun f hf=>by have:=(A5.1 ((Ah.1 (Aw hk).1).2 f (by omega))).1;omega
 obtain⟨N0,N1,av,bY⟩:=Jp w (.cells #[m,i,e,c] 28) (.cells #[.slice none 0 0, .slice none 0 0, .slice none 0 0, .slice none 0 0] 28);obtain⟨x0,x1,x2,x3⟩:=AF N0;have b6:=AY N0;have C1:=AA (fun W (hW:Below _ _ W)=>ME m k.mem W ((h1.below av).below hW) (by omega) eG);have RI:=AA (BJ.below h2 av);have RC:=AA (BJ.below h4 av);obtain⟨am,cm,rfl,_⟩:=h1.open;obtain⟨ai,ci,rfl,_,_⟩:=h2.shape;obtain⟨ae,ce,rfl,eN,cL,bB⟩:=(h3.below av).open;obtain⟨ac,cc,rfl,_,_⟩:=h4.shape;have HE:=AA bB;have Hk:=AA hk;have bA:=AA hk.zP;have fy:k.Os.length<=100:=by omega
 generalize hW0:(w.alloc _).alloc _=W0 at*;clear h1 h2 h3 h4 hk fp cA eG bB;go_in;go_wp2_with fail;refine BS 14 46 [.p w.heap.size 0, .v (.slice am k.mem.length cm), .z, .z, .p w.heap.size 1, .v (.slice ai k.Os.length ci), .z, .z, .z, .p w.heap.size 3, .v (.slice ac k.zY.length cc), .z, .z, .z] (fun ix vv ww=>match ix with
  |2=>∃bV,At W0.heap.size ww vv bV k.mem
  |3=>Ke W0.heap.size 93 ww vv
  |6=>AP W0.heap.size 93 3 A2 ww vv k.Os
  |7=>DA W0.heap.size ww vv [] []
  |8=>Ke W0.heap.size 98 ww vv
  |11=>AP W0.heap.size 98 4 Ae ww vv k.zY
  |12=>Ho W0.heap.size ww vv k
  |13=>J8 W0.heap.size ww vv
  |_=>True) ?_ ?_ ?_
 .intro i hi o ho a wx Hb Hd hG K HK
  have a7:=bc hG b6 x0;have a8:=bc hG b6 x1;have ba:=bc hG b6 x3
  match i,hi with
  |0,_|4,_|9,_=>exact sP ho HK Hb Hd
  |1,_=>exact sL ho HK Hb Hd (hl:=GM ‹_›)
  |2,_=>exact sC ho HK Hb Hd (C1.out _ hG) (by rintro e w_ ⟨v',bV,rfl,hO,a5⟩;exact⟨_,rfl,⟨bV,hO.lower hG.size⟩,a5⟩)
  |5,_=>exact sL ho HK Hb Hd (hl:=GF ‹_›)
  |10,_=>exact sL ho HK Hb Hd (hl:=Zc ‹_›)
  |3,_|8,_=>clear a7 a8 ba;obtain rfl:=yH ho;clear Hd Hb;refine yG ?_;go_simp;exact HK.out _ _ ⟨_,rfl,hG.size,yw _ _⟩ (AD _ _)
  |6,_=>clear a7 a8 ba;obtain rfl:=yH ho;have d3:Ke W0.heap.size 93 wx (a.tmps[8]?.getD undef):=BT Hd 3;have d5:(a.tmps[10]?.getD undef)= .slice ai k.Os.length ci:=BT Hd 5;clear Hd Hb;refine yG ?_;obtain⟨g_,dr,dq,dp⟩:=d3;obtain⟨v7,w4,bZ,r1,r2,_⟩:=DV (lo:=W0.heap.size) (w:=wx) (t:=24) (ty:=24) 93 _ 3 32 underlying24 Tryz.zG rfl (by decide) dp dq (BJ.below RI.out hG) (Ev _) (by omega);refine Cr rfl (Bk dr) (Bk d5) bZ ?_;exact HK.out _ _ r1 r2
  |7,_=>clear a7 a8 ba;obtain rfl:=yH ho;clear Hd Hb;refine yG ?_;go_simp;exact HK.out _ _ ⟨AP.lower (By EX _ _ _) hG.size,Fb.nil,DF.nil⟩ (AD _ _)
  |11,_=>clear a7 a8 ba;obtain rfl:=yH ho;have d8:Ke W0.heap.size 98 wx (a.tmps[13]?.getD undef):=BT Hd 8;have cQ:(a.tmps[15]?.getD undef)= .slice ac k.zY.length cc:=BT Hd 10;clear Hd Hb;refine yG ?_;obtain⟨g_,dr,dq,dp⟩:=d8;obtain⟨v7,w4,bZ,r1,r2,_⟩:=DV (lo:=W0.heap.size) (w:=wx) (t:=26) (ty:=26) 98 _ 4 32 underlying26 Tryz.zH rfl (by decide) dp dq (BJ.below RC.out hG) (Jf _) (by omega);refine Cr rfl (Bk dr) (Bk cQ) bZ ?_;exact HK.out _ _ r1 r2
  |12,_=>
   clear a7 a8 ba;obtain rfl:=yH ho;have d2:∃bV,At W0.heap.size wx (a.tmps[7]?.getD undef) bV k.mem:=BT Hd 2
   have d6:AP W0.heap.size 93 3 A2 wx (a.tmps[11]?.getD undef) k.Os:=BT Hd 6;have d7:DA W0.heap.size wx (a.tmps[12]?.getD undef) [] []:=BT Hd 7;have dE:AP W0.heap.size 98 4 Ae wx (a.tmps[16]?.getD undef) k.zY:=BT Hd 11;clear Hd Hb;generalize e7:a.tmps[7]?.getD undef=m' at d2;generalize e11:a.tmps[11]?.getD undef=i' at d6;generalize e12:a.tmps[12]?.getD undef=e' at d7;generalize e16:a.tmps[16]?.getD undef=c' at dE;have W:Hid (Ho W0.heap.size wx (.agg #[m',i',e',c']) k):=AA ⟨m',i',e',c',rfl,d2,d6,d7,dE⟩;obtain⟨_,d2⟩:=d2;obtain⟨_,_,rfl,_,_⟩:=d2.1.rd.shape;obtain⟨_,_,rfl,_,_⟩:=d6.rd.shape;obtain⟨_,_,rfl,_,_⟩:=d7.1.rd.shape;obtain⟨_,_,rfl,_,_⟩:=dE.rd.shape;clear d2 d6 d7 dE;refine yG ?_;go_simp;exact HK.out _ _ W.out (yF _ _)
  |13,_=>clear a7 a8 ba;obtain rfl:=yH ho;clear Hd Hb;refine yG ?_;go_simp;exact HK.out _ _ ⟨_,rfl,hG.size,yw _ _⟩ (AD _ _)
 .intro i hi vv wz cE bq hz
  match i,hi with
  |2,_=>exact(by obtain⟨bV,h'⟩:=hz;exact⟨bV,h'.below bq⟩)
  |3,_|8,_=>exact(Ke.below hz bq)
  |6,_|11,_=>exact(AP.below hz bq)
  |7,_=>exact(DA.below hz bq)
  |12,_=>exact(Ho.below hz bq)
  |13,_=>exact(J8.below hz bq)
  |0,_|1,_|4,_|5,_|9,_|10,_=>exact hz
 .intro vs wx hR hG
  have ey:Ho W0.heap.size wx (vs 12) k:=BZ hR 12;have dx:J8 W0.heap.size wx (vs 13):=BZ hR 13;obtain⟨g,dx,hg,hB⟩:=dx;clear hR;simp only[Al,AV,yE,yB,yA,yy,dx];simp;generalize vs 12=z12 at ey ⊢;clear dx;obtain⟨m',i',e',c',rfl,⟨bV,o1⟩,o2,o3,o4⟩:=ey;have bf:=An (An (An (Aq wx g 0 m') 1 i') 2 e') 3 c';have St:L3 W0 g m' i' e' c' k [] ((((wx.setCell ⟨g,0,none⟩ m').setCell ⟨g,1,none⟩ i').setCell ⟨g,2,none⟩ e').setCell ⟨g,3,none⟩ c'):=
   ⟨Cs hB,⟨bV,o1.yN bf hB⟩,o2.yN bf hB,o3.yN bf hB,o4.yN bf hB,(((hG.setCell hg _).setCell hg _).setCell hg _).setCell hg _,hg⟩
  obtain⟨pa,pc,rfl,_,_⟩:=o1.1.rd.shape;obtain⟨qa,qc,rfl,_,_⟩:=o2.rd.shape;obtain⟨ea,ec,eP,_,_⟩:=o3.1.rd.shape;rw[List.length_nil] at eP;subst eP;obtain⟨ra,rc,rfl,_,_⟩:=o4.rd.shape;obtain⟨b0,b1,b2,b3⟩:=AF hB;have cp:=AK hB;have fV:=AA N0;have fU:=AA N1;have fQ:=AA hW0;have fP:=AA bY;clear o1 o2 o3 o4 hG hB bf x0 x1 x2 x3 N0 N1 hW0 bY RI RC C1;go_wp2_with fail;clear b0 b1 b2 b3 cp;go_loopw [4] (fun ix wr=>∃(qs:List (Value×Int)) (ev:Value),qs.length<=3/\ix= .int .i64 qs.length/\L3 W0 g (.slice pa bV.length pc) (.slice qa k.Os.length qc) ev (.slice ra k.zY.length rc) k qs wr) (fun ix _=>3 - (intOf ix).toNat)
  case atStart=>exact⟨[],_,by simp,rfl,St⟩
  case round=>
   clear St;obtain⟨qs,ev,hq,rfl,St⟩:=hrel;have cR:=bA.out;have dy:=(AF ((St.2.2.2.2.2.1.block _ b6).trans fV.out)).2.2.1;have dd:=xZ b6 St.2.2.2.2.2.1.size;have y2:=(AF St.1).2.2.1;have cI:=AY St.1;obtain⟨ea,ec,rfl,gh,fB⟩:=St.2.2.2.1.1.rd.shape
   by_cases az:qs.length<3
   .have eI:qs.length<k.zZ.length:=by omega
    obtain⟨be,bk,ua,uc,rfl,ck,D0,D1,hR⟩:=(HE.out.below (St.2.2.2.2.2.1)) qs.length eI;have a6:(qs.length:Int)<k.zZ.length:=by omega
    have RS:=AA hR;have f5:=PP Hk.out az;have dI:=AA St;have fS:=AA cR;have eu:=dy;clear St hR cR dy;go_wp2_with fail;refine BS 18 46 [.p g 2, .v (.slice ea qs.length ec), .z, .p w.heap.size 2, .v (.slice (some ⟨be,bk,none⟩) k.zZ.length ce), .i ((qs.length:Int)), .p be (bk+qs.length*2), .p be (bk+qs.length*2), .v (.slice ua (AJ k.zZ qs.length).zV.length uc), .z, .p w.heap.size 2, .v (.slice (some ⟨be,bk,none⟩) k.zZ.length ce), .i ((qs.length:Int)), .p be (bk+qs.length*2), .p be (bk+qs.length*2+1), .i ((AJ k.zZ qs.length).root), .z, .z] (fun ix vv ww=>match ix with
     |2=>Ke wr.heap.size 9 ww vv
     |9=>AP wr.heap.size 9 1 BB ww vv (AJ k.zZ qs.length).zV
     |16=>U2 wr.heap.size (AJ k.zZ qs.length).root (AJ k.zZ qs.length).zV ww vv
     |17=>Wg wr.heap.size (AJ k.zZ qs.length).root (AJ k.zZ qs.length).zV ww vv
     |_=>True) ?_ ?_ ?_
    .intro i hi o ho a wx Hb Hd hG K HK
     have a7:=bc hG cI y2;have a8:=bc hG dd eu;have ba:=bc hG ck D0;have bp:=bc hG ck D1
     match i,hi with
     |0,_|3,_|5,_|7,_|10,_|12,_|14,_=>exact sP ho HK Hb Hd
     |1,_|4,_|11,_=>exact sL ho HK Hb Hd (hl:=NX ‹_›)
     |6,_|13,_=>exact sI ho HK Hb Hd (hr:=by clear Hd Hb HK;go_simp)
     |8,_=>exact sL ho HK Hb Hd (hl:=K9 ‹_›)
     |15,_=>exact sL ho HK Hb Hd (hl:=Fo ‹_›)
     |2,_=>clear a7 a8 ba bp;obtain rfl:=yH ho;clear Hd Hb;refine yG ?_;go_simp;exact HK.out _ _ ⟨_,rfl,hG.size,yw _ _⟩ (AD _ _)
     |9,_=>clear a7 a8 ba bp;obtain rfl:=yH ho;have d2:Ke wr.heap.size 9 wx (a.tmps[27]?.getD undef):=BT Hd 2;have d8:(a.tmps[33]?.getD undef)= .slice ua (AJ k.zZ qs.length).zV.length uc:=BT Hd 8;clear Hd Hb;refine yG ?_;obtain⟨g_,dr,dq,dp⟩:=d2;obtain⟨v7,w4,bZ,r1,r2,_⟩:=DV (lo:=wr.heap.size) (w:=wx) (t:=60) (ty:=60) 9 _ 1 16 underlying60 Tryz.zL rfl (by decide) dp dq (BJ.below RS.out hG) (Gk _) (by omega);refine Cr rfl (Bk dr) (Bk d8) bZ ?_;exact HK.out _ _ r1 r2
     |16,_=>clear a7 a8 ba bp;obtain rfl:=yH ho;have d9:AP wr.heap.size 9 1 BB wx (a.tmps[34]?.getD undef) (AJ k.zZ qs.length).zV:=BT Hd 9;have cP:(a.tmps[40]?.getD undef)= .int .i64 ((AJ k.zZ qs.length).root):=BT Hd 15;clear Hd Hb;generalize e34:a.tmps[34]?.getD undef=u at d9;have W:Hid (U2 wr.heap.size (AJ k.zZ qs.length).root (AJ k.zZ qs.length).zV wx (.agg #[u, .int .i64 (AJ k.zZ qs.length).root])):=AA ⟨u,rfl,d9⟩;obtain⟨_,_,rfl,_,_⟩:=d9.rd.shape;clear d9;refine yG ?_;go_simp;exact HK.out _ _ W.out (yF _ _)
     |17,_=>clear a7 a8 ba bp;obtain rfl:=yH ho;have eR:U2 wr.heap.size (AJ k.zZ qs.length).root (AJ k.zZ qs.length).zV wx (a.tmps[41]?.getD undef):=BT Hd 16;clear Hd Hb;obtain⟨u,eR,d9⟩:=eR;have HD:=AA d9;obtain⟨_,_,rfl,_,_⟩:=d9.rd.shape;clear d9;refine yG ?_;go_simp;exact HK.out _ _ ⟨_,_,rfl,hG.size,yw _ _,HD.out.below (AD _ _)⟩ (AD _ _)
     |_+18,hq=>omega
    .intro i hi vv wz cE bq hz
     match i,hi with
     |2,_=>exact(Ke.below hz bq)
     |9,_=>exact(AP.below hz bq)
     |16,_=>exact(U2.below hz bq)
     |17,_=>exact(Wg.below hz bq)
     |0,_|1,_|3,_|4,_|5,_|6,_|7,_|8,_|10,_|11,_|12,_|13,_|14,_|15,_=>exact hz
     |_+18,hq=>omega
    .intro vs wx hR hG
     have q1:(vs 1)= .slice ea qs.length ec:=BZ hR 1;have c5:Wg wr.heap.size (AJ k.zZ qs.length).root (AJ k.zZ qs.length).zV wx (vs 17):=BZ hR 17;clear hR;simp only[Al,AV,yE,yB,yA,yy,q1];simp;generalize vs 17=z17 at c5 ⊢;clear q1;obtain⟨gb,u,rfl,_,dC,hu⟩:=c5;have ct:=dI.out.2.2.2.2.2.1;have fe:=(hG.cell (p:=⟨g,2,none⟩) cI).trans y2;have fu:=xZ cI hG.size;have Q:=AA (Zp dC);have HU:=AA hu;have O:=AA (dI.out.2.2.2.1.1.below hG);have HG:=AA hG;have fF:=(ct.trans (hG.mono ct.size)).size;obtain⟨_,_,rfl,_,_⟩:=hu.rd.shape;clear dC hu hG D0 D1 y2 ct;go_wp2_with (at_builtin;go_must (refine Be (lo:=W0.heap.size) (n:=qs.length) (xs:=Ch EX qs) (m:=1) rfl rfl 62 (.agg #[.slice none 0 0, .int .i64 0]) 2 32 underlying25 Tryz.yT rfl (by decide) rfl O.out rfl Q.out (by simp[Value.oneCell']) (by unfold maxLen;omega) (by omega) fF ?_;intro o' w9 k1 k2 k3 k4;have S:=AA (dI.out.step HG.out HU.out (show k.zZ[qs.length]? =some (AJ k.zZ qs.length) by unfold AJ;exact A1 eI) k1 k2);have dD:=dI.out.yM HG.out k2;have z2:=(AF dD).2.2.1;have gp:=AK dD;have dQ:=AY dD;obtain⟨_,_,rfl,_,_⟩:=(Rd.of_owns k1).shape;clear k1 k2 k3 k4 dD fe));go_roundw
     case rel=>exact⟨_,_,by rw[yl,xO];omega,by rw[yl,xO];go_num,S.out⟩
     case measure=>simp[intOf];omega
   .have e3:qs.length=3:=by omega
    obtain⟨hB,⟨fg,o1⟩,o2,o3,o4,ar,_⟩:=St;have o5:DA W0.heap.size wr (.slice ea qs.length ec) qs k.zZ:=by have:=o3;rwa [List.take_of_length_le (by omega)] at this
    have cC:=(ar.block _ (by have:=fP.out;omega)).trans fU.out;have S:=AA (show ∀w',wr.grownBy w' (some (w.heap.size+1))->OW w k (.returned (.agg #[_,_,(.slice ea qs.length ec),_])) w' from fun w' dh=>⟨_,_,_,_,rfl,⟨⟨fg,(o1.yN dh cC).lower av.size⟩,(o2.yN dh cC).lower av.size,⟨qs,(o5.yN dh cC).lower av.size⟩,(o4.yN dh cC).lower av.size⟩,(av.trans (ar.mono av.size)).grown dh (av.trans (ar.mono av.size)).size (fun k hk=>by cases hk;omega)⟩)
    obtain⟨E0,E1,E2,E3⟩:=AF (Cs (m':= .slice pa bV.length pc) (i':= .slice qa k.Os.length qc) (e':= .slice ea qs.length ec) (c':= .slice ra k.zY.length rc) cC);have HE:=AA (ye E0 (ye E1 (ye E2 E3)));have bf:wr.grownBy ((((wr.setCell ⟨w.heap.size+1,0,none⟩ (.slice pa bV.length pc)).setCell ⟨w.heap.size+1,1,none⟩ (.slice qa k.Os.length qc)).setCell ⟨w.heap.size+1,2,none⟩ (.slice ea qs.length ec)).setCell ⟨w.heap.size+1,3,none⟩ (.slice ra k.zY.length rc)) (some (w.heap.size+1)):=An (An (An (Aq wr (w.heap.size+1) 0 _) 1 _) 2 _) 3 _;obtain⟨b0,b1,b2,b3⟩:=AF hB;obtain⟨c0,c1,c2,c3⟩:=AF cC;have cp:=AK cC;have ft:¬(qs.length:Int)<k.zZ.length:=by omega
    have eu:=dy;clear hB cC o1 o2 o3 o4 o5 E0 E1 E2 E3 e3 dy cR;go_wp2_with fail;exact yp (v:= .agg #[_,_,_,_]) (by simp[results,Tryz.results62,go_sem,HE.out]) rfl (S.out _ bf)
theorem Qa (m iv ev cv:Value) (k:AN) (kk b c:Int) (en an:Nat) (nm:ByteArray) (w:World) (h:MM w m iv ev cv k) (hk:DI k) (cK:en<3) (cB:an<12) (dT:kk=4->Bb b=true):
 Calls prog 247 #[.agg #[m,iv,ev,cv], .agg #[.int .i64 kk, .int .i64 en, .int .i64 an, .int .i64 b, .int .i64 c, .string nm]] w (U8 (if kk=4 then Gz k.mem k.Os an b (AJ k.zZ en).zV else Di k.mem k.Os an) w):=by
 obtain⟨N0,N1,av,bY⟩:=Jp w (.cells #[m,iv,ev,cv] 28) (.cells #[.int .i64 kk, .int .i64 en, .int .i64 an, .int .i64 b, .int .i64 c, .string nm] 79);obtain⟨x0,x1,x2,x3⟩:=AF N0;obtain⟨y0,y1,y2,y3,y4,y5⟩:=JK N1;have de:=AY N0;have cJ:=AY N1;have bz:=(Aw hk).1;have bl:=(Aw hk).2.1;have hm:=h.1.below av;have hi:=BJ.below h.2.1 av;obtain⟨ae,ce,rfl,_,_,HE⟩:=(h.2.2.1.below av).open;have bu:en<k.zZ.length:=by rw[hk.zP];exact cK
 obtain⟨be,bk,ua,uc,rfl,ck,D0,_,hR⟩:=HE en bu;have fA:(en:Int)<k.zZ.length:=by omega
 have f8:¬(en:Int)<0:=by omega
 have C1:=fun(h4:kk=4)=>fun W (hW:Below _ _ W)=>Qo m iv _ k.mem k.Os an b (AJ k.zZ en).zV W (hm.below hW) bz (BJ.below hi hW) bl cB (dT h4) (BJ.below hR hW) (H7 hk cK) (hk.zV en cK)
 have C2:=AA (fun W (hW:Below _ _ W)=>OS m iv k.mem k.Os an W (hm.below hW) bz (BJ.below hi hW) bl cB);obtain⟨am,cm,rfl,_⟩:=hm.open;obtain⟨ai,ci,rfl,_,_⟩:=hi.shape;generalize hW0:(w.alloc _).alloc _=W0 at*
 by_cases h4:kk=4
 .rw[if_pos h4]
  have CP:=AA (C1 h4);subst h4;generalize Gz k.mem k.Os an b (AJ k.zZ en).zV=res at*;clear h hk N0 N1 HE hm hi hR C1 C2 bz bl dT bY;go_in;go_wp2_with fail;refine BS 18 36 [.p w.heap.size 0, .v (.slice am k.mem.length cm), .p w.heap.size 1, .v (.slice ai k.Os.length ci), .p (w.heap.size+1) 2, .i ((an:Int)), .p (w.heap.size+1) 3, .i b, .p w.heap.size 2, .v (.slice (some ⟨be,bk,none⟩) k.zZ.length ce), .p (w.heap.size+1) 1, .i ((en:Int)), .p be (bk+en*2), .p be (bk+en*2), .v (.slice ua (AJ k.zZ en).zV.length uc), .z, .z, .i (res.2)] (fun ix vv ww=>match ix with
   |15=>∃v',vv= .tuple #[v', .int .i64 res.2]/\AP W0.heap.size 93 3 A2 ww v' res.1
   |16=>AP W0.heap.size 93 3 A2 ww vv res.1
   |_=>True) ?_ ?_ ?_
  .intro i hi o ho a wx Hb Hd hG K HK
   have a7:=bc hG de x0;have a8:=bc hG de x1;have ba:=bc hG cJ y2;have bp:=bc hG cJ y3;have cH:=bc hG de x2;have eC:=bc hG cJ y1;have eB:=bc hG ck D0
   match i,hi with
   |0,_|2,_|4,_|6,_|8,_|10,_|13,_=>exact sP ho HK Hb Hd
   |1,_=>exact sL ho HK Hb Hd (hl:=GM ‹_›)
   |3,_=>exact sL ho HK Hb Hd (hl:=GF ‹_›)
   |5,_|7,_|11,_=>exact sL ho HK Hb Hd (hl:=Fo ‹_›)
   |9,_=>exact sL ho HK Hb Hd (hl:=NX ‹_›)
   |12,_=>exact sI ho HK Hb Hd (hr:=by clear Hd Hb HK;go_simp)
   |14,_=>exact sL ho HK Hb Hd (hl:=K9 ‹_›)
   |15,_=>exact sC ho HK Hb Hd (CP.out _ hG) (by rintro e w_ ⟨v',rfl,hO,a5⟩;exact⟨_,rfl,⟨_,rfl,hO.lower hG.size⟩,a5⟩)
   |16,_=>
    clear a7 a8 ba bp cH eC eB;obtain rfl:=yH ho;have cP:∃v',(a.tmps[24]?.getD undef)= .tuple #[v', .int .i64 res.2]/\AP W0.heap.size 93 3 A2 wx v' res.1:=BT Hd 15
    clear Hd Hb;obtain⟨v',cP,hO⟩:=cP;refine yG ?_;go_simp;exact HK.out _ _ hO (yF _ _)
   |17,_=>
    clear a7 a8 ba bp cH eC eB;obtain rfl:=yH ho;have cP:∃v',(a.tmps[24]?.getD undef)= .tuple #[v', .int .i64 res.2]/\AP W0.heap.size 93 3 A2 wx v' res.1:=BT Hd 15
    clear Hd Hb;obtain⟨v',cP,hO⟩:=cP;refine yG ?_;go_simp;exact HK.out _ _ rfl (yF _ _)
   |_+18,hq=>omega
  .intro i hi vv wz cE bq hz
   match i,hi with
   |15,_=>exact(by obtain⟨v',h0,h1⟩:=hz;exact⟨v',h0,AP.below h1 bq⟩)
   |16,_=>exact(AP.below hz bq)
   |0,_|1,_|2,_|3,_|4,_|5,_|6,_|7,_|8,_|9,_|10,_|11,_|12,_|13,_|14,_|17,_=>exact hz
   |_+18,hq=>omega
  .intro vs wx hR hG
   have cF:AP W0.heap.size 93 3 A2 wx (vs 16) res.1:=BZ hR 16;have c5:(vs 17)= .int .i64 (res.2):=BZ hR 17;clear hR;simp only[Al,AV,yE,yB,yA,yy,c5];simp;generalize vs 16=z16 at cF ⊢;clear c5;have Q:=AA cF;have dY:=av.trans (hG.mono av.size);obtain⟨_,_,rfl,_,_⟩:=cF.rd.shape;clear cF hG;go_wp2_with fail;go_ret2;exact⟨_,rfl,Q.out.lower av.size,dY⟩
 .rw[if_neg h4]
  have t4:(kk==4)=false:=by simp[h4]
  generalize Di k.mem k.Os an=res at*;clear h hk N0 N1 HE hm hi hR C1 bz bl dT bY h4;go_in;go_wp2_with fail;refine(C2.out _ (yF _ _)).mono ?_;rintro r w2 ⟨v',rfl,hO,b2⟩;have HO:=AA hO;have dY:=av.trans (b2.mono av.size);obtain⟨_,_,rfl,_,_⟩:=hO.rd.shape;clear hO b2;go_wp2_with fail;go_ret2;exact⟨_,rfl,HO.out.lower av.size,dY⟩
theorem Ji {lo:Nat} {w:World} {t:TypeId} (ty:TypeId) (e:TypeId) (z:Value) (sz bytes:Nat) (ht:prog.underlying t=some (.slice e)) (hi:(prog.info? e).map (fun i=>(i.zero,i.size,i.bytes))=some (some z,sz,bytes))
 (fh:z.cells.size=sz) (fl:0<sz) {v u:Value} {n m:Nat} {xs news:List Value} (cg:w.ownsRow lo e sz v n xs) (hr:Rd w u sz m news) (h1:∀u∈news,u.oneCell'=true) (fJ:n+m<=maxLen) (cN:(n+m)*bytes<=140737488355328) (a4:lo<=w.heap.size):
 ∃v' w',(Builtin.append_ #[t,t] ty #[v,u]).run prog w= .ok v' w'/\w'.ownsRow lo e sz v' (n+m) (xs++news)/\w.grownBy w' v.ownBlock/\Below lo w w':=by
 obtain⟨i0,eL,fk,fj,fi⟩:=info_parts hi;obtain⟨ao,c,rfl,eK,cr,hl,ch,hc⟩:=hr;have ar:∀w',w.grownBy w' v.ownBlock->Below lo w w':=fun w' hg=>(yF lo w).grown hg a4 (fun k hk=>(cg.lt k hk).1)
 cases ao with
 |none=>
  have cM:=ch rfl;subst cM;obtain rfl:m=0:=by omega
  have db:news=[]:=xT (by simpa using hl);subst db;exact⟨v,w,run_append_owned_none (P:=prog) (w:=w) lo t ty e i0 sz ht eL v n xs cg,by simpa using cg,⟨rfl,rfl,rfl,yv _,fun _ _ _=>rfl⟩,yF _ _⟩
 |some ad=>
  obtain⟨v',w',h2,h3,h4,_⟩:=run_append_own_at (P:=prog) w lo t ty e i0 z sz bytes ht eL fk fj fi fh fl v n xs cg ad m c news hl (by
   intro j u hu
   rcases Nat.eq_zero_or_pos m with rfl|hm
   .simp at hl
    simp[hl] at hu
   .obtain⟨b,a3,fH,br⟩:=hc hm
    obtain rfl:ad=⟨b,a3,none⟩:=by simpa using fH
    have hj:j<news.length:=(List.getElem?_eq_some_iff.1 hu).1;have d0:(⟨b,a3,none⟩:Addr).add j=⟨b,a3+j,none⟩:=by unfold Addr.add;split<;>simp_all
    rw[d0,br j (by omega),hu]) h1 fJ cN a4
  exact⟨v',w',h2,h3,h4,ar w' h4⟩
def Gh (ss:List ByteArray) (s:ByteArray):List ByteArray×Bool:=if BO ss&&BN s then Cl ss s else([],false)
def ZJ (w:World) (r:List ByteArray×Bool) (e:Ending) (w':World):Prop:=∃v',e= .returned (.tuple #[v', .bool r.2])/\AP w.heap.size 9 1 BB w' v' r.1/\Below w.heap.size w w'
theorem Ry {w:World} {a:Option Addr} {c k:Nat} {ss:List ByteArray} (h:BP w (.slice a n c) ss) (hn:n=ss.length) (hk:k<=n):BP w (.slice a k c) (ss.take k):=by
 obtain⟨ao,c',hv,eK,cr,hl,ch,hc⟩:=h;simp only[xD] at hv;obtain⟨rfl,_,rfl⟩:=hv;have b7:(ss.take k).length=k:=by rw[xW];omega
 unfold BP BJ;rw[b7];refine⟨_,_,rfl,by omega,cr,by rw[JB,uo,b7,Nat.mul_one],ch,fun cU=>?_⟩;obtain⟨b,a3,e,br⟩:=hc (by omega);refine⟨b,a3,e,fun j hj=>?_⟩;have fx:j<k:=by omega
 rw[br j (by omega),JB,JB,List.map_take,List.getElem?_take,if_pos fx]
theorem Xo {w:World} {b a3 c k:Nat} {ss:List ByteArray} (h:BP w (.slice (some ⟨b,a3,none⟩) n c) ss) (hn:n=ss.length) (hk:k<=n) (b' cG:Nat) (he:k<n->b'=b/\cG=a3+k):BP w (.slice (some ⟨b',cG,none⟩) (n - k) (c - k)) (ss.drop k):=by
 obtain⟨ao,c',hv,eK,cr,hl,ch,hc⟩:=h;simp only[xD] at hv;obtain⟨rfl,_,rfl⟩:=hv;have b7:(ss.drop k).length=n - k:=by rw[List.length_drop];omega
 unfold BP BJ;rw[b7];refine⟨_,_,rfl,by omega,by omega,by rw[JB,uo,b7,Nat.mul_one],(by intro e;cases e),fun cU=>?_⟩;obtain⟨b1,dN,e,br⟩:=hc (by omega);obtain⟨rfl,rfl⟩:b=b1/\a3=dN:=by simpa using e
 obtain⟨rfl,rfl⟩:=he (by omega);refine⟨_,_,rfl,fun j hj=>?_⟩;rw[Nat.add_assoc,br (k+j) (by omega),JB,JB,List.map_drop,List.getElem?_drop]
theorem PM {k:AN} (hk:DI k):k.zY.length<=4:=by have:=hk.zY;simp only[BQ,yt,decide_eq_true_eq] at this;exact this.2
theorem EL.newRow {T:Nat} {cs:Array Value} {R:List Nat} {lo g b0:Nat} {w W W':World} {i e c:Value} {k:AN} {gm eU:Nat} (h:EL T cs R lo g b0 w W (.slice (some ⟨gm,0,none⟩) n eU) i e c k) (hn:n=k.mem.length) (hb:Below W.heap.size W W') {v':Value} {r:List Int} (h2:AG W.heap.size W' v' r) {f:Nat} (hf:f<k.mem.length):
 EL T cs R lo g b0 w (W'.setCell ⟨gm,f,none⟩ v') (.slice (some ⟨gm,0,none⟩) n eU) i e c {k with mem:=k.mem.set f r}:=by
 have h':=h.below hb;obtain⟨vs,o1⟩:=h.yK.2.2.1;have f4:vs.length=k.mem.length:=o1.2.1.1;have S:=At.set o1 hb h2 (yv _) h.lo (by omega) (show f<vs.length by omega);have ez:=o1.below hb;obtain⟨dG,hc⟩:=A6 ez.1 gm rfl;obtain⟨hB,hg,_,o2,⟨ps,o3⟩,o4⟩:=h'.yK;exact⟨⟨KE hB S.2 hc (by decide),hg,⟨_,S.1⟩,o2.yN S.2 hc,⟨ps,o3.yN S.2 hc⟩,o4.yN S.2 hc⟩,Ap h'.yM S.2 (Bo hc h'.yM h.ty.2.2.2.2),AM h'.bel S.2 (yr ez.1 gm rfl).1 h'.lo,yD h'.lo S.2.size,h.ty,h'.kf.row S.2 hc (by decide),fun b hr=>⟨(h.rs b hr).1,Ap (h'.rs b hr).2 S.2 (Bo hc (h'.rs b hr).2 (by decide))⟩⟩
def Ab.cs (c:Ab):Array Value:= #[.int .i64 c.k, .int .i64 c.e, .int .i64 c.a, .int .i64 c.b, .int .i64 c.c, .string c.nm]
abbrev SC (lo n:Nat) (call:Ab) (w W:World) (m i e c:Value) (k:AN):Prop:=EL 79 call.cs [n+2] lo n (n+1) w W m i e c k
theorem SC.start {lo:Nat} {w:World} {m i e c:Value} {k:AN} (h:DO lo w m i e c k) (a4:lo<=w.heap.size) (call:Ab):
 SC lo w.heap.size call w (((w.alloc (.cells #[m,i,e,c] 28)).alloc (.cells call.cs 79)).alloc (.cells #[.slice none 0 0, .slice none 0 0, .slice none 0 0, .slice none 0 0] 28)) m i e c k:=by
 obtain⟨N0,N1,av,bY⟩:=Jp w (.cells #[m,i,e,c] 28) (.cells call.cs 79);generalize(w.alloc (.cells #[m,i,e,c] 28)).alloc (.cells call.cs 79)=W at*;have bW:=AD W (.cells #[.slice none 0 0, .slice none 0 0, .slice none 0 0, .slice none 0 0] 28);have N2:=yw W (.cells #[.slice none 0 0, .slice none 0 0, .slice none 0 0, .slice none 0 0] 28);have hb:=av.trans (bW.mono av.size);rw[bY] at N2;refine⟨⟨AC N0 bW,a4,h.below hb⟩,AC N1 bW,hb.mono a4,yD a4 hb.size,by decide,Xy.below (fun _ _ _ _=>rfl) hb,fun b hr=>?_⟩;rw[xi] at hr;subst hr;exact⟨by omega,N2⟩
def bJ (m i e c:Value):Prop:=∃am nm cm ai ni ci ae ne ce ac nc cc,m= .slice am nm cm/\i= .slice ai ni ci/\e= .slice ae ne ce/\c= .slice ac nc cc
def Kh (lo:Nat) (w:World) (res:L8) (r:Ending) (w':World):Prop:=∃m i e c,r= .returned (.tuple #[.agg #[m,i,e,c], .int .i64 res.2.1, .int .i64 res.2.2])/\bJ m i e c/\(res.2.2=0->DO lo w' m i e c res.1)/\Below lo w w'/\(∀(b:Nat) (cu:Array Value),w.heap[b]? =some (.cells cu 28 (0,0))->w'.heap[b]? =w.heap[b]?)
section
variable {T:Nat} {cs:Array Value} {R:List Nat} {lo g b0 b:Nat} {w W W':World} {m i e c:Value} {k:AN}
theorem EL.ys6 {v0 v1 v2 v3 v4 v5:Value} (h:EL T #[v0,v1,v2,v3,v4,v5] R lo g b0 w W m i e c k):W.cell? ⟨b0,0,none⟩=some v0/\W.cell? ⟨b0,1,none⟩=some v1/\W.cell? ⟨b0,2,none⟩=some v2/\W.cell? ⟨b0,3,none⟩=some v3/\W.cell? ⟨b0,4,none⟩=some v4/\W.cell? ⟨b0,5,none⟩=some v5:=JK h.yM
theorem EL.K (h:EL T cs R lo g b0 w W m i e c k):MM W m i e c k:=h.yK.2.2.rd
theorem EL.zS (h:EL T cs R lo g b0 w W m i e c k):bJ m i e c:=by obtain⟨h1,h2,h3,h4⟩:=h.K;obtain⟨am,cm,rfl,_⟩:=h1.open;obtain⟨ai,ci,rfl,_,_⟩:=h2.shape;obtain⟨ae,ce,rfl,_⟩:=h3.open;obtain⟨ac,cc,rfl,_,_⟩:=h4.shape;exact⟨_,_,_,_,_,_,_,_,_,_,_,_,rfl,rfl,rfl,rfl⟩
theorem EL.ret (h:EL T cs [b] lo w.heap.size b0 w W m i e c k) (a4:lo<=b) (dC:w.heap.size<=b) {v code:Int} {res:L8} (hr:res=(k,v,code)):
 ((((W.setCell ⟨b,0,none⟩ m).setCell ⟨b,1,none⟩ i).setCell ⟨b,2,none⟩ e).setCell ⟨b,3,none⟩ c).heap[b]? =some (.cells #[m,i,e,c] 28 (0,0))/\
 Kh lo w res (.returned (.tuple #[.agg #[m,i,e,c], .int .i64 v, .int .i64 code])) ((((W.setCell ⟨b,0,none⟩ m).setCell ⟨b,1,none⟩ i).setCell ⟨b,2,none⟩ e).setCell ⟨b,3,none⟩ c):=by
 obtain⟨cT,hB⟩:=h.rs b (xi.2 rfl);subst hr;have bf:=An (An (An (Aq W b 0 m) 1 i) 2 e) 3 c;obtain⟨⟨vs,o1⟩,o2,⟨ps,o3⟩,o4⟩:=h.yK.2.2;exact⟨Cs hB,m,i,e,c,rfl,h.zS,fun _=>⟨⟨vs,o1.yN bf hB⟩,o2.yN bf hB,⟨ps,o3.yN bf hB⟩,o4.yN bf hB⟩,(((h.bel.setCell a4 _).setCell a4 _).setCell a4 _).setCell a4 _,fun q cu hq=>(Ap ((h.kf q cu (by have:=AY hq;omega) hq).trans hq) (An (An (An (Aq W b 0 m) 1 i) 2 e) 3 c) (by have:=AY hq;omega)).trans hq.symm⟩
theorem EL.bad (h:EL T cs [b] lo w.heap.size b0 w W m i e c k) (a4:lo<=b) (dC:w.heap.size<=b) {v code:Int} {res:L8} {k':AN} (hr:res=(k',v,code)) (hc:code≠0):
 ((((W.setCell ⟨b,0,none⟩ m).setCell ⟨b,1,none⟩ i).setCell ⟨b,2,none⟩ e).setCell ⟨b,3,none⟩ c).heap[b]? =some (.cells #[m,i,e,c] 28 (0,0))/\
 Kh lo w res (.returned (.tuple #[.agg #[m,i,e,c], .int .i64 v, .int .i64 code])) ((((W.setCell ⟨b,0,none⟩ m).setCell ⟨b,1,none⟩ i).setCell ⟨b,2,none⟩ e).setCell ⟨b,3,none⟩ c):=by
 obtain⟨cT,hB⟩:=h.rs b (xi.2 rfl);subst hr;exact⟨Cs hB,m,i,e,c,rfl,h.zS,fun h=>absurd h hc,(((h.bel.setCell a4 _).setCell a4 _).setCell a4 _).setCell a4 _,fun q cu hq=>(Ap ((h.kf q cu (by have:=AY hq;omega) hq).trans hq) (An (An (An (Aq W b 0 m) 1 i) 2 e) 3 c) (by have:=AY hq;omega)).trans hq.symm⟩
theorem EL.zs (h:EL T cs [b] lo g b0 w W m i e c k):(W.cell? ⟨b,0,none⟩=some (.slice none 0 0)/\W.cell? ⟨b,1,none⟩=some (.slice none 0 0)/\W.cell? ⟨b,2,none⟩=some (.slice none 0 0)/\W.cell? ⟨b,3,none⟩=some (.slice none 0 0))/\∀q,W.frozen? ⟨b,q,none⟩=false:=
 have hB:=(h.rs b (xi.2 rfl)).2
 ⟨AF hB,AK hB⟩
def aX (W:World) (lo g b:Nat) (m i e c:Value) (w:World) (res:L8) (v code:Int):Prop:=(W.cell? ⟨g,0,none⟩=some m/\W.cell? ⟨g,1,none⟩=some i/\W.cell? ⟨g,2,none⟩=some e/\W.cell? ⟨g,3,none⟩=some c)/\((W.cell? ⟨b,0,none⟩=some (.slice none 0 0)/\W.cell? ⟨b,1,none⟩=some (.slice none 0 0)/\W.cell? ⟨b,2,none⟩=some (.slice none 0 0)/\W.cell? ⟨b,3,none⟩=some (.slice none 0 0))/\∀q,W.frozen? ⟨b,q,none⟩=false)/\
 Hid (((((W.setCell ⟨b,0,none⟩ m).setCell ⟨b,1,none⟩ i).setCell ⟨b,2,none⟩ e).setCell ⟨b,3,none⟩ c).cell? ⟨b,0,none⟩=some m/\((((W.setCell ⟨b,0,none⟩ m).setCell ⟨b,1,none⟩ i).setCell ⟨b,2,none⟩ e).setCell ⟨b,3,none⟩ c).cell? ⟨b,1,none⟩=some i/\((((W.setCell ⟨b,0,none⟩ m).setCell ⟨b,1,none⟩ i).setCell ⟨b,2,none⟩ e).setCell ⟨b,3,none⟩ c).cell? ⟨b,2,none⟩=some e/\((((W.setCell ⟨b,0,none⟩ m).setCell ⟨b,1,none⟩ i).setCell ⟨b,2,none⟩ e).setCell ⟨b,3,none⟩ c).cell? ⟨b,3,none⟩=some c)/\
 Hid (Kh lo w res (.returned (.tuple #[.agg #[m,i,e,c], .int .i64 v, .int .i64 code])) ((((W.setCell ⟨b,0,none⟩ m).setCell ⟨b,1,none⟩ i).setCell ⟨b,2,none⟩ e).setCell ⟨b,3,none⟩ c))
theorem EL.fin (h:EL T cs [w.heap.size+2] lo w.heap.size b0 w W m i e c k) (a4:lo<=w.heap.size) {v code:Int} {res:L8} (hr:res=(k,v,code)):aX W lo w.heap.size (w.heap.size+2) m i e c w res v code:=
 have⟨h1,h2⟩:=h.ret (yD a4 (vX _ _)) (vX _ _) hr
 ⟨h.xs,h.zs,AA (AF h1),AA h2⟩
theorem EL.yJ (h:EL T cs [w.heap.size+2] lo w.heap.size b0 w W m i e c k) (a4:lo<=w.heap.size) {v code:Int} {res:L8} {k':AN} (hr:res=(k',v,code)) (hc:code≠0):aX W lo w.heap.size (w.heap.size+2) m i e c w res v code:=
 have⟨h1,h2⟩:=h.bad (yD a4 (vX _ _)) (vX _ _) hr hc
 ⟨h.xs,h.zs,AA (AF h1),AA h2⟩
end
theorem UO {lo:Nat} {m iv ev cv:Value} {k:AN} {w:World} (h:DO lo w m iv ev cv k) (a4:lo<=w.heap.size) (hk:DI k) (call:Ab) (he:0<=call.e/\call.e<3) (h2:call.k=2):
 Calls prog 213 #[.agg #[m,iv,ev,cv], .agg call.cs] w (Kh lo w (Ad k call)):=by
 have cD:=SC.start h a4 call;have HP:=AA (VD (k:=k) h2);have FZ:=AA (fun hz=>JN (k:=k) (c:=call) (kind:=1) hz);obtain⟨am,eA,cm,ai,ni,ci,ae,dO,ce,ac,nc,cc,rfl,rfl,rfl,rfl⟩:=cD.zS;have S0:=AA cD;obtain⟨kk,e,a,b,c,nm⟩:=call;simp only[Ab.cs] at S0 HP FZ ⊢;have HK:=AA hk;have CF:=AA (fun W (h:MM W (.slice am eA cm) (.slice ai ni ci) (.slice ae dO ce) (.slice ac nc cc) k)=>KI _ _ _ _ k kk e a b c nm 1 W h hk he (.inr rfl));obtain⟨x0,x1,x2,x3⟩:=S0.out.xs;obtain⟨y0,y1,y2,y3,y4,y5⟩:=S0.out.ys6;generalize hfc:Bx k ⟨kk,e,a,b,c,nm⟩ 1=fc at*;have Hn:Hid (w.heap.size=w.heap.size):=AA rfl;clear h h2 cD hfc he hk;generalize hW0:((w.alloc _).alloc _).alloc _=W0 at*;go_in;go_wp2_with fail;refine(CF.out _ S0.out.K).mono ?_;rintro r w1 ⟨rfl,bW⟩;have S1:=AA (S0.out.below bW);clear x0 x1 x2 x3 y0 y1 y2 y3 y4 y5 bW CF
 by_cases ef:fc=0
 .subst ef
  obtain⟨co,cU,hm,df,_⟩:=FZ.out rfl;have ab:=Ac.1 co;obtain⟨an,rfl⟩:∃n:Nat,a=(n:Int):=⟨a.toNat,by omega⟩
  have cB:an<12:=by omega
  have dB:(zU k.Os an).k=1:=df (by decide);have bl:=(Aw HK.out).2.1;have ca:=AA (show Ad k ⟨kk,e,(an:Int),b,c,nm⟩=if(zU k.Os an).r≠0 then(k,0,2) else({k with Os:=k.Os.set an AU.zero},0,0) by rw[HP.out];rfl);obtain⟨x0,x1,x2,x3⟩:=S1.out.xs;obtain⟨y0,y1,y2,y3,y4,y5⟩:=S1.out.ys6
  by_cases er:(zU k.Os an).r=0
  focus
   have CG:=AA (fun W hi=>Py (.slice ai ni ci) k.Os an W hi bl cB dB er)
   have bK:=AA (show Ad k ⟨kk,e,(an:Int),b,c,nm⟩=({k with Os:=k.Os.set an AU.zero},0,0) by rw[ca.out,if_neg (by simp[er])]);clear co cU hm df dB er bl FZ HP ca ab;go_wp2_with fail;refine(CG.out _ S1.out.K.2.1).mono ?_;rintro r w2 ⟨v',rfl,hO,a5⟩;clear x0 x1 x2 x3 y0 y1 y2 y3 y4 y5;have S2:=AA (S1.out.zp a5 hO);have go:=AK (S1.out.below a5).yK.1;have fX:=(S1.out.below a5).xs.2.1;obtain⟨a9,c9,e9,_,_⟩:=hO.rd.shape;generalize List.length _=n9 at e9;subst e9;clear hO a5;generalize hW9:w2.setCell _ _=W9 at S2;obtain⟨⟨x0,x1,x2,x3⟩,⟨⟨z0,z1,z2,z3⟩,cp⟩,HE,HR⟩:=S2.out.fin a4 (v:=0) (code:=0) (bK.out)
  rotate_left
  focus
   have CG:=AA (fun W hi=>Qn (.slice ai ni ci) k.Os an W hi bl cB dB er)
   have bK:=AA (show Ad k ⟨kk,e,(an:Int),b,c,nm⟩=(k,0,2) by rw[ca.out,if_pos er]);clear co cU hm df dB er bl FZ HP ca ab;go_wp2_with fail;refine(CG.out _ S1.out.K.2.1).mono ?_;rintro r w2 ⟨v',rfl,a5⟩;have S2:=AA (S1.out.below a5);clear x0 x1 x2 x3 y0 y1 y2 y3 y4 y5 a5;obtain⟨⟨x0,x1,x2,x3⟩,⟨⟨z0,z1,z2,z3⟩,cp⟩,HE,HR⟩:=S2.out.yJ a4 (v:=0) (code:=2) (bK.out) (by decide)
  rotate_left
  all_goals
   go_wp2_with ((try simp only[xS,Exit.then]);with_reducible refine yp ?_ rfl HR.out;obtain⟨E0,E1,E2,E3⟩:=HE.out;simp[results,sY,go_sem,E0,E1,E2,E3])
 .have t1:(fc !=0)=true:=by simp[ef]
  have hc:=AA ef;have bK:=AA (show Ad k ⟨kk,e,a,b,c,nm⟩=(k,0,fc) by rw[HP.out,if_neg ef]);clear ef FZ HP;obtain⟨⟨x0,x1,x2,x3⟩,⟨⟨z0,z1,z2,z3⟩,cp⟩,HE,HR⟩:=S1.out.yJ a4 (v:=0) (code:=fc) (bK.out) (hc.out);go_wp2_with ((try simp only[xS,Exit.then]);with_reducible refine yp ?_ rfl HR.out;obtain⟨E0,E1,E2,E3⟩:=HE.out;simp[results,sY,go_sem,E0,E1,E2,E3])
theorem UP {lo:Nat} {m iv ev cv:Value} {k:AN} {w:World} (h:DO lo w m iv ev cv k) (a4:lo<=w.heap.size) (hk:DI k) (call:Ab) (he:0<=call.e/\call.e<3) (h2:call.k=3):
 Calls prog 214 #[.agg #[m,iv,ev,cv], .agg call.cs] w (Kh lo w (Ad k call)):=by
 have cD:=SC.start h a4 call;have HP:=AA (VE (k:=k) h2);have FZ:=AA (fun hz=>JN (k:=k) (c:=call) (kind:=1) hz);have bz:=(Aw hk).1;obtain⟨gm,dt,rfl,_⟩:=EL.mems cD bz;obtain⟨am,eA,cm,ai,ni,ci,ae,dO,ce,ac,nc,cc,em,rfl,rfl,rfl⟩:=cD.zS;clear em;have S0:=AA cD;obtain⟨kk,e,a,b,c,nm⟩:=call;simp only[Ab.cs] at S0 HP FZ ⊢;have HK:=AA hk;have CF:=AA (fun W (h:MM W (.slice (some ⟨gm,0,none⟩) 12 dt) (.slice ai ni ci) (.slice ae dO ce) (.slice ac nc cc) k)=>KI _ _ _ _ k kk e a b c nm 1 W h hk he (.inr rfl));obtain⟨x0,x1,x2,x3⟩:=S0.out.xs;obtain⟨y0,y1,y2,y3,y4,y5⟩:=S0.out.ys6;generalize hfc:Bx k ⟨kk,e,a,b,c,nm⟩ 1=fc at*;have eW:=AA bz;clear h h2 cD hfc he hk bz;generalize hW0:((w.alloc _).alloc _).alloc _=W0 at*;go_in;go_wp2_with fail;refine(CF.out _ S0.out.K).mono ?_;rintro r w1 ⟨rfl,bW⟩;have S1:=AA (S0.out.below bW);clear x0 x1 x2 x3 y0 y1 y2 y3 y4 y5 bW CF
 by_cases ef:fc=0
 .subst ef
  obtain⟨co,cU,hm,df,_⟩:=FZ.out rfl;have ab:=Ac.1 co;obtain⟨an,rfl⟩:∃n:Nat,a=(n:Int):=⟨a.toNat,by omega⟩
  have cB:an<12:=by omega
  have fG:(an:Int)<12:=by omega
  have ca:=AA (show Ad k ⟨kk,e,(an:Int),b,c,nm⟩=if Bd b 0 3=false∨Dy c=false then(k,0,3) else({k with mem:=CZ k.mem an b.toNat c},0,0) by rw[HP.out];rfl);obtain⟨x0,x1,x2,x3⟩:=S1.out.xs;obtain⟨y0,y1,y2,y3,y4,y5⟩:=S1.out.ys6;clear co cU hm df ab FZ HP;cases bD:Bd b 0 3
  .have bK:=AA (show Ad k ⟨kk,e,(an:Int),b,c,nm⟩=(k,0,3) by rw[ca.out,if_pos (.inl bD)])
   have du:=AA bD;clear bD ca;go_wp2_with fail;refine(Cv _ _ _ _).mono ?_;rintro r w2 ⟨rfl,rfl⟩;rw[du.out];clear x0 x1 x2 x3 y0 y1 y2 y3 y4 y5;obtain⟨⟨x0,x1,x2,x3⟩,⟨⟨z0,z1,z2,z3⟩,cp⟩,HE,HR⟩:=S1.out.yJ a4 (v:=0) (code:=3) (bK.out) (by decide);go_wp2_with ((try simp only[xS,Exit.then]);with_reducible refine yp ?_ rfl HR.out;obtain⟨E0,E1,E2,E3⟩:=HE.out;simp[results,vk,go_sem,E0,E1,E2,E3])
  .cases cY:Dy c
   .have bK:=AA (show Ad k ⟨kk,e,(an:Int),b,c,nm⟩=(k,0,3) by rw[ca.out,if_pos (.inr cY)])
    have du:=AA bD;have eh:=AA (show Bd c 0 9999=false from cY);clear bD ca cY;go_wp2_with fail;refine(Cv _ _ _ _).mono ?_;rintro r w2 ⟨rfl,rfl⟩;rw[du.out];go_wp2_with fail;refine(Cv _ _ _ _).mono ?_;rintro r w2 ⟨rfl,rfl⟩;rw[eh.out];clear x0 x1 x2 x3 y0 y1 y2 y3 y4 y5;obtain⟨⟨x0,x1,x2,x3⟩,⟨⟨z0,z1,z2,z3⟩,cp⟩,HE,HR⟩:=S1.out.yJ a4 (v:=0) (code:=3) (bK.out) (by decide);go_wp2_with ((try simp only[xS,Exit.then]);with_reducible refine yp ?_ rfl HR.out;obtain⟨E0,E1,E2,E3⟩:=HE.out;simp[results,vk,go_sem,E0,E1,E2,E3])
   .have bK:=AA (show Ad k ⟨kk,e,(an:Int),b,c,nm⟩=({k with mem:=CZ k.mem an b.toNat c},0,0) by rw[ca.out,if_neg (by simp[bD,cY])])
    have bb:=Ac.1 bD;obtain⟨bn,rfl⟩:∃n:Nat,b=(n:Int):=⟨b.toNat,by omega⟩
    have cx:bn<4:=by omega
    have fE:(bn:Int)<4:=by omega
    have du:=AA bD;have eh:=AA (show Bd c 0 9999=true from cY);obtain⟨gw,ds,D,ge,fC,_⟩:=EL.mrow S1.out eW.out cB;obtain⟨cJ,de,_,_⟩:=S1.out.lts;have eM:gm<w1.heap.size:=yC _ _ D;clear bD cY bb ca;go_wp2_with fail;refine(Cv _ _ _ _).mono ?_;rintro r w2 ⟨rfl,rfl⟩;rw[du.out];go_wp2_with fail;refine(Cv _ _ _ _).mono ?_;rintro r w2 ⟨rfl,rfl⟩;rw[eh.out];go_wp2_with fail;refine Aa 10 40 [.p w.heap.size 0, .s gm 12 dt, .p (w.heap.size+1) 2, .i ((an:Int)), .p gm an, .s gw 4 ds, .p (w.heap.size+1) 3, .i ((bn:Int)), .p (w.heap.size+1) 4, .i c] (fun _ _ _=>True) ?_ ?_
    .intro i hi o ho a wx Hb Hd hG K HK
     have a7:=bc hG de x0;have a8:=bc hG cJ y2;have ba:=bc hG eM D;have bp:=bc hG cJ y3;have cH:=bc hG cJ y4
     match i,hi with
     |0,_|2,_|6,_|8,_=>exact sP ho HK Hb Hd
     |1,_=>exact sL ho HK Hb Hd (hl:=GM ‹_›)
     |3,_|7,_|9,_=>exact sL ho HK Hb Hd (hl:=Fo ‹_›)
     |4,_=>exact sI ho HK Hb Hd (hr:=by clear Hd Hb HK;go_simp)
     |5,_=>exact sL ho HK Hb Hd (hl:=Jx ‹_›)
    .intro vs wx hR hG
     have q5:(vs 5)= .slice (some ⟨gw,0,none⟩) 4 ds:=BZ hR 5;have q7:(vs 7)= .int .i64 bn:=BZ hR 7;have q9:(vs 9)= .int .i64 c:=BZ hR 9;clear hR;simp only[Al,AV,yE,yB,yA,yy,q5,q7,q9];simp;clear q5 q7 q9;have S2:=AA (S1.out.below hG);obtain⟨gl,eT,D2,_,_,hC,Fr,_,_,_,hS⟩:=EL.mrow S2.out eW.out cB;have eD:=D2.symm.trans ((hG.cell (p:=⟨gm,an,none⟩) eM).trans D);cases eD;have D3:=hC bn cx;have S3:=AA (hS bn c cx);generalize hW9:wx.setCell _ _=W9 at S3;clear x0 x1 x2 x3 y0 y1 y2 y3 y4 y5 D D2 hS hG S1 hC;obtain⟨⟨x0,x1,x2,x3⟩,⟨⟨z0,z1,z2,z3⟩,cp⟩,HE,HR⟩:=S3.out.fin a4 (v:=0) (code:=0) (bK.out);go_wp2_with ((try simp only[xS,Exit.then]);with_reducible refine yp ?_ rfl HR.out;obtain⟨E0,E1,E2,E3⟩:=HE.out;simp[results,vk,go_sem,E0,E1,E2,E3])
 .have t1:(fc !=0)=true:=by simp[ef]
  have hc:=AA ef;have bK:=AA (show Ad k ⟨kk,e,a,b,c,nm⟩=(k,0,fc) by rw[HP.out,if_neg ef]);clear ef FZ HP;obtain⟨⟨x0,x1,x2,x3⟩,⟨⟨z0,z1,z2,z3⟩,cp⟩,HE,HR⟩:=S1.out.yJ a4 (v:=0) (code:=fc) (bK.out) (hc.out);go_wp2_with ((try simp only[xS,Exit.then]);with_reducible refine yp ?_ rfl HR.out;obtain⟨E0,E1,E2,E3⟩:=HE.out;simp[results,vk,go_sem,E0,E1,E2,E3])
def Es (w:World) (b:Nat) (m i e c:Value):World:=(((w.setCell ⟨b,0,none⟩ m).setCell ⟨b,1,none⟩ i).setCell ⟨b,2,none⟩ e).setCell ⟨b,3,none⟩ c
def GA (W:World) (b:Nat) (m i e c:Value) (t:Bool) (ww:World):Prop:=match t with
 |false=>Below W.heap.size W ww
 |true=>∃wz,Below W.heap.size W wz/\Below wz.heap.size (Es wz b m i e c) ww
theorem GA.grow {W:World} {b:Nat} {m i e c:Value} {t:Bool} {ww cE:World} (h:GA W b m i e c t ww) (hb:Below ww.heap.size ww cE):GA W b m i e c t cE:=by
 cases t
 .exact Below.trans h (hb.mono (Below.size h))
 .obtain⟨wz,h1,h2⟩:=h
  exact⟨wz,h1,h2.trans (hb.mono (by have:=h2.size;simpa[Es] using this))⟩
theorem GA.cell {W:World} {b:Nat} {m i e c:Value} {t:Bool} {ww:World} (h:GA W b m i e c t ww) {g o:Nat} (hp:g<W.heap.size) (cT:g≠b):ww.cell? ⟨g,o,none⟩=W.cell? ⟨g,o,none⟩:=by
 cases t
 .exact Below.cell (p:=⟨g,o,none⟩) h hp
 .obtain⟨wz,h1,h2⟩:=h
  have hz:g<wz.heap.size:=xZ hp h1.size;have bf:wz.grownBy (Es wz b m i e c) (some b):=An (An (An (Aq wz b 0 m) 1 i) 2 e) 3 c;exact(Below.cell (p:=⟨g,o,none⟩) h2 hz).trans ((Fx bf hz (fun e=>cT (yH e).symm)).trans (h1.cell (p:=⟨g,o,none⟩) hp))
theorem Fs {w:World} {g T:Nat} {a b c:Value} (h:w.heap[g]? =some (.cells #[a,b,c] T (0,0))):w.cell? ⟨g,0,none⟩=some a/\w.cell? ⟨g,1,none⟩=some b/\w.cell? ⟨g,2,none⟩=some c:=
 ⟨yi _ _ 0 _ _ _ h,yi _ _ 1 _ _ _ h,yi _ _ 2 _ _ _ h⟩
theorem WL {m:List (List Int)} {root a fr:Nat} {wb:Bool} (h:Bu m root a=(0,fr,wb)):fr<12:=by
 unfold Bu at h
 split at h
 .split at h
  .next h2=>cases h;exact EH h2
  .cases h
 .cases h
theorem EL.yN {T:Nat} {cs:Array Value} {R:List Nat} {lo g b0 q:Nat} {w W W':World} {m i e c:Value} {k:AN} (h:EL T cs R lo g b0 w W m i e c k) (hT:T≠100) {cu:Array Value} (hB:W.heap[q]? =some (.cells cu 100 (0,0))) (hq:lo<=q) (hg:W.grownBy W' (some q)):EL T cs R lo g b0 w W' m i e c k:=by
 obtain⟨hK,a4,⟨vs,o1⟩,o2,⟨ps,o3⟩,o4⟩:=h.yK;exact⟨⟨KE hK hg hB (by decide),a4,⟨vs,o1.yN hg hB⟩,o2.yN hg hB,⟨ps,o3.yN hg hB⟩,o4.yN hg hB⟩,Ap h.yM hg (Bo hB h.yM hT.symm),AM h.bel hg hq h.lo,yD h.lo hg.size,h.ty,h.kf.row hg hB (by decide),fun b hr=>⟨(h.rs b hr).1,Ap (h.rs b hr).2 hg (Bo hB (h.rs b hr).2 (by decide))⟩⟩
theorem EL.place {T:Nat} {cs:Array Value} {R:List Nat} {lo g b0 q:Nat} {w W:World} {m i e c x y z:Value} {k:AN} (h:EL T cs R lo g b0 w W m i e c k) (hT:T≠100) (hB:W.heap[q]? =some (.cells #[x,y,z] 100 (0,0))) (hq:lo<=q) (u v t:Value):
 EL T cs R lo g b0 w (((W.setCell ⟨q,0,none⟩ u).setCell ⟨q,1,none⟩ v).setCell ⟨q,2,none⟩ t) m i e c k/\(((W.setCell ⟨q,0,none⟩ u).setCell ⟨q,1,none⟩ v).setCell ⟨q,2,none⟩ t).heap[q]? =some (.cells #[u,v,t] 100 (0,0)):=by
 refine⟨h.yN hT hB hq (An (An (Aq W q 0 u) 1 v) 2 t),?_⟩;have h1:=yu W q 0 _ 100 u hB;have h2:=yu _ q 1 _ 100 v h1;have h3:=yu _ q 2 _ 100 t h2;simpa using h3
theorem EL.place2 {T:Nat} {cs:Array Value} {R:List Nat} {lo g b0 q:Nat} {w W:World} {m i e c x y z:Value} {k:AN} (h:EL T cs R lo g b0 w W m i e c k) (hT:T≠100) (hB:W.heap[q]? =some (.cells #[x,y,z] 100 (0,0))) (hq:lo<=q) (u t:Value):
 EL T cs R lo g b0 w ((W.setCell ⟨q,0,none⟩ u).setCell ⟨q,2,none⟩ t) m i e c k/\((W.setCell ⟨q,0,none⟩ u).setCell ⟨q,2,none⟩ t).heap[q]? =some (.cells #[u,y,t] 100 (0,0)):=by
 refine⟨h.yN hT hB hq (An (Aq W q 0 u) 2 t),?_⟩;have h1:=yu W q 0 _ 100 u hB;have h3:=yu _ q 2 _ 100 t h1;simpa using h3
theorem Kh.below {lo:Nat} {w W W':World} {res:L8} {r:Ending} (h:Kh lo w res r W) (a4:lo<=W.heap.size) (hb:Below W.heap.size W W'):Kh lo w res r W':=by
 obtain⟨m,i,e,c,h1,hs,h2,h3,h4⟩:=h;exact⟨m,i,e,c,h1,hs,fun hc=>(h2 hc).below hb,h3.trans (hb.mono a4),fun b cu hB=>(hb.block b (AY ((h4 b cu hB).trans hB))).trans (h4 b cu hB)⟩
theorem PR (v:Value) (m:List (List Int)) (root a:Nat) (w:World) (h:Bc w v m) (bz:Bs m=true) (hr:root<12) (ha:a<64):
 Calls prog 150 #[v, .int .i64 root, .int .i64 a] w fun e w'=>e= .returned (Ib m root a)/\Below w.heap.size w w':=by
 obtain⟨q,c,rfl,hc,cr,H0⟩:=h.open;have hl:=(Ah.1 bz).1;unfold maxLen at cr;rw[hl] at hc ⊢;obtain⟨b,a3,b2,dM,c2,rfl,hb,D,a5,D2⟩:=H0.word bz hr (show a/16<4 by omega);have D':=((AD w (.cells #[.int .i64 0, .int .i64 0, .bool false] 100)).cell (p:=⟨b,a3+root,none⟩) hb).trans D;have gv:=((AD w (.cells #[.int .i64 0, .int .i64 0, .bool false] 100)).cell (p:=⟨b2,dM+a/16,none⟩) a5).trans D2;have dP:=Gr bz hr (show a/16<4 by omega);have E1:=AA (fun W=>Cx (As m root (a/16)) W (by omega));have hB:=AD w (.cells #[.int .i64 0, .int .i64 0, .bool false] 100);cases b8:Bf (As m root (a/16))
 .have S:=AA (show Ib m root a= .tuple #[En, .int .i64 1] by simp[Ib,Bu,b8])
  have V1:=AA (Eb b8);clear H0 D D2 b8 dP hb a5;go_in;go_wp2_with fail;refine(E1.out _).mono ?_;rintro e w' ⟨rfl,rfl⟩;rw[V1.out];go_wp2_with fail;exact yp (v:= .tuple #[En, .int .i64 1]) (by simp[results,vj,go_sem,En]) rfl ⟨by rw[S.out],hB⟩
 .have ht:A8 (As m root (a/16))<12:=EH b8
  have V1:=AA (ER b8);obtain⟨b',cG,b3,dJ,c3,e,eO,D3,bD,D4⟩:=H0.word bz ht (show a/4%4<4 by omega);cases e;have gt:=((AD w (.cells #[.int .i64 0, .int .i64 0, .bool false] 100)).cell (p:=⟨b,a3+A8 (As m root (a/16)),none⟩) hb).trans D3;have gs:=((AD w (.cells #[.int .i64 0, .int .i64 0, .bool false] 100)).cell (p:=⟨b3,dJ+a/4%4,none⟩) bD).trans D4;have eE:=Gr bz ht (show a/4%4<4 by omega);have E2:=AA (fun W=>Cx (As m (A8 (As m root (a/16))) (a/4%4)) W (by omega));cases cV:Bf (As m (A8 (As m root (a/16))) (a/4%4))
  .have S:=AA (show Ib m root a= .tuple #[En, .int .i64 2] by simp[Ib,Bu,b8,cV])
   have V2:=AA (Eb cV);clear H0 D D2 D3 D4 b8 cV dP eE hb a5 bD eO;go_in;go_wp2_with fail;refine(E1.out _).mono ?_;rintro e w' ⟨rfl,rfl⟩;rw[V1.out];go_wp2_with fail;refine(E2.out _).mono ?_;rintro e w' ⟨rfl,rfl⟩;rw[V2.out];go_wp2_with fail;exact yp (v:= .tuple #[En, .int .i64 2]) (by simp[results,vj,go_sem,En]) rfl ⟨by rw[S.out],hB⟩
  .have S:=AA (show Ib m root a= .tuple #[.agg #[.int .i64 ((A8 (As m (A8 (As m root (a/16))) (a/4%4)):Nat):Int), .int .i64 ((a:Int)%4), .bool (KF (As m root (a/16))&&KF (As m (A8 (As m root (a/16))) (a/4%4)))], .int .i64 0] by simp[Ib,Bu,b8,cV,MI])
   have V2:=AA (ER cV);generalize A8 (As m (A8 (As m root (a/16))) (a/4%4))=fr at S V2;generalize KF (As m (A8 (As m root (a/16))) (a/4%4))=wb at S V2;generalize KF (As m root (a/16))=wa at S V1;cases wa
   all_goals
    clear H0 D D2 D3 D4 b8 cV dP eE hb a5 bD eO;go_in;go_wp2_with fail;refine(E1.out _).mono ?_;rintro e w' ⟨rfl,rfl⟩;rw[V1.out];go_wp2_with fail;refine(E2.out _).mono ?_;rintro e w' ⟨rfl,rfl⟩;rw[V2.out];go_wp2_with fail
   .exact yp (v:= .tuple #[.agg #[.int .i64 fr, .int .i64 ((a:Int)%4), .bool false], .int .i64 0]) (by simp[results,vj,go_sem]) rfl ⟨by rw[S.out,Bool.false_and],AD _ _⟩
   .exact yp (v:= .tuple #[.agg #[.int .i64 fr, .int .i64 ((a:Int)%4), .bool wb], .int .i64 0]) (by simp[results,vj,go_sem]) rfl ⟨by rw[S.out,vS],AD _ _⟩
theorem Lt {P:Program} {f:FuncId} {bs:Array Value} {w:World} {v:Ending} (h:Calls P f bs w fun e w'=>e=v/\∃n,w'=w.drewN n):Calls P f bs w fun e w'=>e=v/\Below w.heap.size w w':=by refine h.mono ?_;rintro e w' ⟨h1,n,rfl⟩;exact⟨h1,A9 (yF _ _) n⟩
theorem Nz (m i e c:Value) (k:AN) (w:World) (h:Bc w m k.mem) (hm:Bs k.mem=true) (hI:BU w i k.Os) (bl:BK k.Os=true) (hE:Fk w e k.zZ) (bu:k.zZ.length=3) (hr:∀j,j<3->(AJ k.zZ j).root<12):
 Calls prog 94 #[.agg #[m,i,e,c]] w fun r w'=>r= .returned (.bool ((yE 12).all (Gl k)))/\Below w.heap.size w w':=by
 have N0:=yw w (.cells #[m,i,e,c] 28);have av:=AD w (.cells #[m,i,e,c] 28);replace h:=h.below av;replace hI:=BJ.below hI av;obtain⟨ae,ce,rfl,_,_,bB⟩:=(hE.below av).open;have cA:=(A0.1 bl).1;have C:=AA (Sm _ _ k.mem k.Os _ h hm hI cA);obtain⟨ai,ci,rfl,_,_,dw⟩:=BJ.open Az (by decide) hI;obtain⟨x0,x1,_,_⟩:=AF N0;obtain⟨am,cm,rfl,_⟩:=h.open;have Hl:=AA cA;have bA:=AA bu;clear cA bu;go_in;go_wp2_with fail;generalize w.alloc _=W0 at*;have HN:=AA N0;have HH:=AA dw;have HE:=AA bB;have Hm:=AA hm;have Hr:=AA hr;have dA:=AY N0;have bt:=AA av;clear h hI hm bl N0 dw bB hE hr;refine C.out.mono ?_;rintro r w1 ⟨v',rfl,hO,bW⟩;rw[<-Rn] at hO;obtain⟨gr,bo,rfl,f6,fo⟩:=JE hO (by rw[Dm];omega);have fI:Hid (AG W0.heap.size w1 (.slice (some ⟨gr,0,none⟩) 12 bo) (EZ k 0)):=AA (by have:=hO;rw[Dm] at this;exact this);rw[Dm];have fW:=AA bW;clear hO fo x0 x1 C bW av;go_wp2_with fail;go_loopw [4] (fun s4 wr=>∃j:Nat,j<=3/\s4= .int .i64 j/\AG W0.heap.size wr (.slice (some ⟨gr,0,none⟩) 12 bo) (EZ k j)/\Below W0.heap.size W0 wr) (fun s4 _=>3 - (intOf s4).toNat)
 case atStart=>exact⟨0,yh _,rfl,fI.out,fW.out⟩
 case round=>
  obtain⟨j,hj,rfl,hO,ar⟩:=hrel;have HO:=AA hO;have HB:=AA ar;obtain⟨_,x1,x2,_⟩:=AF (AC HN.out ar);have cb:w.heap.size<wr.heap.size:=xZ dA ar.size
  by_cases az:j<3
  .have dg:j<k.zZ.length:=by have:=bA.out;omega
   have dW:(j:Int)<k.zZ.length:=by omega
   obtain⟨b,a3,ua,uc,rfl,dZ,D0,D1,RR⟩:=(HE.out.below ar) j dg;clear hO ar RR x1 dZ D0
   by_cases hn:(AJ k.zZ j).root<0
   .have S:=AA (Wc dg hn)
    have t0:¬(0:Int)<=(AJ k.zZ j).root:=by omega
    clear hn;go_wp2_with fail;go_roundw
    case rel=>exact⟨j+1,by omega,by go_num,by rw[S.out];exact HO.out,HB.out⟩
    case measure=>simp[intOf];omega
   .obtain⟨rn,hrn⟩:∃n:Nat,(AJ k.zZ j).root=(n:Int):=⟨(AJ k.zZ j).root.toNat,by omega⟩
    have b5:rn<12:=by have:=Hr.out j az;omega
    have S:=AA (Uj dg hrn b5);have gi:=Pq Hm.out (j:=j) bA.out b5;have bC:wr.ownsRow W0.heap.size 3 1 (.slice (some ⟨gr,0,none⟩) 12 bo) 12 ((EZ k j).map (yf .i64)):=by have:=HO.out;unfold AG at this;rwa [Dm] at this
    have DC:=(bC.cellAt rn (by omega)).trans (FQ (xs:=EZ k j) (by rw[Dm];exact b5));have dv:=AA bC;rw[hrn] at D1;have t0:(0:Int)<=(rn:Int):=by omega
    have eH:(rn:Int)<12:=by omega
    generalize nth (EZ k j) rn=cn at*;obtain⟨nc,hnc⟩:∃nc:Int,cn+1=nc:=⟨_,rfl⟩
    have eX:=AA hnc;have hb:=yC _ _ D1;have bf:=yC _ _ DC;clear hn hrn bC hnc;go_wp2_with fail;refine Aa 17 58 [.s gr 12 bo, .p w.heap.size 2, .v (.slice (some ⟨b,a3,none⟩) k.zZ.length ce), .i ((j:Int)), .p b (a3+j*2), .p b (a3+j*2+1), .i ((rn:Int)), .s gr 12 bo, .p w.heap.size 2, .v (.slice (some ⟨b,a3,none⟩) k.zZ.length ce), .i ((j:Int)), .p b (a3+j*2), .p b (a3+j*2+1), .i ((rn:Int)), .p gr rn, .i cn, .i nc] (fun _ _ _=>True) ?_ ?_
    .intro i hi o ho a wx Hb Hd hG K HK
     have a7:=bc hG cb x2;have a8:=bc hG hb D1;have ba:=bc hG bf DC
     match i,hi with
     |0,_|1,_|3,_|5,_|7,_|8,_|10,_|12,_=>exact sP ho HK Hb Hd
     |2,_|9,_=>exact sL ho HK Hb Hd (hl:=NX ‹_›)
     |4,_|11,_|14,_=>exact sI ho HK Hb Hd (hr:=by clear Hd Hb HK;go_simp)
     |6,_|13,_|15,_=>exact sL ho HK Hb Hd (hl:=Fo ‹_›)
     |16,_=>clear a7 a8 ba;obtain rfl:=yH ho;have cP:(a.tmps[40]?.getD undef)= .int .i64 cn:=BT Hd 15;clear Hd Hb;refine yG ?_;go_simp;exact HK.out _ _ (by show yf .i64 (IntKind.i64.wrap (cn+1))= .int .i64 nc;rw[IntWalk.i64_in _ (by omega),eX.out]) (yF _ _)
     |_+17,hq=>omega
    .intro vs wx hR hG
     have q0:(vs 0)= .slice (some ⟨gr,0,none⟩) 12 bo:=BZ hR 0;have q6:(vs 6)= .int .i64 rn:=BZ hR 6;have cF:(vs 16)= .int .i64 nc:=BZ hR 16;clear hR;simp only[Al,AV,yE,yB,yA,yy,q0,q6,cF];simp;clear q0 q6 cF;have O3:=Co dv.out hG;have Fr:=O3.frozenAt rn;have C2:=(hG.cell (p:=⟨gr,rn,none⟩) bf).trans DC;have S2:=AA (O3.stored rn (.int .i64 nc));have fz:=AA (yr O3 gr rfl).1;have fa:=AA (HB.out.trans (hG.mono HB.out.size));clear D1 DC hG O3 x2;go_wp2_with fail;go_roundw
     case rel=>refine⟨j+1,by omega,by go_num,?_,AM fa.out S2.out.2 fz.out fa.out.size⟩;rw[S.out,eX.out];unfold AG;rw[List.length_set,Dm,List.map_set];exact S2.out.1
     case measure=>simp[intOf];omega
  .obtain rfl:j=3:=by omega
   have dW:¬((3:Nat):Int)<k.zZ.length:=by have:=bA.out;omega
   have fw:¬(3:Int)<k.zZ.length:=by have:=bA.out;omega
   obtain⟨w2,rfl⟩:∃w2:World,w2=wr:=⟨_,rfl⟩
   clear hO ar x1;go_wp2_with fail;clear x2;go_loopw [5] (fun s5 wr=>∃f:Nat,f<=12/\s5= .int .i64 f/\(∀j,j<f->Gl k j=true)/\AG W0.heap.size wr (.slice (some ⟨gr,0,none⟩) 12 bo) (EZ k 3)/\Below W0.heap.size W0 wr) (fun s5 _=>12 - (intOf s5).toNat)
   case atStart=>exact⟨0,yh _,rfl,fun j hj=>absurd hj (xR _),HO.out,HB.out⟩
   case round=>
    clear HO HB;obtain⟨f,hf,rfl,al,hO,ar⟩:=hrel;have ay:=AA al;have HO:=AA hO;have HB:=AA ar;clear al
    by_cases cj:f<12
    .have gg:(f:Int)<12:=by omega
     have gf:(f:Int)<k.Os.length:=by have:=Hl.out;omega
     obtain⟨_,x1,_,_⟩:=AF (AC HN.out ar);have b8:w.heap.size<wr.heap.size:=xZ dA ar.size;obtain⟨bi,bd,rfl,cO,_,_,D2⟩:=(HH.out.below ar).zR (show f<k.Os.length by rw[Hl.out];exact cj);have dl:=yC _ _ D2;have bC:wr.ownsRow W0.heap.size 3 1 (.slice (some ⟨gr,0,none⟩) 12 bo) 12 ((EZ k 3).map (yf .i64)):=by have:=hO;unfold AG at this;rwa [Dm] at this
     have DC:=(bC.cellAt f (by omega)).trans (FQ (xs:=EZ k 3) (by rw[Dm];exact cj));have bf:=yC _ _ DC;have RL:=Pp (k:=k) bA.out cj;clear hO ar bC cO cb;have cb:=b8;go_wp2_with fail;refine Aa 10 58 [.p w.heap.size 1, .v (.slice (some ⟨bi,bd,none⟩) k.Os.length ci), .i ((f:Int)), .p bi (bd+f*3), .p bi (bd+f*3+2), .i ((zU k.Os f).r), .s gr 12 bo, .i ((f:Int)), .p gr f, .i (nth (EZ k 3) f)] (fun _ _ _=>True) ?_ ?_
     .intro i hi o ho a wx Hb Hd hG K HK
      have a7:=bc hG cb x1;have a8:=bc hG dl D2;have ba:=bc hG bf DC
      match i,hi with
      |0,_|2,_|4,_|6,_|7,_=>exact sP ho HK Hb Hd
      |1,_=>exact sL ho HK Hb Hd (hl:=GF ‹_›)
      |3,_|8,_=>exact sI ho HK Hb Hd (hr:=by clear Hd Hb HK;go_simp)
      |5,_|9,_=>exact sL ho HK Hb Hd (hl:=Fo ‹_›)
     .intro vs wx hR hG
      have q5:(vs 5)= .int .i64 ((zU k.Os f).r):=BZ hR 5;have q9:(vs 9)= .int .i64 (nth (EZ k 3) f):=BZ hR 9;clear hR;simp only[Al,AV,yE,yB,yA,yy,q5,q9];simp;clear q5 q9;have bm:=HB.out.trans (hG.mono HB.out.size);have fT:=AA (AG.below HO.out hG);clear hG x1 D2 DC;cases cT:((zU k.Os f).r !=nth (EZ k 3) f)
      .have S:=AA (show Gl k f=true by rw[RL];simpa using cT)
       clear RL;go_wp2_with fail;go_roundw
       case rel=>exact⟨f+1,by omega,by go_num,Aj ay.out S.out,fT.out,bm⟩
       case measure=>simp[intOf];omega
      .have S:=AA (show(yE 12).all (Gl k)=false from List.all_eq_false.2 ⟨f,yj.2 cj,by rw[RL];simpa using cT⟩)
       clear RL;go_wp2_with fail;go_ret;exact⟨AI S.out.symm,bt.out.trans (bm.mono bt.out.size)⟩
    .have ek:f=12:=by omega
     have al:=ay.out;rw[ek] at al;have S:=AA (show(yE 12).all (Gl k)=true from yk.2 fun j hj=>al j (yj.1 hj));clear ay al;go_wp2_with fail;go_ret;exact⟨AI S.out.symm,bt.out.trans (ar.mono bt.out.size)⟩
theorem KG {l:List EN} {j:Nat} (h:j<l.length):l[j]? =some (AJ l j):=by unfold AJ;exact A1 h
theorem Ny (m i e c:Value) (k:AN) (w:World) (h:Bc w m k.mem) (hm:Bs k.mem=true) (hI:BU w i k.Os) (bl:BK k.Os=true) (hE:Fk w e k.zZ) (c7:∀j,j<k.zZ.length->DP (AJ k.zZ j).zV):
 Calls prog 92 #[.agg #[m,i,e,c]] w fun r w'=>r= .returned (.bool (Ig k))/\Below w.heap.size w w':=by
 have N0:=yw w (.cells #[m,i,e,c] 28);have av:=AD w (.cells #[m,i,e,c] 28);replace h:=h.below av;replace hI:=BJ.below hI av;obtain⟨ae,ce,rfl,eN,cL,bB⟩:=(hE.below av).open;unfold maxLen at cL;have cA:=(A0.1 bl).1;have eF:=Cb bl;have HI:=AA hI;have HR:=AA h;obtain⟨ai,ci,rfl,_,_,dw⟩:=BJ.open Az (by decide) hI;obtain⟨am,cm,rfl,_⟩:=h.open;have ES:Ig k=(k.zZ.all (Dp k)&&decide (k.zZ.length=3)):=rfl;rw[ES];have Hl:=AA cA;clear cA;go_in;go_wp2_with fail;generalize w.alloc _=W0 at*;have HN:=AA N0;have HH:=AA dw;have HE:=AA bB;have Hm:=AA hm;have Hs:=AA c7;have eV:=AA eF;have dA:=AY N0;have bt:=AA av;clear h hI hm bl N0 dw bB hE c7 eF av ES;go_loopw [3] (fun s3 wr=>∃j:Nat,j<=k.zZ.length/\s3= .int .i64 j/\(∀j',j'<j->Dp k (AJ k.zZ j')=true)/\Below W0.heap.size W0 wr) (fun s3 _=>k.zZ.length - (intOf s3).toNat)
 case atStart=>exact⟨0,yh _,rfl,fun j hj=>absurd hj (xR _),yF _ _⟩
 case round=>
  obtain⟨j,hj,rfl,al,ar⟩:=hrel;have ay:=AA al;clear al;obtain⟨_,_,x2,_⟩:=AF (AC HN.out ar)
  by_cases az:j<k.zZ.length
  .have dW:(j:Int)<k.zZ.length:=by omega
   obtain⟨b,a3,ua,uc,rfl,cy,D0,D1,RR⟩:=(HE.out.below ar) j az;have N:=yw wr (.cells #[.slice ua (AJ k.zZ j).zV.length uc, .int .i64 (AJ k.zZ j).root] 62);have cx:=AD wr (.cells #[.slice ua (AJ k.zZ j).zV.length uc, .int .i64 (AJ k.zZ j).root] 62);go_wp2_with fail;generalize wr.alloc _=wa at*;have cd:=ar.trans (cx.mono ar.size);have y0:wa.cell? ⟨wr.heap.size,0,none⟩=some (.slice ua (AJ k.zZ j).zV.length uc):=yi _ _ 0 _ _ _ N;have y1:wa.cell? ⟨wr.heap.size,1,none⟩=some (.int .i64 (AJ k.zZ j).root):=yi _ _ 1 _ _ _ N;have cl:=AY N;have cb:=xZ dA cd.size;obtain⟨x0,x1,_,_⟩:=AF (AC HN.out cd);have bj:=AA cd;have ei:=AA (BJ.below RR cx);clear D0 D1 N cx ar cd RR x2 cy;have cZ:=fun W (hW:Below wa.heap.size wa W)=>Lt (GC _ (AJ k.zZ j).zV W (BJ.below ei.out hW) (Hs.out j az))
   have bw:Dp k (AJ k.zZ j)=(BO (AJ k.zZ j).zV&&(decide ((AJ k.zZ j).root= -1)||(Bd (AJ k.zZ j).root 0 11&&decide ((zU k.Os (AJ k.zZ j).root.toNat).k=3)))&&BC k.Os (BY k.mem (AJ k.zZ j).root) (AJ k.zZ j).zV):=rfl;cases e5:BO (AJ k.zZ j).zV
   .rw[e5] at cZ bw
    have CR:=AA cZ;have b9:Dp k (AJ k.zZ j)=false:=by rw[bw];rfl
    clear cZ e5 bw;have S:=AA (show k.zZ.all (Dp k)=false from If (KG az) (b9));go_wp2_with fail;refine Aa 36 59 [.p wr.heap.size 0, .v (.slice ua (AJ k.zZ j).zV.length uc), .b false, .b true, .b true, .u, .u, .u, .u, .b true, .b true, .u, .u, .u, .u, .u, .u, .u, .u, .u, .u, .u, .u, .u, .b true, .b true, .u, .u, .u, .u, .u, .u, .u, .u, .u, .u] (fun _ _ _=>True) ?_ ?_
    .intro i hi o ho a wx Hb Hd hG K HK
     have a7:=bc hG cl y0
     match i,hi with
     |0,_|3,_|4,_|9,_|10,_|24,_|25,_=>exact sP ho HK Hb Hd
     |1,_=>exact sL ho HK Hb Hd (hl:=K9 ‹_›)
     |2,_=>exact sD ho HK Hb Hd (CR.out _ hG)
     |5,_|6,_|7,_|8,_|11,_|12,_|13,_|14,_|15,_|16,_|17,_|18,_|19,_|20,_|21,_|22,_|23,_|26,_|27,_|28,_|29,_|30,_|31,_|32,_|33,_|34,_|35,_=>exact sB ho HK Hd
     |_+36,hq=>omega
    .intro vs wx hR hG
     have bx:(vs 25)= .bool true:=BZ hR 25;clear hR;simp only[Al,AV,yE,yB,yA,yy,bx];simp;clear bx;have bm:=bj.out.trans (hG.mono bj.out.size);clear hG x0 x1 y0 y1;go_wp2_with fail;go_ret;exact⟨AI (by rw[S.out];rfl),bt.out.trans (bm.mono bt.out.size)⟩
   .rw[e5] at cZ bw
    have CR:=AA cZ;clear cZ e5;have cf:=fun W (hW:Below wa.heap.size wa W)=>BM (Cv (AJ k.zZ j).root (-1) 11 W)
    cases e6:Bd (AJ k.zZ j).root (-1) 11
    .rw[e6] at cf
     have CF:=AA cf;have b9:Dp k (AJ k.zZ j)=false:=by
      rw[bw];have:¬(-1<=(AJ k.zZ j).root/\(AJ k.zZ j).root<=11):=fun h=>by rw[Ac.2 h] at e6;cases e6
      have h1:decide ((AJ k.zZ j).root= -1)=false:=decide_eq_false (by omega);have h2:Bd (AJ k.zZ j).root 0 11=false:=by cases hx:Bd (AJ k.zZ j).root 0 11;rfl;exact absurd (Ac.1 hx) (by omega)
      rw[h1,h2];rfl
     clear cf e6 bw;have S:=AA (show k.zZ.all (Dp k)=false from If (KG az) (b9));go_wp2_with fail;refine Aa 36 59 [.p wr.heap.size 0, .v (.slice ua (AJ k.zZ j).zV.length uc), .b true, .b false, .b false, .p wr.heap.size 1, .i ((AJ k.zZ j).root), .b false, .b true, .b true, .b true, .u, .u, .u, .u, .u, .u, .u, .u, .u, .u, .u, .u, .u, .b true, .b true, .u, .u, .u, .u, .u, .u, .u, .u, .u, .u] (fun _ _ _=>True) ?_ ?_
     .intro i hi o ho a wx Hb Hd hG K HK
      have a7:=bc hG cl y0;have a8:=bc hG cl y1
      match i,hi with
      |0,_|3,_|4,_|5,_|8,_|9,_|10,_|24,_|25,_=>exact sP ho HK Hb Hd
      |1,_=>exact sL ho HK Hb Hd (hl:=K9 ‹_›)
      |2,_=>exact sD ho HK Hb Hd (CR.out _ hG)
      |6,_=>exact sL ho HK Hb Hd (hl:=Fo ‹_›)
      |7,_=>exact sD ho HK Hb Hd (CF.out _ hG)
      |11,_|12,_|13,_|14,_|15,_|16,_|17,_|18,_|19,_|20,_|21,_|22,_|23,_|26,_|27,_|28,_|29,_|30,_|31,_|32,_|33,_|34,_|35,_=>exact sB ho HK Hd
      |_+36,hq=>omega
     .intro vs wx hR hG
      have bx:(vs 25)= .bool true:=BZ hR 25;clear hR;simp only[Al,AV,yE,yB,yA,yy,bx];simp;clear bx;have bm:=bj.out.trans (hG.mono bj.out.size);clear hG x0 x1 y0 y1;go_wp2_with fail;go_ret;exact⟨AI (by rw[S.out];rfl),bt.out.trans (bm.mono bt.out.size)⟩
    .have eQ:=Ac.1 e6
     rw[e6] at cf;clear e6
     by_cases e7:(AJ k.zZ j).root= -1
     .rw[e7] at cf y1 bw
      have CF:=AA cf;have RI:=HI.out;have CX:=AA (fun W (hW:Below wa.heap.size wa W)=>It _ k.mem (-1) W ((HR.out.below bj.out).below hW) Hm.out (by decide));have cz:=fun W (hW:Below wa.heap.size wa W) v2 (h2:Ax W v2 (Ay (EY k.mem (-1))))=>Fz _ v2 _ k.Os (EY k.mem (-1)) (AJ k.zZ j).zV W (BJ.below (BJ.below HI.out bj.out) hW) h2 (BJ.below ei.out hW) (fun f hf=>by have:=zy (root:= -1) (by decide) f ((F5 (by decide) f).1 hf);rw[Hl.out];exact this) eV.out (Hs.out j az)
      rw[Fq (F5 (by decide))] at cz;have cS:Dp k (AJ k.zZ j)=BC k.Os (BY k.mem (-1)) (AJ k.zZ j).zV:=by rw[bw];simp
      generalize BC k.Os (BY k.mem (-1)) (AJ k.zZ j).zV=bb at cz cS;have CA:=AA cz;have EO:=AA cS;clear cf cz bw cS eQ e7 RI;go_wp2_with fail;refine BS 36 59 [.p wr.heap.size 0, .v (.slice ua (AJ k.zZ j).zV.length uc), .b true, .b false, .b false, .p wr.heap.size 1, .i (-1), .b true, .b false, .b false, .b false, .p wr.heap.size 1, .i (-1), .b false, .b false, .u, .u, .u, .u, .u, .u, .u, .u, .b false, .b false, .b false, .p w.heap.size 1, .v (.slice ai k.Os.length ci), .p w.heap.size 0, .v (.slice am k.mem.length cm), .p wr.heap.size 1, .i (-1), .z, .p wr.heap.size 0, .v (.slice ua (AJ k.zZ j).zV.length uc), .b bb] (fun ix vv ww=>match ix with
       |32=>AG wa.heap.size ww vv (Ay (EY k.mem (-1)))
       |_=>True) ?_ ?_ ?_
      .intro i hi o ho a wx Hb Hd hG K HK
       have a7:=bc hG cl y0;have a8:=bc hG cl y1;have ba:=bc hG cb x1;have bp:=bc hG cb x0
       match i,hi with
       |0,_|3,_|4,_|5,_|8,_|9,_|10,_|11,_|14,_|23,_|24,_|25,_|26,_|28,_|30,_|33,_=>exact sP ho HK Hb Hd
       |1,_|34,_=>exact sL ho HK Hb Hd (hl:=K9 ‹_›)
       |2,_=>exact sD ho HK Hb Hd (CR.out _ hG)
       |6,_|12,_|31,_=>exact sL ho HK Hb Hd (hl:=Fo ‹_›)
       |7,_=>exact sD ho HK Hb Hd (CF.out _ hG)
       |15,_|16,_|17,_|18,_|19,_|20,_|21,_|22,_=>exact sB ho HK Hd
       |27,_=>exact sL ho HK Hb Hd (hl:=GF ‹_›)
       |29,_=>exact sL ho HK Hb Hd (hl:=GM ‹_›)
       |32,_=>exact sC ho HK Hb Hd (CX.out _ hG) (by rintro e w_ ⟨v',rfl,hO,a5⟩;exact⟨_,rfl,(BR hO hG.size),a5⟩)
       |13,_=>clear a7 a8 ba bp;obtain rfl:=yH ho;have eS:(a.tmps[29]?.getD undef)= .int .i64 (-1):=BT Hd 12;have cQ:(a.tmps[27]?.getD undef)= .bool false:=BT Hd 10;clear Hd Hb;refine AX.yes rfl rfl cQ ?_;go_simp;exact HK.out _ _ rfl (yF _ _)
       |35,_=>clear a7 a8 ba bp;obtain rfl:=yH ho;have fN:(a.tmps[44]?.getD undef)= .slice ai k.Os.length ci:=BT Hd 27;have dn:AG wa.heap.size wx (a.tmps[49]?.getD undef) (Ay (EY k.mem (-1))):=BT Hd 32;have fM:(a.tmps[51]?.getD undef)= .slice ua (AJ k.zZ j).zV.length uc:=BT Hd 34;have ed:(a.tmps[42]?.getD undef)= .bool false:=BT Hd 25;clear Hd Hb;generalize e49:a.tmps[49]?.getD undef=v2 at dn;have eq:=CA.out wx hG v2 (AG.rd dn);refine AX.yes rfl rfl ed ?_;go_simp;refine eq.mono ?_;rintro e w_ ⟨rfl,a5⟩;exact HK.out _ _ rfl a5
       |_+36,hq=>omega
      .intro i hi vv wz cE bq hz
       match i,hi with
       |32,_=>exact(AG.below hz bq)
       |0,_|1,_|2,_|3,_|4,_|5,_|6,_|7,_|8,_|9,_|10,_|11,_|12,_|13,_|14,_|15,_|16,_|17,_|18,_|19,_|20,_|21,_|22,_|23,_|24,_|25,_|26,_|27,_|28,_|29,_|30,_|31,_|33,_|34,_|35,_=>exact hz
       |_+36,hq=>omega
      .intro vs wx hR hG
       have bx:(vs 25)= .bool false:=BZ hR 25;have c4:(vs 35)= .bool bb:=BZ hR 35;clear hR;simp only[Al,AV,yE,yB,yA,yy,bx,c4];simp;clear bx c4;have bm:=bj.out.trans (hG.mono bj.out.size);clear hG x0 x1 y0 y1;cases bb
       .have S:=AA (show k.zZ.all (Dp k)=false from If (KG az) (EO.out))
        go_wp2_with fail;go_ret;exact⟨AI (by rw[S.out];rfl),bt.out.trans (bm.mono bt.out.size)⟩
       .go_wp2_with fail
        go_roundw
        case rel=>exact⟨j+1,by omega,by go_num,Aj ay.out EO.out,bm⟩
        case measure=>simp[intOf];omega
     .obtain⟨r,hr⟩:∃n:Nat,(AJ k.zZ j).root=(n:Int):=⟨(AJ k.zZ j).root.toNat,by omega⟩
      have b5:r<12:=by omega
      have dz:(r:Int)<12:=by omega
      have fm:(r:Int)<k.Os.length:=by have:=Hl.out;omega
      have f7:(0:Int)<=(r:Int):=by omega
      rw[hr] at cf y1 bw;have CF:=AA cf;obtain⟨bi,bd,rfl,cO,d4,_,_⟩:=(HH.out.below bj.out).zR (show r<k.Os.length by rw[Hl.out];exact b5);have dl:=yC _ _ d4;have co:Bd (r:Int) 0 11=true:=Ac.2 (by omega);have dc:decide ((r:Int)= -1)=false:=decide_eq_false (by omega);rw[co,dc,xY] at bw;clear cf eQ e7 cO co dc
      by_cases e8:(zU k.Os r).k=3
      .have t8:((zU k.Os r).k !=3)=false:=by simp[e8]
       have CX:=AA (fun W (hW:Below wa.heap.size wa W)=>It _ k.mem (r:Int) W ((HR.out.below bj.out).below hW) Hm.out dz);have cz:=fun W (hW:Below wa.heap.size wa W) v2 (h2:Ax W v2 (Ay (EY k.mem (r:Int))))=>Fz _ v2 _ k.Os (EY k.mem (r:Int)) (AJ k.zZ j).zV W (BJ.below (BJ.below HI.out bj.out) hW) h2 (BJ.below ei.out hW) (fun f hf=>by have:=zy (root:=(r:Int)) dz f ((F5 dz f).1 hf);rw[Hl.out];exact this) eV.out (Hs.out j az)
       rw[Fq (F5 dz)] at cz;have cS:Dp k (AJ k.zZ j)=BC k.Os (BY k.mem (r:Int)) (AJ k.zZ j).zV:=by rw[bw,e8];simp
       generalize BC k.Os (BY k.mem (r:Int)) (AJ k.zZ j).zV=bb at cz cS;have CA:=AA cz;have EO:=AA cS;clear cz bw cS e8 hr;go_wp2_with fail;refine BS 36 59 [.p wr.heap.size 0, .v (.slice ua (AJ k.zZ j).zV.length uc), .b true, .b false, .b false, .p wr.heap.size 1, .i ((r:Int)), .b true, .b false, .b false, .b false, .p wr.heap.size 1, .i ((r:Int)), .b true, .b true, .p w.heap.size 1, .v (.slice (some ⟨bi,bd,none⟩) k.Os.length ci), .p wr.heap.size 1, .i ((r:Int)), .p bi (bd+r*3), .p bi (bd+r*3), .i ((zU k.Os r).k), .b false, .b false, .b false, .b false, .p w.heap.size 1, .v (.slice (some ⟨bi,bd,none⟩) k.Os.length ci), .p w.heap.size 0, .v (.slice am k.mem.length cm), .p wr.heap.size 1, .i ((r:Int)), .z, .p wr.heap.size 0, .v (.slice ua (AJ k.zZ j).zV.length uc), .b bb] (fun ix vv ww=>match ix with
        |32=>AG wa.heap.size ww vv (Ay (EY k.mem ((r:Int))))
        |_=>True) ?_ ?_ ?_
       .intro i hi o ho a wx Hb Hd hG K HK
        have a7:=bc hG cl y0;have a8:=bc hG cl y1;have ba:=bc hG cb x1;have bp:=bc hG dl d4;have cH:=bc hG cb x0
        match i,hi with
        |0,_|3,_|4,_|5,_|8,_|9,_|10,_|11,_|14,_|15,_|17,_|20,_|23,_|24,_|25,_|26,_|28,_|30,_|33,_=>exact sP ho HK Hb Hd
        |1,_|34,_=>exact sL ho HK Hb Hd (hl:=K9 ‹_›)
        |2,_=>exact sD ho HK Hb Hd (CR.out _ hG)
        |6,_|12,_|18,_|21,_|31,_=>exact sL ho HK Hb Hd (hl:=Fo ‹_›)
        |7,_=>exact sD ho HK Hb Hd (CF.out _ hG)
        |16,_|27,_=>exact sL ho HK Hb Hd (hl:=GF ‹_›)
        |19,_=>exact sI ho HK Hb Hd (hr:=by clear Hd Hb HK;go_simp)
        |29,_=>exact sL ho HK Hb Hd (hl:=GM ‹_›)
        |32,_=>exact sC ho HK Hb Hd (CX.out _ hG) (by rintro e w_ ⟨v',rfl,hO,a5⟩;exact⟨_,rfl,(BR hO hG.size),a5⟩)
        |13,_=>clear a7 a8 ba bp cH;obtain rfl:=yH ho;have eS:(a.tmps[29]?.getD undef)= .int .i64 r:=BT Hd 12;have cQ:(a.tmps[27]?.getD undef)= .bool false:=BT Hd 10;clear Hd Hb;refine AX.yes rfl rfl cQ ?_;go_simp;exact HK.out _ _ rfl (yF _ _)
        |22,_=>clear a7 a8 ba bp cH;obtain rfl:=yH ho;have fO:(a.tmps[38]?.getD undef)= .int .i64 ((zU k.Os r).k):=BT Hd 21;have ee:(a.tmps[31]?.getD undef)= .bool true:=BT Hd 14;clear Hd Hb;refine AX.yes rfl rfl ee ?_;go_simp;exact HK.out _ _ rfl (yF _ _)
        |35,_=>clear a7 a8 ba bp cH;obtain rfl:=yH ho;have fN:(a.tmps[44]?.getD undef)= .slice (some ⟨bi,bd,none⟩) k.Os.length ci:=BT Hd 27;have dn:AG wa.heap.size wx (a.tmps[49]?.getD undef) (Ay (EY k.mem ((r:Int)))):=BT Hd 32;have fM:(a.tmps[51]?.getD undef)= .slice ua (AJ k.zZ j).zV.length uc:=BT Hd 34;have ed:(a.tmps[42]?.getD undef)= .bool false:=BT Hd 25;clear Hd Hb;generalize e49:a.tmps[49]?.getD undef=v2 at dn;have eq:=CA.out wx hG v2 (AG.rd dn);refine AX.yes rfl rfl ed ?_;go_simp;refine eq.mono ?_;rintro e w_ ⟨rfl,a5⟩;exact HK.out _ _ rfl a5
        |_+36,hq=>omega
       .intro i hi vv wz cE bq hz
        match i,hi with
        |32,_=>exact(AG.below hz bq)
        |0,_|1,_|2,_|3,_|4,_|5,_|6,_|7,_|8,_|9,_|10,_|11,_|12,_|13,_|14,_|15,_|16,_|17,_|18,_|19,_|20,_|21,_|22,_|23,_|24,_|25,_|26,_|27,_|28,_|29,_|30,_|31,_|33,_|34,_|35,_=>exact hz
        |_+36,hq=>omega
       .intro vs wx hR hG
        have bx:(vs 25)= .bool false:=BZ hR 25;have c4:(vs 35)= .bool bb:=BZ hR 35;clear hR;simp only[Al,AV,yE,yB,yA,yy,bx,c4];simp;clear bx c4;have bm:=bj.out.trans (hG.mono bj.out.size);clear hG x0 x1 y0 y1;cases bb
        .have S:=AA (show k.zZ.all (Dp k)=false from If (KG az) (EO.out))
         go_wp2_with fail;go_ret;exact⟨AI (by rw[S.out];rfl),bt.out.trans (bm.mono bt.out.size)⟩
        .go_wp2_with fail
         go_roundw
         case rel=>exact⟨j+1,by omega,by go_num,Aj ay.out EO.out,bm⟩
         case measure=>simp[intOf];omega
      .have t8:((zU k.Os r).k !=3)=true:=by simp[e8]
       have b9:Dp k (AJ k.zZ j)=false:=by rw[bw];simp[e8]
       clear bw e8 hr;have S:=AA (show k.zZ.all (Dp k)=false from If (KG az) (b9));go_wp2_with fail;refine Aa 36 59 [.p wr.heap.size 0, .v (.slice ua (AJ k.zZ j).zV.length uc), .b true, .b false, .b false, .p wr.heap.size 1, .i ((r:Int)), .b true, .b false, .b false, .b false, .p wr.heap.size 1, .i ((r:Int)), .b true, .b true, .p w.heap.size 1, .v (.slice (some ⟨bi,bd,none⟩) k.Os.length ci), .p wr.heap.size 1, .i ((r:Int)), .p bi (bd+r*3), .p bi (bd+r*3), .i ((zU k.Os r).k), .b true, .b true, .b true, .b true, .u, .u, .u, .u, .u, .u, .u, .u, .u, .u] (fun _ _ _=>True) ?_ ?_
       .intro i hi o ho a wx Hb Hd hG K HK
        have a7:=bc hG cl y0;have a8:=bc hG cl y1;have ba:=bc hG cb x1;have bp:=bc hG dl d4
        match i,hi with
        |0,_|3,_|4,_|5,_|8,_|9,_|10,_|11,_|14,_|15,_|17,_|20,_|23,_|24,_|25,_=>exact sP ho HK Hb Hd
        |1,_=>exact sL ho HK Hb Hd (hl:=K9 ‹_›)
        |2,_=>exact sD ho HK Hb Hd (CR.out _ hG)
        |6,_|12,_|18,_|21,_=>exact sL ho HK Hb Hd (hl:=Fo ‹_›)
        |7,_=>exact sD ho HK Hb Hd (CF.out _ hG)
        |16,_=>exact sL ho HK Hb Hd (hl:=GF ‹_›)
        |19,_=>exact sI ho HK Hb Hd (hr:=by clear Hd Hb HK;go_simp)
        |26,_|27,_|28,_|29,_|30,_|31,_|32,_|33,_|34,_|35,_=>exact sB ho HK Hd
        |13,_=>clear a7 a8 ba bp;obtain rfl:=yH ho;have eS:(a.tmps[29]?.getD undef)= .int .i64 r:=BT Hd 12;have cQ:(a.tmps[27]?.getD undef)= .bool false:=BT Hd 10;clear Hd Hb;refine AX.yes rfl rfl cQ ?_;go_simp;exact HK.out _ _ rfl (yF _ _)
        |22,_=>clear a7 a8 ba bp;obtain rfl:=yH ho;have fO:(a.tmps[38]?.getD undef)= .int .i64 ((zU k.Os r).k):=BT Hd 21;have ee:(a.tmps[31]?.getD undef)= .bool true:=BT Hd 14;clear Hd Hb;refine AX.yes rfl rfl ee ?_;go_simp;exact HK.out _ _ rfl (yF _ _)
        |_+36,hq=>omega
       .intro vs wx hR hG
        have bx:(vs 25)= .bool true:=BZ hR 25;clear hR;simp only[Al,AV,yE,yB,yA,yy,bx];simp;clear bx;have bm:=bj.out.trans (hG.mono bj.out.size);clear hG x0 x1 y0 y1;go_wp2_with fail;go_ret;exact⟨AI (by rw[S.out];rfl),bt.out.trans (bm.mono bt.out.size)⟩
  .have ek:j=k.zZ.length:=by omega
   have al:=ay.out;rw[ek] at al;have S:=AA (show k.zZ.all (Dp k)=true from Jc (f:=AJ k.zZ) (fun k hk=>KG hk) al);have dW:¬(j:Int)<k.zZ.length:=by omega
   clear ay al;go_wp2_with fail;go_ret;exact⟨AI (by rw[S.out,vS];by_cases h3:k.zZ.length=3<;>simp[h3]<;>omega),bt.out.trans (ar.mono bt.out.size)⟩
theorem So (m i e c:Value) (k:AN) (w:World) (h:Bc w m k.mem) (hm:Bs k.mem=true) (hE:Fk w e k.zZ) (bu:k.zZ.length=3) (hC:Dt w c k.zY) (cX:BQ k.zY=true) (hr:∀j,j<3->(AJ k.zZ j).root<12):
 Calls prog 95 #[.agg #[m,i,e,c]] w fun r w'=>r= .returned (.bool (k.zY.all (Cm k)))/\Below w.heap.size w w':=by
 have N0:=yw w (.cells #[m,i,e,c] 28);have av:=AD w (.cells #[m,i,e,c] 28);replace h:=h.below av;replace hC:=BJ.below hC av;obtain⟨ae,ce,rfl,eN,cL,bB⟩:=(hE.below av).open;obtain⟨ac,cc,rfl,gj,fD,eZ⟩:=BJ.open Cg (by decide) hC;have H1:=AA h;obtain⟨am,cm,rfl,_⟩:=h.open;have T1:=AA hm;have T3:=AA cX;have T4:=AA bu;have Hr:=AA hr;have KT:=AA (fun j (hj:j<k.zY.length) (hx:Cm k (AT k.zY j)=false)=>show k.zY.all (Cm k)=false from If (Ej hj) hx);clear hm cX bu hr hE hC h;go_in;go_wp2_with fail;generalize w.alloc _=W0 at*;have HN:=AA N0;have HE:=AA bB;have H4:=AA eZ;have gq:=AA (AY N0);have a0:=AA av;clear N0 bB eZ av;go_loopw [3] (fun i wr=>∃j:Nat,j<=k.zY.length/\i= .int .i64 j/\(∀j',j'<j->Cm k (AT k.zY j')=true)/\Below W0.heap.size W0 wr) (fun i _=>k.zY.length - (intOf i).toNat)
 case atStart=>exact⟨0,yh _,rfl,fun j hj=>absurd hj (xR _),yF _ _⟩
 case round=>
  obtain⟨j,hj,rfl,al,ar⟩:=hrel;have ay:=AA al;clear al;obtain⟨x0,_,x2,x3⟩:=AF (AC HN.out ar)
  by_cases az:j<k.zY.length
  .obtain⟨bi,bd,rfl,dl,D0,D1,D2,D3⟩:=(H4.out.below ar).zN az
   have cX:CU (AT k.zY j)=true:=by have h1:=T3.out;unfold BQ at h1;simp only[yt,yk] at h1;have h2:=h1.1 j (yj.2 az);unfold Ct at h2;simp only[yt] at h2;exact h2.1
   unfold CU at cX;simp only[yt,Ac] at cX;obtain⟨⟨⟨e0,e2⟩,p0,p2⟩,f0,f2⟩:=cX;obtain⟨en,cK⟩:∃n:Nat,(AT k.zY j).e=(n:Int):=⟨(AT k.zY j).e.toNat,by omega⟩
   obtain⟨pn,hpn⟩:∃n:Nat,(AT k.zY j).p=(n:Int):=⟨(AT k.zY j).p.toNat,by omega⟩
   obtain⟨fn,hfn⟩:∃n:Nat,(AT k.zY j).f=(n:Int):=⟨(AT k.zY j).f.toNat,by omega⟩
   have TO:=AA (show Cm k (AT k.zY j)=(decide (0<=(AJ k.zZ en).root)&&decide (Bu k.mem (AJ k.zZ en).root.toNat (4*pn)=(0,fn,(AT k.zY j).w))) by unfold Cm;rw[cK,hpn,hfn];rfl);have dX:en<3:=by omega
   have eJ:pn<16:=by omega
   rw[cK] at D0;rw[hpn] at D1;rw[hfn] at D2;generalize fC:(AT k.zY j).w=cw at*;have N:=yw wr (.cells #[.int .i64 en, .int .i64 pn, .int .i64 fn, .bool cw] 98);have cx:=AD wr (.cells #[.int .i64 en, .int .i64 pn, .int .i64 fn, .bool cw] 98);have fs:(j:Int)<k.zY.length:=by omega
   have di:k.zY.length<=4:=by have h1:=T3.out;unfold BQ at h1;simp only[yt,decide_eq_true_eq] at h1;exact h1.2
   have ga:(j:Int)<4:=by omega
   have cd:=ar.trans (cx.mono ar.size);obtain⟨b,a3,ua,uc,rfl,cy,E0,E1,RR⟩:=HE.out en (by have:=T4.out;omega);replace E1:=(cd.cell (p:=⟨b,a3+en*2+1,none⟩) cy).trans E1;have ex:=(AF (AC HN.out cd)).1;have ew:=(AF (AC HN.out cd)).2.2.1;obtain⟨y0,y1,y2,y3⟩:=AF N;have fL:(en:Int)<k.zZ.length:=by have:=T4.out;omega
   have bj:=AA cd;have c8:=Hr.out en dX;clear E0 RR cx ar cd N e0 e2 p0 p2 f0 f2 cK hpn hfn
   by_cases b4:(AJ k.zZ en).root<0
   .have S:=AA (KT.out j az (by rw[TO.out];simp;omega))
    have bm:=bj.out;go_wp2_with fail;go_ret;exact⟨AI S.out.symm,a0.out.trans (bm.mono a0.out.size)⟩
   .obtain⟨rn,hrn⟩:∃n:Nat,(AJ k.zZ en).root=(n:Int):=⟨(AJ k.zZ en).root.toNat,by omega⟩
    have da:rn<12:=by omega
    have bX:=fun W (hW:Below W0.heap.size W0 W)=>PR _ k.mem rn (4*pn) W (H1.out.below hW) T1.out da (by omega)
    have dQ:wr.heap.size<(wr.alloc (.cells #[.int .i64 en, .int .i64 pn, .int .i64 fn, .bool cw] 98)).heap.size:=by simp
    rw[hrn] at E1 TO b4;unfold Ib at bX;rw[show((4*pn:Nat):Int)=4*(pn:Int) by omega] at bX;simp only[xY] at TO;obtain⟨code,fr,wb,hwp⟩:∃code fr wb,Bu k.mem rn (4*pn)=(code,fr,wb):=⟨_,_,_,rfl⟩
    simp only[hwp] at bX TO;clear hwp hrn c8;have dH:=AA (show Cm k (AT k.zY j)=(decide (code=0)&&(decide (fr=fn)&&decide (wb=cw))) by
     rw[TO.out];have:(0:Int)<=(rn:Int):=by omega
     simp[this])
    by_cases cM:code=0
    .subst cM
     rw[if_pos rfl] at bX;unfold MI at bX;rw[show((4*pn%4:Nat):Int)=0 by omega] at bX;have CW:=AA bX;clear bX;go_wp2_with fail;refine(CW.out _ bj.out).mono ?_;rintro e w2 ⟨rfl,a5⟩;have bv:=bj.out.trans (a5.mono bj.out.size);replace y2:=(a5.cell (p:=⟨wr.heap.size,2,none⟩) dQ).trans y2;replace y3:=(a5.cell (p:=⟨wr.heap.size,3,none⟩) dQ).trans y3;clear x0 x2 x3 ex ew E1 y0 y1 a5;have bm:=bv.trans ((AD w2 (.cells #[.int .i64 fr, .int .i64 0, .bool wb] 100)).mono bv.size);replace y2:=((AD w2 (.cells #[.int .i64 fr, .int .i64 0, .bool wb] 100)).cell (yC w2 _ y2)).trans y2;replace y3:=((AD w2 (.cells #[.int .i64 fr, .int .i64 0, .bool wb] 100)).cell (yC w2 _ y3)).trans y3;have HG:=AA bm;clear bv bm b4
     by_cases cW:fr=fn
     .have t1:((fr:Int) !=(fn:Int))=false:=by simp[cW]
      by_cases c6:wb=cw
      .have S:=AA (show Cm k (AT k.zY j)=true by rw[dH.out];simp[cW,c6])
       subst c6;clear cW;cases wb
       all_goals
        go_wp2_with fail;go_roundw
        case rel=>exact⟨j+1,by omega,by go_num,Aj ay.out S.out,HG.out⟩
        case measure=>simp[intOf];omega
      .have S:=AA (KT.out j az (by rw[dH.out];simp[c6]))
       have hq:=AA c6;clear cW c6;cases wb<;>cases cw
       .exact absurd rfl hq.out
       .go_wp2_with fail
        go_ret;exact⟨AI S.out.symm,a0.out.trans (HG.out.mono a0.out.size)⟩
       .go_wp2_with fail
        go_ret;exact⟨AI S.out.symm,a0.out.trans (HG.out.mono a0.out.size)⟩
       .exact absurd rfl hq.out
     .have t1:((fr:Int) !=(fn:Int))=true:=by simp;omega
      have S:=AA (KT.out j az (by rw[dH.out];simp[cW]));clear cW y3;go_wp2_with fail;go_ret;exact⟨AI S.out.symm,a0.out.trans (HG.out.mono a0.out.size)⟩
    .rw[if_neg cM] at bX
     unfold En at bX;have CW:=AA bX;have t1:(code !=0)=true:=by simp[cM]
     have S:=AA (KT.out j az (by rw[dH.out];simp[cM]));clear bX cM;go_wp2_with fail;refine(CW.out _ bj.out).mono ?_;rintro e w2 ⟨rfl,a5⟩;have bv:=bj.out.trans (a5.mono bj.out.size);have HG:=AA (bv.trans ((AD w2 (.cells #[.int .i64 0, .int .i64 0, .bool false] 100)).mono bv.size));clear x0 x2 x3 ex ew E1 y0 y1 y2 y3 a5 bv b4;go_wp2_with fail;go_ret;exact⟨AI S.out.symm,a0.out.trans (HG.out.mono a0.out.size)⟩
  .have ek:j=k.zY.length:=by omega
   have al:=ay.out;rw[ek] at al;have S:=AA (show k.zY.all (Cm k)=true from Jc (f:=AT k.zY) (fun k hk=>Ej hk) al);have fs:¬(j:Int)<k.zY.length:=by omega
   clear ay al;go_wp2_with fail;go_ret;exact⟨AI S.out.symm,a0.out.trans (ar.mono a0.out.size)⟩
theorem J3 (m i e c:Value) (k:AN) (w:World) (h:MM w m i e c k) (hs:EQ k):
 Calls prog 40 #[.agg #[m,i,e,c]] w fun r w'=>r= .returned (.bool (Cj k))/\Below w.heap.size w w':=by
 have N0:=yw w (.cells #[m,i,e,c] 28);have av:=AD w (.cells #[m,i,e,c] 28);replace h:=h.below av;have HK:=AA h;have Hs:=AA hs;obtain⟨x0,x1,x2,x3⟩:=AF N0;have KO:=AA (show Cj k=(Bs k.mem&&BK k.Os&&BQ k.zY&&Ig k&&(yE 12).all (DY k)&&(yE 12).all (Gl k)&&k.zY.all (Cm k)) from rfl);clear h hs;go_in;go_wp2_with fail;generalize w.alloc _=W0 at*;have HN:=AA N0;have a0:=AA av;have hb:Below W0.heap.size W0 W0:=yF _ _;clear N0 av;cases e1:Bs k.mem
 .have S:=AA (show Cj k=false by rw[KO.out];simp[e1])
  have C:=IB m k.mem _ (HK.out.1.below hb);rw[e1] at C;clear e1;go_wp2_with fail;refine C.mono ?_;rintro r w_ ⟨rfl,ax⟩;clear x0 x1 x2 x3;go_wp2_with fail;go_ret;exact⟨AI S.out.symm,a0.out.trans ((hb.trans (ax.mono hb.size)).mono a0.out.size)⟩
 have C:=IB m k.mem _ (HK.out.1.below hb);rw[e1] at C;have T1:=AA e1;rw[e1] at KO;clear e1;go_wp2_with fail;refine C.mono ?_;rintro r w_ ⟨rfl,ax⟩;replace hb:=hb.trans (ax.mono hb.size);clear ax C x0 x1 x2 x3;obtain⟨x0,x1,x2,x3⟩:=AF (AC HN.out hb);cases e2:BK k.Os
 .have S:=AA (show Cj k=false by rw[KO.out];simp[e2])
  have C:=DK i k.Os _ (BJ.below HK.out.2.1 hb) Hs.out.1;rw[e2] at C;clear e2;go_wp2_with fail;refine C.mono ?_;rintro r w_ ⟨rfl,ax⟩;clear x0 x1 x2 x3;go_wp2_with fail;go_ret;exact⟨AI S.out.symm,a0.out.trans ((hb.trans (ax.mono hb.size)).mono a0.out.size)⟩
 have C:=DK i k.Os _ (BJ.below HK.out.2.1 hb) Hs.out.1;rw[e2] at C;have T2:=AA e2;rw[e2] at KO;clear e2;go_wp2_with fail;refine C.mono ?_;rintro r w_ ⟨rfl,ax⟩;replace hb:=hb.trans (ax.mono hb.size);clear ax C x0 x1 x2 x3;obtain⟨x0,x1,x2,x3⟩:=AF (AC HN.out hb);cases e3:BQ k.zY
 .have S:=AA (show Cj k=false by rw[KO.out];simp[e3])
  have C:=Ii c k.zY _ (BJ.below HK.out.2.2.2 hb);rw[e3] at C;clear e3;go_wp2_with fail;refine C.mono ?_;rintro r w_ ⟨rfl,ax⟩;clear x0 x1 x2 x3;go_wp2_with fail;go_ret;exact⟨AI S.out.symm,a0.out.trans ((hb.trans (ax.mono hb.size)).mono a0.out.size)⟩
 have C:=Ii c k.zY _ (BJ.below HK.out.2.2.2 hb);rw[e3] at C;have T3:=AA e3;rw[e3] at KO;clear e3;go_wp2_with fail;refine C.mono ?_;rintro r w_ ⟨rfl,ax⟩;replace hb:=hb.trans (ax.mono hb.size);clear ax C x0 x1 x2 x3;obtain⟨x0,x1,x2,x3⟩:=AF (AC HN.out hb);cases e4:Ig k
 .have S:=AA (show Cj k=false by rw[KO.out];simp[e4])
  have C:=Ny m i e c k _ (HK.out.1.below hb) T1.out (BJ.below HK.out.2.1 hb) T2.out (HK.out.2.2.1.below hb) Hs.out.2;rw[e4] at C;clear e4;go_wp2_with fail;refine C.mono ?_;rintro r w_ ⟨rfl,ax⟩;clear x0 x1 x2 x3;go_wp2_with fail;go_ret;exact⟨AI S.out.symm,a0.out.trans ((hb.trans (ax.mono hb.size)).mono a0.out.size)⟩
 have C:=Ny m i e c k _ (HK.out.1.below hb) T1.out (BJ.below HK.out.2.1 hb) T2.out (HK.out.2.2.1.below hb) Hs.out.2;rw[e4] at C;have T4:=AA e4;rw[e4] at KO;clear e4;go_wp2_with fail;refine C.mono ?_;rintro r w_ ⟨rfl,ax⟩;replace hb:=hb.trans (ax.mono hb.size);clear ax C x0 x1 x2 x3;obtain⟨x0,x1,x2,x3⟩:=AF (AC HN.out hb);have bu:Hid (k.zZ.length=3):=AA (by have:=T4.out;unfold Ig at this;rw[yt,decide_eq_true_eq] at this;exact this.2);have c8:Hid (∀j,j<3->(AJ k.zZ j).root<12):=AA (by
  intro j hj;have h4:=T4.out;unfold Ig at h4;rw[yt,yk] at h4;have h5:=h4.1 _ (List.mem_of_getElem? (KG (show j<k.zZ.length by have:=bu.out;omega)));unfold Dp at h5;simp only[yt,Bool.or_eq_true,decide_eq_true_eq,Ac] at h5
  rcases h5.1.2 with h|h<;>omega)
 cases e5:(yE 12).all (DY k)
 .have S:=AA (show Cj k=false by rw[KO.out];simp[e5])
  have C:=Lw m i e c k _ (HK.out.1.below hb) T1.out (BJ.below HK.out.2.1 hb) T2.out;rw[e5] at C;clear e5;go_wp2_with fail;refine C.mono ?_;rintro r w_ ⟨rfl,ax⟩;clear x0 x1 x2 x3;go_wp2_with fail;go_ret;exact⟨AI S.out.symm,a0.out.trans ((hb.trans (ax.mono hb.size)).mono a0.out.size)⟩
 have C:=Lw m i e c k _ (HK.out.1.below hb) T1.out (BJ.below HK.out.2.1 hb) T2.out;rw[e5] at C;have T5:=AA e5;rw[e5] at KO;clear e5;go_wp2_with fail;refine C.mono ?_;rintro r w_ ⟨rfl,ax⟩;replace hb:=hb.trans (ax.mono hb.size);clear ax C x0 x1 x2 x3;obtain⟨x0,x1,x2,x3⟩:=AF (AC HN.out hb);cases e6:(yE 12).all (Gl k)
 .have S:=AA (show Cj k=false by rw[KO.out];simp[e6])
  have C:=Nz m i e c k _ (HK.out.1.below hb) T1.out (BJ.below HK.out.2.1 hb) T2.out (HK.out.2.2.1.below hb) bu.out c8.out;rw[e6] at C;clear e6;go_wp2_with fail;refine C.mono ?_;rintro r w_ ⟨rfl,ax⟩;clear x0 x1 x2 x3;go_wp2_with fail;go_ret;exact⟨AI S.out.symm,a0.out.trans ((hb.trans (ax.mono hb.size)).mono a0.out.size)⟩
 have C:=Nz m i e c k _ (HK.out.1.below hb) T1.out (BJ.below HK.out.2.1 hb) T2.out (HK.out.2.2.1.below hb) bu.out c8.out;rw[e6] at C;have T6:=AA e6;rw[e6] at KO;clear e6;go_wp2_with fail;refine C.mono ?_;rintro r w_ ⟨rfl,ax⟩;replace hb:=hb.trans (ax.mono hb.size);clear ax C x0 x1 x2 x3;obtain⟨x0,x1,x2,x3⟩:=AF (AC HN.out hb);have C:=So m i e c k _ (HK.out.1.below hb) T1.out (HK.out.2.2.1.below hb) bu.out (BJ.below HK.out.2.2.2 hb) T3.out c8.out;have S:=AA (show Cj k=k.zY.all (Cm k) by rw[KO.out];simp);go_wp2_with fail;refine C.mono ?_;rintro r w_ ⟨rfl,ax⟩;go_wp2_with fail;go_ret;exact⟨AI S.out.symm,a0.out.trans ((hb.trans (ax.mono hb.size)).mono a0.out.size)⟩
theorem Qs (v1 v2:Value) (xs:List ByteArray) (w:World) (h1:BP w v1 xs) (h2:BP w v2 xs):
 Calls prog 122 #[v1,v2] w fun e w'=>e= .returned (.bool true)/\∃n,w'=w.drewN n:=by
 obtain⟨a1,c1,rfl,dk,bh,H1⟩:=BJ.open Gp (by decide) h1;obtain⟨a2,c2,rfl,dj,bg,H2⟩:=BJ.open Gp (by decide) h2;unfold maxLen at bh bg;clear h1 h2;have hb:((xs.length:Int) !=xs.length)=false:=by simp
 go_in;go_wp2_with fail;go_loopw [5] (fun i wr=>∃k:Nat,k<=xs.length/\i= .int .i64 k/\∃n,wr=w.drewN n) (fun i _=>xs.length - (intOf i).toNat)
 case atStart=>exact⟨0,yh _,rfl,0,rfl⟩
 case round=>
  obtain⟨k,hk,rfl,n,rfl⟩:=hrel
  by_cases az:k<xs.length
  .have a6:(k:Int)<(xs.length:Int):=by omega
   obtain⟨b1,o1,rfl,D1⟩:=H1.str az;obtain⟨b2,o2,rfl,D2⟩:=H2.str az;clear H1 H2;go_wp2_with fail;go_quiet (fail);go_wp2_with fail;go_roundw
   case rel=>exact⟨k+1,by omega,by go_num,_,rfl⟩
   case measure=>simp[intOf];omega
  .have a6:¬(k:Int)<(xs.length:Int):=by omega
   go_wp2_with fail;go_ret;exact⟨rfl,_,rfl⟩
theorem Qq (v1 v2:Value) (xs:List AU) (w:World) (h1:BU w v1 xs) (h2:BU w v2 xs):
 Calls prog 64 #[v1,v2] w fun e w'=>e= .returned (.bool true)/\∃n,w'=w.drewN n:=by
 obtain⟨a1,c1,rfl,dk,bh,H1⟩:=BJ.open Az (by decide) h1;obtain⟨a2,c2,rfl,dj,bg,H2⟩:=BJ.open Az (by decide) h2;unfold maxLen at bh bg;clear h1 h2;have hb:((xs.length:Int) !=xs.length)=false:=by simp
 go_in;go_wp2_with fail;go_loopw [5] (fun i wr=>∃k:Nat,k<=xs.length/\i= .int .i64 k/\∃n,wr=w.drewN n) (fun i _=>xs.length - (intOf i).toNat)
 case atStart=>exact⟨0,yh _,rfl,0,rfl⟩
 case round=>
  obtain⟨k,hk,rfl,n,rfl⟩:=hrel
  by_cases az:k<xs.length
  .have a6:(k:Int)<(xs.length:Int):=by omega
   obtain⟨b1,o1,rfl,_,ep,eo,fd⟩:=H1.zR az;obtain⟨b2,o2,rfl,_,el,ej,fb⟩:=H2.zR az;clear H1 H2;go_wp2_with fail;go_quiet (fail);go_wp2_with fail;go_roundw
   case rel=>exact⟨k+1,by omega,by go_num,_,rfl⟩
   case measure=>simp[intOf];omega
  .have a6:¬(k:Int)<(xs.length:Int):=by omega
   go_wp2_with fail;go_ret;exact⟨rfl,_,rfl⟩
theorem Qp (v1 v2:Value) (xs:List Ak) (w:World) (h1:Dt w v1 xs) (h2:Dt w v2 xs):
 Calls prog 66 #[v1,v2] w fun e w'=>e= .returned (.bool true)/\∃n,w'=w.drewN n:=by
 obtain⟨a1,c1,rfl,dk,bh,H1⟩:=BJ.open Cg (by decide) h1;obtain⟨a2,c2,rfl,dj,bg,H2⟩:=BJ.open Cg (by decide) h2;unfold maxLen at bh bg;clear h1 h2;have hb:((xs.length:Int) !=xs.length)=false:=by simp
 go_in;go_wp2_with fail;go_loopw [5] (fun i wr=>∃k:Nat,k<=xs.length/\i= .int .i64 k/\∃n,wr=w.drewN n) (fun i _=>xs.length - (intOf i).toNat)
 case atStart=>exact⟨0,yh _,rfl,0,rfl⟩
 case round=>
  obtain⟨k,hk,rfl,n,rfl⟩:=hrel
  by_cases az:k<xs.length
  .have a6:(k:Int)<(xs.length:Int):=by omega
   obtain⟨b1,o1,rfl,_,ep,eo,fd,gx⟩:=H1.zN az;obtain⟨b2,o2,rfl,_,el,ej,fb,gu⟩:=H2.zN az;clear H1 H2;go_wp2_with fail;go_quiet (fail);go_wp2_with fail;go_roundw
   case rel=>exact⟨k+1,by omega,by go_num,_,rfl⟩
   case measure=>simp[intOf];omega
  .have a6:¬(k:Int)<(xs.length:Int):=by omega
   go_wp2_with fail;go_ret;exact⟨rfl,_,rfl⟩
theorem SJ.zt {w:World} {a:Option Addr} {xs:List Bi} (h:SJ 3 Cz w a xs) {k:Nat} (hk:k<xs.length):∃b a3,a=some ⟨b,a3,none⟩/\b<w.heap.size/\w.cell? ⟨b,a3+k*3,none⟩=some (.int .i64 (AB xs k).w)/\w.cell? ⟨b,a3+k*3+1,none⟩=some (.int .i64 (AB xs k).a)/\w.cell? ⟨b,a3+k*3+2,none⟩=some (.bool (AB xs k).u):=by obtain⟨b,a3,rfl,cy,hc⟩:=h k _ (show xs[k]? =some (AB xs k) from A1 hk);exact⟨b,a3,rfl,cy,by simpa using hc 0 _ rfl,hc 1 _ rfl,hc 2 _ rfl⟩
theorem Qr (v1 v2:Value) (xs:List Bi) (w:World) (h1:BJ 3 Cz w v1 xs) (h2:BJ 3 Cz w v2 xs):
 Calls prog 29 #[v1,v2] w fun e w'=>e= .returned (.bool true)/\∃n,w'=w.drewN n:=by
 obtain⟨a1,c1,rfl,dk,bh,H1⟩:=BJ.open Ew (by decide) h1;obtain⟨a2,c2,rfl,dj,bg,H2⟩:=BJ.open Ew (by decide) h2;unfold maxLen at bh bg;clear h1 h2;have hb:((xs.length:Int) !=xs.length)=false:=by simp
 go_in;go_wp2_with fail;go_loopw [5] (fun i wr=>∃k:Nat,k<=xs.length/\i= .int .i64 k/\∃n,wr=w.drewN n) (fun i _=>xs.length - (intOf i).toNat)
 case atStart=>exact⟨0,yh _,rfl,0,rfl⟩
 case round=>
  obtain⟨k,hk,rfl,n,rfl⟩:=hrel
  by_cases az:k<xs.length
  .have a6:(k:Int)<(xs.length:Int):=by omega
   obtain⟨b1,o1,rfl,_,ep,eo,fd⟩:=H1.zt az;obtain⟨b2,o2,rfl,_,el,ej,fb⟩:=H2.zt az;clear H1 H2;go_wp2_with fail;go_quiet (fail);go_wp2_with fail;go_roundw
   case rel=>exact⟨k+1,by omega,by go_num,_,rfl⟩
   case measure=>simp[intOf];omega
  .have a6:¬(k:Int)<(xs.length:Int):=by omega
   go_wp2_with fail;go_ret;exact⟨rfl,_,rfl⟩
theorem Pn {P:Program} {f:FuncId} {bs:Array Value} {w:World} (h:∀m,Calls P f bs (w.drewN m) fun e w'=>e= .returned (.bool true)/\∃j,w'=(w.drewN m).drewN j):∀x,Calls P f bs (w.drewN (n+x)) fun e ff=>e= .returned (.bool true)/\∃j,ff=w.drewN (n+j):=by intro x;refine(h (n+x)).mono ?_;rintro e w' ⟨rfl,j,rfl⟩;exact⟨rfl,x+j,by rw[Kv,Nat.add_assoc]⟩
theorem L0 (v1 v2:Value) (xs:List Int) (w:World) (h1:Ax w v1 xs) (h2:Ax w v2 xs):
 Calls prog 13 #[v1,v2] w fun e w'=>e= .returned (.bool true)/\∃n,w'=w.drewN n:=by
 refine(TS v1 v2 xs xs w h1 h2).mono ?_;rintro e w' ⟨rfl,h⟩;exact⟨by simp,h⟩
theorem LI (v1 v2:Value) (xs:List (List Int)) (w:World) (h1:Bc w v1 xs) (h2:Bc w v2 xs):
 Calls prog 28 #[v1,v2] w fun e w'=>e= .returned (.bool true)/\∃n,w'=w.drewN n:=by
 obtain⟨a1,c1,rfl,dk,bh,H1⟩:=h1.open;obtain⟨a2,c2,rfl,dj,bg,H2⟩:=h2.open;unfold maxLen at bh bg;clear h1 h2;have hb:((xs.length:Int) !=xs.length)=false:=by simp
 go_in;go_wp2_with fail;go_loopw [5] (fun i wr=>∃k:Nat,k<=xs.length/\i= .int .i64 k/\∃n,wr=w.drewN n) (fun i _=>xs.length - (intOf i).toNat)
 case atStart=>exact⟨0,yh _,rfl,0,rfl⟩
 case round=>
  obtain⟨k,hk,rfl,n,rfl⟩:=hrel
  by_cases az:k<xs.length
  .have a6:(k:Int)<(xs.length:Int):=by omega
   obtain⟨b1,o1,u1,rfl,_,D1,R1⟩:=H1 k az;obtain⟨b2,o2,u2,rfl,_,D2,R2⟩:=H2 k az;have HQ:=AA (Pn (w:=w) (n:=n) fun m=>L0 u1 u2 (AH xs k) (w.drewN m) (R1.below (A9 (yF _ _) m)) (R2.below (A9 (yF _ _) m)));clear H1 H2 R1 R2;go_wp2_with fail;go_quiet ((go_at_call 13;exact HQ.out _));go_wp2_with fail;go_roundw
   case rel=>exact⟨k+1,by omega,by go_num,_,rfl⟩
   case measure=>simp[intOf];omega
  .have a6:¬(k:Int)<(xs.length:Int):=by omega
   go_wp2_with fail;go_ret;exact⟨rfl,_,rfl⟩
theorem TR (v1 v2:Value) (xs:List EN) (w:World) (h1:Fk w v1 xs) (h2:Fk w v2 xs):
 Calls prog 65 #[v1,v2] w fun e w'=>e= .returned (.bool true)/\∃n,w'=w.drewN n:=by
 obtain⟨a1,c1,rfl,dk,bh,H1⟩:=h1.open;obtain⟨a2,c2,rfl,dj,bg,H2⟩:=h2.open;unfold maxLen at bh bg;clear h1 h2;have hb:((xs.length:Int) !=xs.length)=false:=by simp
 go_in;go_wp2_with fail;go_loopw [5] (fun i wr=>∃k:Nat,k<=xs.length/\i= .int .i64 k/\∃n,wr=w.drewN n) (fun i _=>xs.length - (intOf i).toNat)
 case atStart=>exact⟨0,yh _,rfl,0,rfl⟩
 case round=>
  obtain⟨k,hk,rfl,n,rfl⟩:=hrel
  by_cases az:k<xs.length
  .have a6:(k:Int)<(xs.length:Int):=by omega
   obtain⟨b1,o1,f3,fZ,rfl,_,ep,eo,R1⟩:=H1 k az;obtain⟨b2,o2,f1,fY,rfl,_,el,ej,R2⟩:=H2 k az;have HQ:=AA (Pn (w:=w) (n:=n) fun m=>Qs _ _ (AJ xs k).zV (w.drewN m) (BJ.below R1 (A9 (yF _ _) m)) (BJ.below R2 (A9 (yF _ _) m)));clear H1 H2 R1 R2;go_wp2_with fail;go_quiet ((go_at_call 122;exact HQ.out _));go_wp2_with fail;go_roundw
   case rel=>exact⟨k+1,by omega,by go_num,_,rfl⟩
   case measure=>simp[intOf];omega
  .have a6:¬(k:Int)<(xs.length:Int):=by omega
   go_wp2_with fail;go_ret;exact⟨rfl,_,rfl⟩
theorem GY {P:Program} {f:FuncId} {bs:Array Value} {w:World} {v:Ending} (h:Calls P f bs w fun e w'=>e=v/\∃n,w'=w.drewN n):Calls P f bs w fun e w'=>e=v/\Below w.heap.size w w':=Lt h
theorem P8 (m i e c m' i' e' c':Value) (k:AN) (w:World) (h1:MM w m i e c k) (h2:MM w m' i' e' c' k):
 Calls prog 27 #[.agg #[m,i,e,c], .agg #[m',i',e',c']] w fun r w'=>r= .returned (.bool true)/\Below w.heap.size w w':=by
 obtain⟨N0,N1,av,bY⟩:=Jp w (.cells #[m,i,e,c] 28) (.cells #[m',i',e',c'] 28);have H1:=AA (h1.below av);have H2:=AA (h2.below av);clear h1 h2;go_in;go_wp2_with fail;generalize(w.alloc _).alloc _=W0 at*;have HN:=AA (ye N0 N1);have a0:=AA av;obtain⟨x0,x1,x2,x3⟩:=AF N0;obtain⟨y0,y1,y2,y3⟩:=AF N1;clear N0 N1 av bY;have hb:Below W0.heap.size W0 W0:=yF _ _;go_wp2_with fail;refine(GY (LI m m' k.mem _ (H1.out.1.below hb) (H2.out.1.below hb))).mono ?_;rintro r w_ ⟨rfl,ax⟩;replace hb:=hb.trans (ax.mono hb.size);clear ax x0 x1 x2 x3 y0 y1 y2 y3;obtain⟨x0,x1,x2,x3⟩:=AF (AC HN.out.1 hb);obtain⟨y0,y1,y2,y3⟩:=AF (AC HN.out.2 hb);go_wp2_with fail;refine(GY (Qq i i' k.Os _ (BJ.below H1.out.2.1 hb) (BJ.below H2.out.2.1 hb))).mono ?_;rintro r w_ ⟨rfl,ax⟩;replace hb:=hb.trans (ax.mono hb.size);clear ax x0 x1 x2 x3 y0 y1 y2 y3;obtain⟨x0,x1,x2,x3⟩:=AF (AC HN.out.1 hb);obtain⟨y0,y1,y2,y3⟩:=AF (AC HN.out.2 hb);go_wp2_with fail;refine(GY (TR e e' k.zZ _ (H1.out.2.2.1.below hb) (H2.out.2.2.1.below hb))).mono ?_;rintro r w_ ⟨rfl,ax⟩;replace hb:=hb.trans (ax.mono hb.size);clear ax x0 x1 x2 x3 y0 y1 y2 y3;obtain⟨x0,x1,x2,x3⟩:=AF (AC HN.out.1 hb);obtain⟨y0,y1,y2,y3⟩:=AF (AC HN.out.2 hb);go_wp2_with fail;refine(GY (Qp c c' k.zY _ (BJ.below H1.out.2.2.2 hb) (BJ.below H2.out.2.2.2 hb))).mono ?_;rintro r w_ ⟨rfl,ax⟩;replace hb:=hb.trans (ax.mono hb.size);clear ax x0 x1 x2 x3 y0 y1 y2 y3;obtain⟨x0,x1,x2,x3⟩:=AF (AC HN.out.1 hb);obtain⟨y0,y1,y2,y3⟩:=AF (AC HN.out.2 hb);go_wp2_with fail;go_ret;exact⟨rfl,a0.out.trans (hb.mono a0.out.size)⟩
theorem Jq (m i e c s l q m' i' e' c' s' l' q':Value) (P:AR) (w:World) (h1:Lr w m i e c s l q P) (h2:Lr w m' i' e' c' s' l' q' P):
 Calls prog 11 #[AQ m i e c s l q P.zT P.zW,AQ m' i' e' c' s' l' q' P.zT P.zW] w fun r w'=>r= .returned (.bool true)/\Below w.heap.size w w':=by
 unfold AQ;obtain⟨N0,N1,av,bY⟩:=Jp w (.cells #[m,i,e,c,s,l,q, .int .i64 P.zT, .int .i64 P.zW] 32) (.cells #[m',i',e',c',s',l',q', .int .i64 P.zT, .int .i64 P.zW] 32);have H1:=AA (h1.below av);have H2:=AA (h2.below av);clear h1 h2;go_in;go_wp2_with fail;generalize(w.alloc _).alloc _=W0 at*;have HN:=AA (ye N0 N1);have a0:=AA av;obtain⟨x0,x1,x2,x3,x4,x5,x6,x7,x8⟩:=AE N0;obtain⟨y0,y1,y2,y3,y4,y5,y6,y7,y8⟩:=AE N1;clear N0 N1 av bY;have hb:Below W0.heap.size W0 W0:=yF _ _;go_wp2_with fail;refine(P8 m i e c m' i' e' c' P.zX _ (H1.out.1.below hb) (H2.out.1.below hb)).mono ?_;rintro r w_ ⟨rfl,ax⟩;replace hb:=hb.trans (ax.mono hb.size);clear ax x0 x1 x2 x3 x4 x5 x6 x7 x8 y0 y1 y2 y3 y4 y5 y6 y7 y8;obtain⟨x0,x1,x2,x3,x4,x5,x6,x7,x8⟩:=AE (AC HN.out.1 hb);obtain⟨y0,y1,y2,y3,y4,y5,y6,y7,y8⟩:=AE (AC HN.out.2 hb);go_wp2_with fail;refine(GY (LI s s' P.swap _ (H1.out.2.1.below hb) (H2.out.2.1.below hb))).mono ?_;rintro r w_ ⟨rfl,ax⟩;replace hb:=hb.trans (ax.mono hb.size);clear ax x0 x1 x2 x3 x4 x5 x6 x7 x8 y0 y1 y2 y3 y4 y5 y6 y7 y8;obtain⟨x0,x1,x2,x3,x4,x5,x6,x7,x8⟩:=AE (AC HN.out.1 hb);obtain⟨y0,y1,y2,y3,y4,y5,y6,y7,y8⟩:=AE (AC HN.out.2 hb);go_wp2_with fail;refine(GY (L0 l l' P.low _ (H1.out.2.2.1.below hb) (H2.out.2.2.1.below hb))).mono ?_;rintro r w_ ⟨rfl,ax⟩;replace hb:=hb.trans (ax.mono hb.size);clear ax x0 x1 x2 x3 x4 x5 x6 x7 x8 y0 y1 y2 y3 y4 y5 y6 y7 y8;obtain⟨x0,x1,x2,x3,x4,x5,x6,x7,x8⟩:=AE (AC HN.out.1 hb);obtain⟨y0,y1,y2,y3,y4,y5,y6,y7,y8⟩:=AE (AC HN.out.2 hb);go_wp2_with fail;refine(GY (Qr q q' P.No _ (BJ.below H1.out.2.2.2 hb) (BJ.below H2.out.2.2.2 hb))).mono ?_;rintro r w_ ⟨rfl,ax⟩;replace hb:=hb.trans (ax.mono hb.size);clear ax x0 x1 x2 x3 x4 x5 x6 x7 x8 y0 y1 y2 y3 y4 y5 y6 y7 y8;obtain⟨x0,x1,x2,x3,x4,x5,x6,x7,x8⟩:=AE (AC HN.out.1 hb);obtain⟨y0,y1,y2,y3,y4,y5,y6,y7,y8⟩:=AE (AC HN.out.2 hb);go_wp2_with fail;go_ret;exact⟨rfl,a0.out.trans (hb.mono a0.out.size)⟩
def RO (p:AR):Bool:=decide (p.zW<=(Ai p.No 1:Int))||decide (Am p.zX.Os<0)
theorem VT {Os:List AU}:Am Os<0↔Os.countP (fun x=>decide (x.k=0))=0:=by
 unfold Am;rw[List.countP_eq_zero];constructor
 .intro h x hx hk
  rw[if_pos (vl.2 ⟨x,hx,hk⟩)] at h;omega
 .intro h
  rw[if_neg]
  .decide
  .intro ha
   obtain⟨x,hx,hk⟩:=vl.1 ha;exact h x hx hk
def Lj (r:List Int):Bool:=r.isEmpty||Dh r
theorem Rz {s:List (List Int)}:Ey s=(s.all Lj&&decide (s.length=16)):=rfl
theorem G0 (v:Value) (s:List (List Int)) (w:World) (h:Bc w v s):Calls prog 41 #[v] w fun e w'=>e= .returned (.bool (Ey s))/\Below w.heap.size w w':=by
 obtain⟨ao,c,rfl,hc,cr,H⟩:=h.open;unfold maxLen at cr;have HH:=AA H;clear h H;go_in;go_wp2_with fail;go_loopw [3] (fun ix wr=>∃k:Nat,k<=s.length/\ix= .int .i64 k/\(∀j,j<k->Lj (AH s j)=true)/\Below w.heap.size w wr) (fun ix _=>s.length - (intOf ix).toNat)
 case atStart=>exact⟨0,yh _,rfl,fun j hj=>absurd hj (xR _),yF _ _⟩
 case round=>
  obtain⟨k,hk,rfl,al,hb⟩:=hrel;have ay:=AA al;clear al
  by_cases az:k<s.length
  .have a6:(k:Int)<(s.length:Int):=by omega
   obtain⟨b,a3,u,rfl,cy,D,hr⟩:=(HH.out.below hb) k az;have C:=K4 u _ wr hr;obtain⟨au,cu,rfl,_,_,_⟩:=hr.open
   by_cases he:(AH s k).length=0
   .have t0:¬(0:Int)<(AH s k).length:=by omega
    have S:=AA (show Lj (AH s k)=true by unfold Lj;rw[List.isEmpty_iff.2 (xT he)];rfl);clear C hr he;go_wp2_with fail;go_roundw
    case rel=>exact⟨k+1,by omega,by go_num,Aj ay.out S.out,hb⟩
    case measure=>simp[intOf];omega
   .have t0:(0:Int)<(AH s k).length:=by omega
    have E:Lj (AH s k)=Dh (AH s k):=by
     unfold Lj;have:(AH s k).isEmpty=false:=by cases hx:AH s k;rw[hx] at he;exact absurd rfl he;rfl
     rw[this,Bool.false_or]
    have C:=AA C;cases h2:Dh (AH s k)
    .have S:=AA (show Ey s=false by rw[Rz,If (Jh az) (E.trans h2)];rfl)
     have T:=AA h2;clear hr he E h2;go_wp2_with fail;refine C.out.mono ?_;rintro e w2 ⟨rfl,b2⟩;rw[T.out];go_wp2_with fail;go_ret;exact⟨AI S.out.symm,hb.trans (b2.mono hb.size)⟩
    .have S:=AA (E.trans h2)
     have T:=AA h2;clear hr he E h2;go_wp2_with fail;refine C.out.mono ?_;rintro e w2 ⟨rfl,b2⟩;rw[T.out];go_wp2_with fail;go_roundw
     case rel=>exact⟨k+1,by omega,by go_num,Aj ay.out S.out,hb.trans (b2.mono hb.size)⟩
     case measure=>simp[intOf];omega
  .have ek:k=s.length:=by omega
   have al:=ay.out;rw[ek] at al;have S:=AA (show Ey s=((s.length:Int)==16) by
    rw[Rz,Jc (fun k hk=>Jh hk) al,vS]
    by_cases h3:s.length=16<;>simp[h3]<;>omega)
   have a6:¬(k:Int)<(s.length:Int):=by omega
   clear ay al;go_wp2_with fail;go_ret;exact⟨AI S.out.symm,hb⟩
theorem Mb (m i e c:Value) (k:AN) (w:World) (hE:Fk w e k.zZ) (bu:k.zZ.length=3) (c7:∀j,j<k.zZ.length->DP (AJ k.zZ j).zV):
 Calls prog 42 #[.agg #[m,i,e,c]] w fun r w'=>r= .returned (.bool (GV k))/\Below w.heap.size w w':=by
 have N0:=yw w (.cells #[m,i,e,c] 28);have av:=AD w (.cells #[m,i,e,c] 28);obtain⟨ae,ce,rfl,_,_,bB⟩:=(hE.below av).open;have AL:GV k=(Bv (AJ k.zZ 0).zV gA&&!Bv (AJ k.zZ 1).zV gA&&!Bv (AJ k.zZ 2).zV gA):=rfl;have CM:=AA (fun v j (hj:j<3) W (hW:BP W v (AJ k.zZ j).zV)=>KH v (AJ k.zZ j).zV gA W hW (c7 j (by omega)) (by decide));unfold gA at CM;have bA:=AA bu;clear bu c7 hE;go_in;go_wp2_with fail;generalize w.alloc _=W0 at*;have HN:=AA N0;have HE:=AA bB;have a0:=AA av;have HA:=AA AL;clear N0 bB av AL;go_loopw [3] (fun ix wr=>∃j:Nat,1<=j/\j<=3/\ix= .int .i64 j/\(∀j',1<=j'->j'<j->Bv (AJ k.zZ j').zV gA=false)/\Below W0.heap.size W0 wr) (fun ix _=>3 - (intOf ix).toNat)
 case atStart=>exact⟨1,by omega,by omega,rfl,fun j h1 h2=>by omega,yF _ _⟩
 case round=>
  obtain⟨j,gd,hj,rfl,al,hb⟩:=hrel;have ay:=AA al;clear al;obtain⟨_,_,x2,_⟩:=AF (AC HN.out hb)
  by_cases az:j<3
  .have dg:(j:Int)<k.zZ.length:=by have:=bA.out;omega
   obtain⟨b,a3,ua,uc,rfl,cy,D0,_,RR⟩:=(HE.out.below hb) j (by have:=bA.out;omega);have C:=CM.out _ j az wr RR;cases hm:Bv (AJ k.zZ j).zV ⟨#[97]⟩
   .rw[hm] at C
    have S:=AA (show Bv (AJ k.zZ j).zV gA=false from hm);clear hm RR;go_wp2_with fail;refine C.mono ?_;rintro r w2 ⟨rfl,b2⟩;go_wp2_with fail;go_roundw
    case rel=>exact⟨j+1,by omega,by omega,by go_num,fun j' h1 h2=>by
     rcases Nat.lt_succ_iff_lt_or_eq.1 h2 with h|rfl
     .exact ay.out j' h1 h
     .exact S.out,hb.trans (b2.mono hb.size)⟩
    case measure=>simp[intOf];omega
   .rw[hm] at C
    have S:=AA (show GV k=false by
     have fq:Bv (AJ k.zZ j).zV gA=true:=hm;rw[HA.out];have:j=1∨j=2:=by omega
     rcases this with rfl|rfl<;>rw[fq]<;>simp)
    clear hm RR;go_wp2_with fail;refine C.mono ?_;rintro r w2 ⟨rfl,b2⟩;go_wp2_with fail;go_ret;exact⟨AI S.out.symm,a0.out.trans ((hb.trans (b2.mono hb.size)).mono a0.out.size)⟩
  .obtain rfl:j=3:=by omega
   obtain⟨b,a3,ua,uc,rfl,cy,D0,_,RR⟩:=(HE.out.below hb) 0 (by have:=bA.out;omega);have C:=CM.out _ 0 (by omega) wr RR;have dg:¬((3:Nat):Int)<k.zZ.length:=by have:=bA.out;omega
   have fv:¬(3:Int)<k.zZ.length:=by have:=bA.out;omega
   have gk:(0:Int)<k.zZ.length:=by have:=bA.out;omega
   have S:=AA (show GV k=Bv (AJ k.zZ 0).zV ⟨#[97]⟩ by rw[HA.out,ay.out 1 (by omega) (by omega),ay.out 2 (by omega) (by omega)];simp[gA])
   have e0:a3+0*2=a3:=by omega
   rw[e0] at D0;clear RR ay;go_wp2_with fail;refine C.mono ?_;rintro r w2 ⟨rfl,b2⟩;go_wp2_with fail;go_ret;exact⟨AI S.out.symm,a0.out.trans ((hb.trans (b2.mono hb.size)).mono a0.out.size)⟩
theorem Tu {l:List Bi} {k:Nat} {wh:Int} (hk:k<l.length):Ai (l.take (k+1)) wh=Ai (l.take k) wh+(if(AB l k).w=wh then 1 else 0):=by
 unfold Ai;rw[Cw (x:=AB l k) (A1 hk),tz]
 congr 1
 simp only[xF,sX,NW,decide_eq_true_eq,uU]
theorem Wr {l:List Bi} {wh:Int}:Ai l wh<=l.length:=by unfold Ai;exact vO
theorem Mc (mv iv ev cv sv lv qv:Value) (P:AR) (wh:Int) (w:World) (h:BJ 3 Cz w qv P.No) (hl:P.No.length<=1048576):
 Calls prog 46 #[AQ mv iv ev cv sv lv qv P.zT P.zW, .int .i64 wh] w fun r w'=>r= .returned (.int .i64 (Ai P.No wh:Nat))/\Below w.heap.size w w':=by
 unfold AQ;have N0:=yw w (.cells #[mv,iv,ev,cv,sv,lv,qv, .int .i64 P.zT, .int .i64 P.zW] 32);have av:=AD w (.cells #[mv,iv,ev,cv,sv,lv,qv, .int .i64 P.zT, .int .i64 P.zW] 32);obtain⟨aq,cq,rfl,_,_,eY⟩:=BJ.open Ew (by decide) (BJ.below h av);obtain⟨_,_,_,_,_,_,x6,_,_⟩:=AE N0;clear h;go_in;go_wp2_with fail;generalize w.alloc _=W0 at*;have HQ:=AA eY;clear eY N0;go_loopw [5,6] (fun n ix wr=>∃k:Nat,k<=P.No.length/\ix= .int .i64 k/\n= .int .i64 (Ai (P.No.take k) wh:Nat)/\W0=wr) (fun n ix _=>P.No.length - (intOf ix).toNat)
 case atStart=>exact⟨0,yh _,rfl,rfl,rfl⟩
 case round=>
  obtain⟨k,hk,rfl,rfl,rfl⟩:=hrel
  by_cases az:k<P.No.length
  .have dU:(k:Int)<P.No.length:=by omega
   obtain⟨b,a3,rfl,_,D0,_,_⟩:=HQ.out.zt az;have S:=Tu (wh:=wh) az;have di:=Wr (l:=P.No.take k) (wh:=wh);rw[xW] at di
   by_cases hw:(AB P.No k).w=wh
   .rw[if_pos hw] at S
    have t0:((AB P.No k).w==wh)=true:=by simp[hw]
    have S:=AA S;generalize Ai (P.No.take k) wh=n0 at*;clear hw;go_wp2_with fail;go_roundw
    case rel=>exact⟨k+1,by omega,by go_num,by rw[S.out];go_num,by first|rfl|trivial⟩
    case measure=>simp[intOf];omega
   .rw[if_neg hw] at S
    have t0:((AB P.No k).w==wh)=false:=by simp[hw]
    have S:=AA S;clear hw;go_wp2_with fail;go_roundw
    case rel=>exact⟨k+1,by omega,by go_num,by rw[S.out,Nat.add_zero],by first|rfl|trivial⟩
    case measure=>simp[intOf];omega
  .obtain rfl:k=P.No.length:=by omega
   have dU:¬(P.No.length:Int)<P.No.length:=by omega
   rw[xt];go_wp2_with fail;go_ret;exact⟨rfl,av⟩
theorem VS {l:List AU} {k:Nat} (hk:k<l.length):(l.take (k+1)).countP (fun x=>decide (x.k=0))=(l.take k).countP (fun x=>decide (x.k=0))+(if(zU l k).k=0 then 1 else 0):=by
 rw[Cw (Ci hk),tz]
 congr 1
 simp only[xF,sX,decide_eq_true_eq,uU]
theorem Px (v:Value) (l:List AU) (w:World) (h:BU w v l) (bl:BK l=true):
 Calls prog 58 #[v] w fun r w'=>r= .returned (.int .i64 (l.countP (fun x=>decide (x.k=0)):Nat))/\Below w.heap.size w w':=by
 have CV:=DK v l w h (Cb bl);rw[bl] at CV;obtain⟨ai,ci,rfl,_,_,H0⟩:=BJ.open Az (by decide) h;have dS:=(A0.1 bl).1;have f9:(l.length:Int)<=12:=by omega
 have HH:=AA H0;have CV:=AA CV;clear h H0 bl dS;go_in;go_wp2_with fail;go_loopw [3,4] (fun n ix wr=>∃k:Nat,k<=l.length/\ix= .int .i64 k/\n= .int .i64 ((l.take k).countP (fun x=>decide (x.k=0)):Nat)/\w=wr) (fun n ix _=>l.length - (intOf ix).toNat)
 case atStart=>exact⟨0,yh _,rfl,rfl,rfl⟩
 case round=>
  obtain⟨k,hk,rfl,rfl,rfl⟩:=hrel
  by_cases az:k<l.length
  .have dU:(k:Int)<l.length:=by omega
   obtain⟨b,a3,rfl,_,D0,_,_⟩:=HH.out.zR az;have S:=VS az;have di:=vO (p:=fun x:AU=>decide (x.k=0)) (l:=l.take k);rw[xW] at di
   by_cases hw:(zU l k).k=0
   .rw[if_pos hw] at S
    have t0:((zU l k).k==0)=true:=by simp[hw]
    have S:=AA S;generalize List.countP _ (l.take k)=n0 at*;clear hw;go_wp2_with fail;go_roundw
    case rel=>exact⟨k+1,by omega,by go_num,by rw[S.out];go_num,by first|rfl|trivial⟩
    case measure=>simp[intOf];omega
   .rw[if_neg hw] at S
    have t0:((zU l k).k==0)=false:=by simp[hw]
    have S:=AA S;clear hw;go_wp2_with fail;go_roundw
    case rel=>exact⟨k+1,by omega,by go_num,by rw[S.out,Nat.add_zero],by first|rfl|trivial⟩
    case measure=>simp[intOf];omega
  .obtain rfl:k=l.length:=by omega
   have dU:¬(l.length:Int)<l.length:=by omega
   rw[xt];go_wp2_with fail;refine CV.out.mono ?_;rintro r w2 ⟨rfl,b2⟩;go_wp2_with fail;go_ret;exact⟨rfl,b2⟩
theorem UF {s:List (List Int)} {k:Nat} (hk:k<s.length) (h:∀j,j<k->(AH s j).isEmpty=false) (hp:(AH s k).isEmpty=true):BW s=(k:Int):=by
 have g:∀j (hj:j<s.length),s[j]=AH s j:=fun j hj=>by have:=Jh hj;rw[List.getElem?_eq_getElem hj] at this;exact yH this
 unfold BW;rw[if_pos (NM (Jh hk) hp)];have:s.findIdx List.isEmpty=k:=by
  rw[List.findIdx_eq hk];exact⟨by rw[g k hk];exact hp,fun j hj=>by rw[g j (by omega)];exact h j hj⟩
 rw[this]
theorem Sj {s:List (List Int)} (h:∀j,j<s.length->(AH s j).isEmpty=false):BW s= -1:=by
 unfold BW;rw[if_neg];rw[Ks (fun k hk=>Jh hk) h];simp
theorem UT (v:Value) (s:List (List Int)) (w:World) (h:Bc w v s):Calls prog 164 #[v] w fun e w'=>e= .returned (.int .i64 (BW s))/\Below w.heap.size w w':=by
 obtain⟨ao,c,rfl,hc,cr,H⟩:=h.open;unfold maxLen at cr;have HH:=AA H;clear h H;go_in;go_wp2_with fail;go_loopw [3] (fun ix wr=>∃k:Nat,k<=s.length/\ix= .int .i64 k/\(∀j,j<k->(AH s j).isEmpty=false)/\Below w.heap.size w wr) (fun ix _=>s.length - (intOf ix).toNat)
 case atStart=>exact⟨0,yh _,rfl,fun j hj=>absurd hj (xR _),yF _ _⟩
 case round=>
  obtain⟨k,hk,rfl,al,hb⟩:=hrel;have ay:=AA al;clear al
  by_cases az:k<s.length
  .have a6:(k:Int)<(s.length:Int):=by omega
   obtain⟨b,a3,u,rfl,cy,D,hr⟩:=(HH.out.below hb) k az;obtain⟨au,cu,rfl,_,_,_⟩:=hr.open;cases hp:(AH s k).isEmpty
   .have t0:(((AH s k).length:Int)==0)=false:=by rw[<-hp];cases hx:AH s k<;>simp<;>omega
    have Hp:=AA hp;clear hp;go_wp2_with fail;go_roundw
    case rel=>exact⟨k+1,by omega,by go_num,Aj ay.out Hp.out,hb⟩
    case measure=>simp[intOf];omega
   .have t0:(((AH s k).length:Int)==0)=true:=by rw[<-hp];cases hx:AH s k<;>simp<;>omega
    have S:=AA (UF az ay.out hp);have Hp:=AA hp;clear hp;go_wp2_with fail;go_ret;exact⟨Cn S.out.symm,hb⟩
  .have ek:k=s.length:=by omega
   have al:=ay.out;rw[ek] at al;have S:=AA (Sj al);clear ay al;go_wp2_with fail;go_ret;exact⟨Cn S.out.symm,hb⟩
end Go.Proofs.YtinbcpipjfljeaaGreatDoor
