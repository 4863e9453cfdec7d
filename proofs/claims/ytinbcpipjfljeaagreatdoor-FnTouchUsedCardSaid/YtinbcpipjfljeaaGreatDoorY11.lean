/-
  Packed:9 texts.
-/
import Derived.Test.YtinbcpipjfljeaaGreatDoorY1
import Derived.Test.YtinbcpipjfljeaaGreatDoorY9
import Derived.Test.YtinbcpipjfljeaaGreatDoorY5
import Derived.Deep.DeepCutAuto
import Derived.Deep.CutBlock
import Derived.Test.YtinbcpipjfljeaaGreatDoorY10
import Derived.Test.YtinbcpipjfljeaaGreatDoorY6
import Derived.Test.YtinbcpipjfljeaaGreatDoorY4
import Derived.Test.YtinbcpipjfljeaaGreatDoorY8
import Derived.Test.YtinbcpipjfljeaaGreatDoorY7
set_option linter.unusedVariables false
set_option linter.unusedSimpArgs false
set_option maxHeartbeats 16000000
set_option maxRecDepth 100000
open Go Go.Proofs.YtinbcpipjfljeaaGreatDoor
open And renaming intro->ye
open Bool renaming and_eq_true->yt,or_eq_true->xv
open Go.Exit renaming inBlock->xS
open Go.IntKind renaming i64->wR
open Go.IntWalk renaming i64_in->xy
open Go.Proofs.Tryz renaming results100->uz,results182->sW,results216->vQ,results59->sT
open Go.RowKit.Below renaming cell->tJ,refl->yF
open Go.Value renaming int->yf
open Go.Value.slice renaming injEq->xD
open Go.World renaming block_lt_of_cell?->yC
open Go.World.ownsRow renaming lt->yr
open Go renaming bodyPost_ret->yp,heap_alloc_new->yw,heap_setCell_same->yu
open Int renaming toNat_natCast->xY
open List renaming foldl_cons->yA,foldl_nil->yy,getElem?_replicate->vW,length_replicate->vU,mem_of_getElem?->yg,range->yE,replicate->xX
open List.range renaming loop->yB
open Nat renaming le_add_right->vX,le_refl->yv,le_trans->yD,lt_of_lt_of_le->xZ,zero_le->yh
open Prod.mk renaming injEq->tj
variable {x y:Int} {cv ev iv mv v:Value} {b:Bool}
namespace Go.Proofs.YtinbcpipjfljeaaGreatDoor
open Go.Proofs.Tryz
open Go.RowKit
theorem PD (x:Int):∃(fn:Nat) (wr:Bool),Sf x= .tuple #[.int .i64 fn, .bool wr, .bool (Bf x)]/\fn<12/\(Bf x=true->fn=A8 x):=by
 cases h:Bf x
 .exact⟨0,false,Eb h,by decide,fun h=>by cases h⟩
 .exact⟨A8 x,KF x,ER h,EH h,fun _=>rfl⟩
theorem Tf {k:AN} {a e:Nat} (h:e∈FY k a):e<3:=by rw[<-IZ] at h;exact WJ h
theorem Xu {k:AN} {a:Nat}:(FY k a).length<=3:=by rw[<-IZ];exact LQ
theorem YO {k:AN} {c:Ab} (h:Dg k c=true) (ht:Bb (zU k.Os c.a.toNat).k=true):Bf c.c=true->(zU k.Os (A8 c.c)).k≠3:=by intro hg;unfold Dg at h;rw[if_pos hg,decide_eq_true_eq] at h;simp only[Bb,xv,decide_eq_true_eq] at ht;omega
theorem Pr {Os:List AU} {n:Int} (h:Bf x=false):A3 Os x n=Os:=by unfold A3;rw[if_neg (by rw[h];decide)]
theorem Ro {Os:List AU} {n:Int} {f:Nat} (h:Bf x=true) (hf:f=A8 x):A3 Os x n=Ar Os f (JJ n):=by unfold A3;rw[if_pos h,hf]
theorem Vh {lo:Nat} {k:AN} {w:World} (h:DO lo w mv iv ev cv k) (a2:lo<=w.heap.size) (hk:DI k) (call:Ab) (he:0<=call.e/\call.e<3) (h2:call.k=6) (hc:call.c<=9223372036854775807):
 Calls prog 216 #[.agg #[mv,iv,ev,cv], .agg call.cs] w (Kh lo w (Ad k call)):=by
 have bv:=SC.start h a2 call;have P0:=Wp (k:=k) h2;have FZ:=AA (fun hz=>JN (k:=k) (c:=call) (kind:=0) hz);have er:=(Aw hk).1;obtain⟨gm,ar,e7,_⟩:=EL.mems bv er;obtain⟨ge,a1,e9,_,_⟩:=bv.zZ (by rw[hk.zP];omega);rw[hk.zP] at e9;obtain⟨gi,ad,e8,_,_⟩:=bv.Os (by rw[hk.len];omega);rw[hk.len] at e8;obtain⟨am,gK,cm,ai,ni,ci,ae,gN,ce,ac,nc,cc,em,ei,ee,ec⟩:=bv.zS;subst e7 e8 e9 ec;clear em ei ee;have S0:=AA bv;obtain⟨kk,e,ra,b,c,nm⟩:=call;simp only at he h2 hc;subst h2;obtain⟨en,rfl⟩:∃n:Nat,e=(n:Int):=⟨e.toNat,by omega⟩
 have ha:en<3:=by omega
 have g9:(en:Int)<3:=by omega
 simp only[Ab.cs] at S0 P0 FZ ⊢;have HP:=AA P0;have HK:=AA hk;have dP:=AA er;have CF:=AA (fun W (h:MM W (.slice (some ⟨gm,0,none⟩) 12 ar) (.slice (some ⟨gi,0,none⟩) 12 ad) (.slice (some ⟨ge,0,none⟩) 3 a1) (.slice ac nc cc) k)=>KI _ _ _ _ k 6 (en:Int) ra b c nm 0 W h hk he (.inl rfl));have CG:=AA (fun W=>BM (Cx c W hc));have Hc:=AA hc;obtain⟨x0,x1,x2,x3⟩:=S0.out.xs;obtain⟨y0,y1,y2,y3,y4,y5⟩:=S0.out.ys6;generalize hfc:Bx k ⟨6,(en:Int),ra,b,c,nm⟩ 0=fc at*;clear h bv he hk P0 er hfc hc;generalize hW0:((w.alloc _).alloc _).alloc _=W0 at*;go_in;go_wp2_with fail;refine(CF.out _ S0.out.K).mono ?_;rintro r w1 ⟨rfl,fH⟩;have S1:=AA (S0.out.below fH);clear x0 x1 x2 x3 y0 y1 y2 y3 y4 y5 fH CF hW0
 by_cases ef:fc=0
 .subst ef
  obtain⟨bV,_,hm,_,fs⟩:=FZ.out rfl;have ab:=Ac.1 bV;obtain⟨an,rfl⟩:∃n:Nat,ra=(n:Int):=⟨ra.toNat,by omega⟩
  have ds:an<12:=by omega
  have hF:(an:Int)<12:=by omega
  have dW:=AA (show Ad k ⟨6,(en:Int),(an:Int),b,c,nm⟩=Y8 k ⟨6,(en:Int),(an:Int),b,c,nm⟩ by rw[HP.out];rfl);have eP:=AA (fs (by first|rfl|trivial));obtain⟨x0,x1,x2,x3⟩:=S1.out.xs;obtain⟨y0,y1,y2,y3,y4,y5⟩:=S1.out.ys6;clear bV hm fs ab FZ HP;go_wp2_with fail;refine(CG.out _).mono ?_;rintro r w2 ⟨rfl,bl⟩;have S2:=AA (S1.out.below bl);obtain⟨fn,wf,hV,dJ,bu⟩:=PD c;rw[hV];clear x0 x1 x2 x3 y0 y1 y2 y3 y4 y5 bl hV CG S0 S1;obtain⟨x0,x1,x2,x3⟩:=S2.out.xs;obtain⟨y0,y1,y2,y3,y4,y5⟩:=S2.out.ys6;obtain⟨az,a0,_,_⟩:=S2.out.lts;have bk:=S2.out.zo;obtain⟨d0,_,_⟩:=S2.out.zU (f:=an) (by rw[HK.out.len];exact ds);obtain⟨f0,_,_⟩:=S2.out.zU (f:=fn) (by rw[HK.out.len];exact dJ);have CB:=AA (fun W (hW:Below w2.heap.size w2 W)=>BM (Cv b 0 3 W));have CK:=AA (fun W (hW:Below w2.heap.size w2 W)=>BM (Jl c W));have g8:(fn:Int)<12:=by omega
  obtain⟨okb,hokb⟩:∃okb,okb=(Bd b 0 3&&Dg k ⟨6,(en:Int),(an:Int),b,c,nm⟩):=⟨_,rfl⟩
  have ba:=AA hokb;have eT:=AA bu;generalize hsm:Bf c=sm at*;have br:=AA hsm;clear hokb bu hsm;go_wp2_with fail;go_cut [60] (fun gI wx=>gI= .bool (!okb)/\EL 79 #[.int .i64 6, .int .i64 en, .int .i64 an, .int .i64 b, .int .i64 c, .string nm] [w.heap.size+2] lo w.heap.size (w.heap.size+1) w wx (.slice (some ⟨gm,0,none⟩) 12 ar) (.slice (some ⟨gi,0,none⟩) 12 ad) (.slice (some ⟨ge,0,none⟩) 3 a1) (.slice ac nc cc) k)
  case first=>
   have ii:(decide (0<=b)&&decide (b<=3))=Bd b 0 3:=rfl;clear ii;cases be:Bd b 0 3
   .have E:=AA (show okb=false by rw[ba.out,be];rfl)
    rw[be] at CB;clear be d0 f0;refine Aa 29 167 [.p (w.heap.size+1) 3, .i b, .b false, .b true, .b true, .u, .u, .u, .u, .b true, .b true, .u, .u, .u, .u, .u, .u, .u, .u, .u, .u, .u, .u, .u, .u, .u, .u, .u, .u] (fun _ _ _=>True) ?_ ?_
    .intro i hi o ho a wx Hb Hd hG K HK
     have av:=bc hG az y3
     match i,hi with
     |0,_|3,_|4,_|9,_|10,_=>exact sP ho HK Hb Hd
     |1,_=>exact sL ho HK Hb Hd (hl:=Fo ‹_›)
     |2,_=>exact sD ho HK Hb Hd (CB.out _ hG)
     |5,_|6,_|7,_|8,_|11,_|12,_|13,_|14,_|15,_|16,_|17,_|18,_|19,_|20,_|21,_|22,_|23,_|24,_|25,_|26,_|27,_|28,_=>exact sB ho HK Hd
     |_+29,hq=>omega
    .intro vs wx hR hG
     have a6:(vs 10)= .bool true:=BZ hR 10;clear hR;simp only[Al,AV,yE,yB,yA,yy,a6];simp;clear a6;clear x0 x1 x2 x3 y0 y1 y2 y3 y4 y5;go_wp2_with fail;go_meet
     case rel=>exact⟨by rw[E.out];rfl,S2.out.below hG⟩
   .rw[be] at CB
    cases sm
    .by_cases cM:c=0
     .have E:=AA (show okb=true by rw[ba.out,be];simp only[Dg,br.out];simp[cM])
      have EK:D6 c=0:=by simp[D6,cM]
      rw[EK] at CK;clear be cM EK d0 f0;refine Aa 29 167 [.p (w.heap.size+1) 3, .i b, .b true, .b false, .b false, .p (w.heap.size+1) 4, .i c, .i 0, .b false, .b false, .b false, .b false, .b false, .u, .u, .u, .u, .u, .u, .u, .u, .u, .u, .u, .u, .u, .u, .u, .b false] (fun _ _ _=>True) ?_ ?_
      .intro i hi o ho a wx Hb Hd hG K HK
       have av:=bc hG az y3;have ay:=bc hG az y4
       match i,hi with
       |0,_|3,_|4,_|5,_|9,_|10,_|11,_|12,_|28,_=>exact sP ho HK Hb Hd
       |1,_|6,_=>exact sL ho HK Hb Hd (hl:=Fo ‹_›)
       |2,_=>exact sD ho HK Hb Hd (CB.out _ hG)
       |7,_=>exact sD ho HK Hb Hd (CK.out _ hG)
       |13,_|14,_|15,_|16,_|17,_|18,_|19,_|20,_|21,_|22,_|23,_|24,_|25,_|26,_|27,_=>exact sB ho HK Hd
       |8,_=>clear av ay;obtain rfl:=yH ho;have d7:(a.tmps[38]?.getD undef)= .int .i64 0:=BT Hd 7;have d4:(a.tmps[35]?.getD undef)= .bool false:=BT Hd 4;clear Hd Hb;refine AX.yes rfl rfl d4 ?_;go_simp;exact HK.out _ _ rfl (yF _ _)
       |_+29,hq=>omega
      .intro vs wx hR hG
       have a6:(vs 10)= .bool false:=BZ hR 10;have cf:(vs 28)= .bool false:=BZ hR 28;clear hR;simp only[Al,AV,yE,yB,yA,yy,a6,cf];simp;clear a6 cf;clear x0 x1 x2 x3 y0 y1 y2 y3 y4 y5;go_wp2_with fail;go_meet
       case rel=>exact⟨by rw[E.out];rfl,S2.out.below hG⟩
     .have E:=AA (show okb=false by rw[ba.out,be];simp only[Dg,br.out];simp[cM])
      have EK:D6 c=2:=by simp[D6,cM,br.out]
      rw[EK] at CK;clear be cM EK d0 f0;refine Aa 29 167 [.p (w.heap.size+1) 3, .i b, .b true, .b false, .b false, .p (w.heap.size+1) 4, .i c, .i 2, .b true, .b true, .b true, .u, .u, .u, .u, .u, .u, .u, .u, .u, .u, .u, .u, .u, .u, .u, .u, .u, .u] (fun _ _ _=>True) ?_ ?_
      .intro i hi o ho a wx Hb Hd hG K HK
       have av:=bc hG az y3;have ay:=bc hG az y4
       match i,hi with
       |0,_|3,_|4,_|5,_|9,_|10,_=>exact sP ho HK Hb Hd
       |1,_|6,_=>exact sL ho HK Hb Hd (hl:=Fo ‹_›)
       |2,_=>exact sD ho HK Hb Hd (CB.out _ hG)
       |7,_=>exact sD ho HK Hb Hd (CK.out _ hG)
       |11,_|12,_|13,_|14,_|15,_|16,_|17,_|18,_|19,_|20,_|21,_|22,_|23,_|24,_|25,_|26,_|27,_|28,_=>exact sB ho HK Hd
       |8,_=>clear av ay;obtain rfl:=yH ho;have d7:(a.tmps[38]?.getD undef)= .int .i64 2:=BT Hd 7;have d4:(a.tmps[35]?.getD undef)= .bool false:=BT Hd 4;clear Hd Hb;refine AX.yes rfl rfl d4 ?_;go_simp;exact HK.out _ _ rfl (yF _ _)
       |_+29,hq=>omega
      .intro vs wx hR hG
       have a6:(vs 10)= .bool true:=BZ hR 10;clear hR;simp only[Al,AV,yE,yB,yA,yy,a6];simp;clear a6;clear x0 x1 x2 x3 y0 y1 y2 y3 y4 y5;go_wp2_with fail;go_meet
       case rel=>exact⟨by rw[E.out];rfl,S2.out.below hG⟩
    .have EK:D6 c=1:=by
      unfold D6;rw[if_neg (by intro h;have:=br.out;rw[h] at this;cases this),br.out];rfl
     rw[EK] at CK;have bu:=eT.out rfl;have dH:=eP.out;generalize hka:(zU k.Os an).k=ka at d0 dH;generalize hkf:(zU k.Os fn).k=kf at f0;have fB:2<=ka/\ka<=3:=by simp only[Bb,xv,decide_eq_true_eq,xY,hka] at dH;omega
     obtain⟨km,hkm⟩:∃km,ka - 1=km:=⟨_,rfl⟩
     have fV:=AA hkm
     by_cases hq:kf=km
     .have E:=AA (show okb=true by rw[ba.out,be];simp[Dg,br.out,<-bu,hka,hkf];omega)
      have go:(kf !=km)=false:=by simp[hq]
      clear be EK bu dH hka hkf hkm hq;refine Aa 29 167 [.p (w.heap.size+1) 3, .i b, .b true, .b false, .b false, .p (w.heap.size+1) 4, .i c, .i 1, .b false, .b false, .b false, .b true, .b true, .p w.heap.size 1, .s gi 12 ad, .i ((fn:Int)), .p gi (fn*3), .p gi (fn*3), .i kf, .p w.heap.size 1, .s gi 12 ad, .p (w.heap.size+1) 2, .i ((an:Int)), .p gi (an*3), .p gi (an*3), .i ka, .i km, .b false, .b false] (fun _ _ _=>True) ?_ ?_
      .intro i hi o ho a wx Hb Hd hG K HK
       have av:=bc hG az y3;have ay:=bc hG az y4;have a5:=bc hG a0 x1;have a4:=bc hG bk f0;have bd:=bc hG az y2;have bh:=bc hG bk d0
       match i,hi with
       |0,_|3,_|4,_|5,_|9,_|10,_|11,_|12,_|13,_|15,_|17,_|19,_|21,_|24,_|28,_=>exact sP ho HK Hb Hd
       |1,_|6,_|18,_|22,_|25,_=>exact sL ho HK Hb Hd (hl:=Fo ‹_›)
       |2,_=>exact sD ho HK Hb Hd (CB.out _ hG)
       |7,_=>exact sD ho HK Hb Hd (CK.out _ hG)
       |14,_|20,_=>exact sL ho HK Hb Hd (hl:=GF ‹_›)
       |16,_|23,_=>exact sI ho HK Hb Hd (hr:=by clear Hd Hb HK;go_simp)
       |8,_=>clear av ay a5 a4 bd bh;obtain rfl:=yH ho;have d7:(a.tmps[38]?.getD undef)= .int .i64 1:=BT Hd 7;have d4:(a.tmps[35]?.getD undef)= .bool false:=BT Hd 4;clear Hd Hb;refine AX.yes rfl rfl d4 ?_;go_simp;exact HK.out _ _ rfl (yF _ _)
       |26,_=>clear av ay a5 a4 bd bh;obtain rfl:=yH ho;have h7:(a.tmps[56]?.getD undef)= .int .i64 ka:=BT Hd 25;have cC:(a.tmps[43]?.getD undef)= .bool true:=BT Hd 12;clear Hd Hb;refine AX.yes rfl rfl cC ?_;go_simp;exact HK.out _ _ (by show yf .i64 (wR.wrap (ka - 1))= .int .i64 km;rw[xy _ (by omega),fV.out]) (yF _ _)
       |27,_=>clear av ay a5 a4 bd bh;obtain rfl:=yH ho;have h8:(a.tmps[49]?.getD undef)= .int .i64 kf:=BT Hd 18;have hZ:(a.tmps[57]?.getD undef)= .int .i64 km:=BT Hd 26;have cC:(a.tmps[43]?.getD undef)= .bool true:=BT Hd 12;clear Hd Hb;refine AX.yes rfl rfl cC ?_;go_simp;exact HK.out _ _ rfl (yF _ _)
       |_+29,hq=>omega
      .intro vs wx hR hG
       have a6:(vs 10)= .bool false:=BZ hR 10;have cf:(vs 28)= .bool false:=BZ hR 28;clear hR;simp only[Al,AV,yE,yB,yA,yy,a6,cf];simp;clear a6 cf;clear x0 x1 x2 x3 y0 y1 y2 y3 y4 y5 d0 f0;go_wp2_with fail;go_meet
       case rel=>exact⟨by rw[E.out];rfl,S2.out.below hG⟩
     .have E:=AA (show okb=false by rw[ba.out,be];simp[Dg,br.out,<-bu,hka,hkf];omega)
      have go:(kf !=km)=true:=by simp[hq]
      clear be EK bu dH hka hkf hkm hq;refine Aa 29 167 [.p (w.heap.size+1) 3, .i b, .b true, .b false, .b false, .p (w.heap.size+1) 4, .i c, .i 1, .b false, .b false, .b false, .b true, .b true, .p w.heap.size 1, .s gi 12 ad, .i ((fn:Int)), .p gi (fn*3), .p gi (fn*3), .i kf, .p w.heap.size 1, .s gi 12 ad, .p (w.heap.size+1) 2, .i ((an:Int)), .p gi (an*3), .p gi (an*3), .i ka, .i km, .b true, .b true] (fun _ _ _=>True) ?_ ?_
      .intro i hi o ho a wx Hb Hd hG K HK
       have av:=bc hG az y3;have ay:=bc hG az y4;have a5:=bc hG a0 x1;have a4:=bc hG bk f0;have bd:=bc hG az y2;have bh:=bc hG bk d0
       match i,hi with
       |0,_|3,_|4,_|5,_|9,_|10,_|11,_|12,_|13,_|15,_|17,_|19,_|21,_|24,_|28,_=>exact sP ho HK Hb Hd
       |1,_|6,_|18,_|22,_|25,_=>exact sL ho HK Hb Hd (hl:=Fo ‹_›)
       |2,_=>exact sD ho HK Hb Hd (CB.out _ hG)
       |7,_=>exact sD ho HK Hb Hd (CK.out _ hG)
       |14,_|20,_=>exact sL ho HK Hb Hd (hl:=GF ‹_›)
       |16,_|23,_=>exact sI ho HK Hb Hd (hr:=by clear Hd Hb HK;go_simp)
       |8,_=>clear av ay a5 a4 bd bh;obtain rfl:=yH ho;have d7:(a.tmps[38]?.getD undef)= .int .i64 1:=BT Hd 7;have d4:(a.tmps[35]?.getD undef)= .bool false:=BT Hd 4;clear Hd Hb;refine AX.yes rfl rfl d4 ?_;go_simp;exact HK.out _ _ rfl (yF _ _)
       |26,_=>clear av ay a5 a4 bd bh;obtain rfl:=yH ho;have h7:(a.tmps[56]?.getD undef)= .int .i64 ka:=BT Hd 25;have cC:(a.tmps[43]?.getD undef)= .bool true:=BT Hd 12;clear Hd Hb;refine AX.yes rfl rfl cC ?_;go_simp;exact HK.out _ _ (by show yf .i64 (wR.wrap (ka - 1))= .int .i64 km;rw[xy _ (by omega),fV.out]) (yF _ _)
       |27,_=>clear av ay a5 a4 bd bh;obtain rfl:=yH ho;have h8:(a.tmps[49]?.getD undef)= .int .i64 kf:=BT Hd 18;have hZ:(a.tmps[57]?.getD undef)= .int .i64 km:=BT Hd 26;have cC:(a.tmps[43]?.getD undef)= .bool true:=BT Hd 12;clear Hd Hb;refine AX.yes rfl rfl cC ?_;go_simp;exact HK.out _ _ rfl (yF _ _)
       |_+29,hq=>omega
      .intro vs wx hR hG
       have a6:(vs 10)= .bool false:=BZ hR 10;have cf:(vs 28)= .bool true:=BZ hR 28;clear hR;simp only[Al,AV,yE,yB,yA,yy,a6,cf];simp;clear a6 cf;clear x0 x1 x2 x3 y0 y1 y2 y3 y4 y5 d0 f0;go_wp2_with fail;go_meet
       case rel=>exact⟨by rw[E.out];rfl,S2.out.below hG⟩
  case rest=>
  obtain⟨ep,S3⟩:=hcut;subst ep;replace S3:=AA S3;clear x0 x1 x2 x3 y0 y1 y2 y3 y4 y5 d0 f0 CB CK S2 az a0 bk;obtain⟨w3,rfl⟩:∃w3:World,w3=wc:=⟨_,rfl⟩
  cases okb
  .have bs:=AA (show Ad k ⟨6,(en:Int),(an:Int),b,c,nm⟩=(k,0,3) by
    rw[dW.out];unfold Y8;rw[if_pos];have:=ba.out;cases h1:Bd b 0 3
    .exact .inl rfl
    .refine .inr ?_
     rw[h1,Bool.true_and] at this;exact this.symm)
   clear dW;obtain⟨⟨x0,x1,x2,x3⟩,⟨⟨z0,z1,z2,z3⟩,bo⟩,HE,HR⟩:=S3.out.yJ a2 (v:=0) (code:=3) (bs.out) (by decide);go_wp2_with ((try simp only[xS,Exit.then]);with_reducible refine yp ?_ rfl HR.out;obtain⟨E0,E1,E2,E3⟩:=HE.out;simp[results,vQ,go_sem,E0,E1,E2,E3])
  obtain⟨be,hfit⟩:Bd b 0 3=true/\Dg k ⟨6,(en:Int),(an:Int),b,c,nm⟩=true:=by
   have:=ba.out.symm
   rwa [yt] at this
  have eU:=AA (VB (k:=k) (YO hfit eP.out));have bs:=AA (show Ad k ⟨6,(en:Int),(an:Int),b,c,nm⟩=_ from dW.out.trans (by unfold Y8;rw[if_neg (by rw[be,hfit];simp)]));have bb:=Ac.1 be;obtain⟨bn,rfl⟩:∃n:Nat,b=(n:Int):=⟨b.toNat,by omega⟩
  have dM:bn<4:=by omega
  have hD:(bn:Int)<4:=by omega
  simp only[xY] at bs;clear be hfit bb dW ba;obtain⟨nd,hnd⟩:∃nd,nd=DJ k c:=⟨_,rfl⟩
  have jr:=AA hnd;obtain⟨us,hus⟩:∃us,us=FY k an:=⟨_,rfl⟩
  have ij:=AA hus;have i6:us.length<=3:=by rw[hus];exact Xu
  have il:=AA (show ∀e,e∈us->e<3 by rw[hus];exact fun e h=>Tf h);have eQ:=AA (show ∀g,g∈nd->g<k.Os.length by
   rw[hnd,HK.out.len];intro g hg;unfold DJ at hg
   split at hg
   .next hgc=>
    rcases List.mem_cons.1 hg with h|h
    .rw[h];exact EH hgc
    .split at h
     .exact FD h
     .cases h
   .cases hg)
  rw[<-hnd,<-hus] at bs;rw[<-hnd] at eU;clear hnd hus;have gj:=AA (fun W (h1:Bc W (.slice (some ⟨gm,0,none⟩) 12 ar) k.mem) (h2:BU W (.slice (some ⟨gi,0,none⟩) 12 ad) k.Os)=>QZ (.slice (some ⟨gm,0,none⟩) 12 ar) (.slice (some ⟨gi,0,none⟩) 12 ad) (.slice (some ⟨ge,0,none⟩) 3 a1) (.slice ac nc cc) k c W h1 h2 dP.out HK.out.len Hc.out);obtain⟨x0,x1,x2,x3⟩:=S3.out.xs;obtain⟨y0,y1,y2,y3,y4,y5⟩:=S3.out.ys6;go_wp2_with fail;refine(gj.out _ S3.out.K.1 S3.out.K.2.1).mono ?_;rintro r w4 ⟨vb,rfl,cJ,eB⟩;rw[eU.out] at cJ;have S4:=AA (S3.out.below eB);have di:=S3.out.lts.2.1;clear x0 x1 x2 x3 y0 y1 y2 y3 y4 y5 gj eU;obtain⟨x0,x1,x2,x3⟩:=S4.out.xs;obtain⟨y0,y1,y2,y3,y4,y5⟩:=S4.out.ys6;go_wp2_with fail;refine(Sp _ _ _ _ k an _ S4.out.K HK.out).mono ?_;rintro r w5 ⟨vu,rfl,bC,bX⟩;rw[Xt HK.out (show Bb (Av k an)=true from eP.out),<-ij.out] at bC;have S5:=AA (S4.out.below bX);have OB:=AA (AG.below cJ bX);have OU:=AA bC;have ew:w.heap.size<w4.heap.size:=xZ di eB.size;obtain⟨ax,cx,rfl,_,_,_⟩:=bC.rd.open;rw[Cc] at OU ⊢;clear x0 x1 x2 x3 y0 y1 y2 y3 y4 y5 cJ bC eB bX S3 S4;go_upto_block 0 with fail;go_cut [] (fun wx=>(∀e,e∈us->BC k.Os nd (AJ k.zZ e).zV=true)/\∃a9 n9 c9,EL 79 #[.int .i64 6, .int .i64 en, .int .i64 an, .int .i64 bn, .int .i64 c, .string nm] [w.heap.size+2] lo w.heap.size (w.heap.size+1) w wx (.slice (some ⟨gm,0,none⟩) 12 ar) (.slice (some ⟨gi,0,none⟩) 12 ad) (.slice (some ⟨ge,0,none⟩) 3 a1) (.slice a9 n9 c9) {k with zY:=GZ us k.zY})
  case first=>
   go_wp2_with fail;go_loopw [13] (fun dZ wr=>∃j:Nat,j<=us.length/\dZ= .int .i64 j/\(∀e,e∈us.take j->BC k.Os nd (AJ k.zZ e).zV=true)/\AG w3.heap.size wr vb (Ay nd)/\AG w4.heap.size wr (.slice ax us.length cx) (Ay us)/\∃a9 n9 c9,EL 79 #[.int .i64 6, .int .i64 en, .int .i64 an, .int .i64 bn, .int .i64 c, .string nm] [w.heap.size+2] lo w.heap.size (w.heap.size+1) w wr (.slice (some ⟨gm,0,none⟩) 12 ar) (.slice (some ⟨gi,0,none⟩) 12 ad) (.slice (some ⟨ge,0,none⟩) 3 a1) (.slice a9 n9 c9) {k with zY:=GZ (us.take j) k.zY}) (fun dZ _=>us.length - (intOf dZ).toNat)
   case atStart=>exact⟨0,yh _,rfl,fun e he=>by simp at he,OB.out,OU.out,ac,nc,cc,S5.out⟩
   case round=>
    obtain⟨j,hj,rfl,a3,cJ,bC,a9,n9,c9,hS⟩:=hrel;have cG:=AA a3;have S:=AA hS;have f9:=AA cJ;have iI:=AA bC;clear a3 hS cJ OB OU
    by_cases bK:j<us.length
    .obtain⟨jq,jk,ej,_,_,H0⟩:=bC.rd.open
     rw[Cc] at ej;simp only[xD] at ej;obtain⟨rfl,_,rfl⟩:=ej;obtain⟨bx,bz,rfl,DX⟩:=H0.at (k:=j) (by rw[Cc];exact bK);rw[Pb bK] at DX;obtain⟨un,hun⟩:∃u,u=us.getD j 0:=⟨_,rfl⟩
     rw[<-hun] at DX;have fY:=AA hun;have cw:un∈us:=by rw[hun];exact yg (A1 bK)
     have dc:=il.out un cw;have eR:=AA cw;clear hun cw H0 bC;have cy:(j:Int)<us.length:=by omega
     have gS:(un:Int)<3:=by omega
     obtain⟨x0,x1,x2,x3⟩:=S.out.xs;obtain⟨y0,y1,y2,y3,y4,y5⟩:=S.out.ys6;obtain⟨az,a0,_,_⟩:=S.out.lts;have g5:=S.out.yW;have dq:bx<wr.heap.size:=yC _ _ DX;obtain⟨ua,uc,D0,_,R⟩:=S.out.env (j:=un) (by show un<k.zZ.length;rw[HK.out.zP];exact dc);have RI:=S.out.K.2.1;have RB:=f9.out.rd;have CA:=AA (fun W (hW:Below wr.heap.size wr W)=>Fz _ vb _ k.Os nd (AJ k.zZ un).zV W (BJ.below RI hW) (Ax.below RB hW) (BJ.below R hW) eQ.out (Cb (Aw HK.out).2.1) (H7 HK.out dc));generalize hbbq:BC k.Os nd (AJ k.zZ un).zV=bq at CA;have fW:=AA hbbq;clear hbbq RI R RB;go_wp2_with fail;refine Aa 12 167 [.p w.heap.size 1, .s gi 12 ad, .v vb, .p w.heap.size 2, .s ge 3 a1, .v (.slice (some ⟨bx,bz,none⟩) us.length cx), .i ((j:Int)), .p bx (bz+j), .i ((un:Int)), .p ge (un*2), .p ge (un*2), .v (.slice ua (AJ k.zZ un).zV.length uc)] (fun _ _ _=>True) ?_ ?_
     .intro i hi o ho a wx Hb Hd hG K HK
      have av:=bc hG a0 x1;have ay:=bc hG a0 x2;have a5:=bc hG dq DX;have a4:=bc hG g5 D0
      match i,hi with
      |0,_|2,_|3,_|5,_|6,_|10,_=>exact sP ho HK Hb Hd
      |1,_=>exact sL ho HK Hb Hd (hl:=GF ‹_›)
      |4,_=>exact sL ho HK Hb Hd (hl:=NX ‹_›)
      |7,_|9,_=>exact sI ho HK Hb Hd (hr:=by clear Hd Hb HK;go_simp)
      |8,_=>exact sL ho HK Hb Hd (hl:=Fo ‹_›)
      |11,_=>exact sL ho HK Hb Hd (hl:=K9 ‹_›)
     .intro vs wx hR hG
      have q1:(vs 1)= .slice (some ⟨gi,0,none⟩) 12 ad:=BZ hR 1;have q2:(vs 2)=vb:=BZ hR 2;have cZ:(vs 11)= .slice ua (AJ k.zZ un).zV.length uc:=BZ hR 11;clear hR;simp only[Al,AV,yE,yB,yA,yy,q1,q2,cZ];simp;clear q1 q2 cZ;have S6:=AA (S.out.below hG);have dQ:=AA hG;clear x0 x1 x2 x3 y0 y1 y2 y3 y4 y5 D0 hG;go_wp2_with fail;refine(CA.out _ dQ.out).mono ?_;rintro r w7 ⟨rfl,cN⟩;have S7:=AA (S6.out.below cN);have eW:=AA (dQ.out.trans (cN.mono dQ.out.size));clear cN CA dQ S6;cases bq
      .have cW:=AA (show Ad k ⟨6,(en:Int),(an:Int),(bn:Int),c,nm⟩=(k,0,1) by rw[bs.out,if_pos (List.all_eq_false.2 ⟨un,eR.out,by rw[fW.out];decide⟩)])
       obtain⟨⟨x0,x1,x2,x3⟩,⟨⟨z0,z1,z2,z3⟩,bo⟩,HE,HR⟩:=S7.out.yJ a2 (v:=0) (code:=1) (cW.out) (by decide);go_wp2_with ((try simp only[xS,Exit.then]);with_reducible refine yp ?_ rfl HR.out;obtain⟨E0,E1,E2,E3⟩:=HE.out;simp[results,vQ,go_sem,E0,E1,E2,E3])
      .have cA:=(eW.out.cell dq).trans DX
       have dp:bx<w7.heap.size:=yC _ _ cA;clear DX dq;have DX:=cA;have dq:=dp;clear cA dp;obtain⟨x0,x1,x2,x3⟩:=S7.out.xs;obtain⟨az,a0,_,_⟩:=S7.out.lts;have CD:=AA (fun W (h:Dt W (.slice a9 n9 c9) (GZ (us.take j) k.zY))=>PT (.slice a9 n9 c9) (GZ (us.take j) k.zY) (un:Int) W h (by have:=Q8 (us.take j) (Aw HK.out).2.2;simp only[BQ,yt,decide_eq_true_eq] at this;omega));go_wp2_with fail;refine Aa 6 167 [.p w.heap.size 3, .v (.slice a9 n9 c9), .v (.slice (some ⟨bx,bz,none⟩) us.length cx), .i ((j:Int)), .p bx (bz+j), .i ((un:Int))] (fun _ _ _=>True) ?_ ?_
       .intro i hi o ho a wx Hb Hd hG K HK
        have av:=bc hG a0 x3;have ay:=bc hG dq DX
        match i,hi with
        |0,_|2,_|3,_=>exact sP ho HK Hb Hd
        |1,_=>exact sL ho HK Hb Hd (hl:=Zc ‹_›)
        |4,_=>exact sI ho HK Hb Hd (hr:=by clear Hd Hb HK;go_simp)
        |5,_=>exact sL ho HK Hb Hd (hl:=Fo ‹_›)
       .intro vs wx hR hG
        have q1:(vs 1)= .slice a9 n9 c9:=BZ hR 1;have q5:(vs 5)= .int .i64 un:=BZ hR 5;clear hR;simp only[Al,AV,yE,yB,yA,yy,q1,q5];simp;clear q1 q5;have S8:=AA (S7.out.below hG);have gh:=AA (eW.out.trans (hG.mono eW.out.size));have gl:=S8.out.xs.2.2.2;clear x0 x1 x2 x3 hG DX;go_wp2_with fail;refine(CD.out _ S8.out.K.2.2.2).mono ?_;rintro r w9 ⟨v',rfl,hO,cn⟩;have T2:=AA (S8.out.zY cn hO);have eV:=gh.out.trans (cn.mono gh.out.size);have fT:=AA (Nd (g:=w.heap.size) (j:=3) (u:=v') (AG.below f9.out eV) di);have fS:=AA (Nd (g:=w.heap.size) (j:=3) (u:=v') (AG.below iI.out eV) ew);have ji:=AK (S8.out.below cn).yK.1;have iV:=(S8.out.below cn).xs.2.2.2;clear gl eV cn;obtain⟨a8,c8,e9,_,_⟩:=hO.rd.shape;generalize List.length _=n8 at e9;subst e9;clear hO;generalize hW10:w9.setCell _ _=W10 at T2 fT fS;go_wp2_with fail;go_roundw
        case rel=>
         refine⟨j+1,by omega,by go_num,fun e he=>?_,fT.out,fS.out,a8,n8,c8,?_⟩
         .rw[Cw (A1 (d:=0) bK),List.mem_append,List.mem_singleton] at he
          rcases he with he|rfl
          .exact cG.out e he
          .rw[<-fY.out];exact fW.out
         .rw[Nr bK,<-fY.out];exact T2.out
        case measure=>simp[intOf];omega
    .obtain rfl:j=us.length:=by omega
     rw[List.take_length] at cG S;have cy:¬(us.length:Int)<us.length:=by omega
     clear bC;go_wp2_with fail;go_meet
     case rel=>exact⟨cG.out,_,_,_,S.out⟩
  case rest=>
  obtain⟨a3,a9,n9,c9,hS⟩:=hcut;have S:=AA hS;have cW:=AA (bs.out.trans (if_neg (by rw[Bool.not_eq_false,List.all_eq_true];exact a3)));obtain⟨cq,rfl⟩:∃cq:World,cq=wc:=⟨_,rfl⟩
  clear a3 hS bs OB OU S5;obtain⟨mm,bD⟩:∃mm,mm=(sm&&!Bv (AJ k.zZ en).zV (zU k.Os (A8 c)).g):=⟨_,rfl⟩
  have cS:=AA bD;clear bD;go_wp2_with fail;go_cut [112] (fun d9 wx=>d9= .bool mm/\EL 79 #[.int .i64 6, .int .i64 en, .int .i64 an, .int .i64 bn, .int .i64 c, .string nm] [w.heap.size+2] lo w.heap.size (w.heap.size+1) w wx (.slice (some ⟨gm,0,none⟩) 12 ar) (.slice (some ⟨gi,0,none⟩) 12 ad) (.slice (some ⟨ge,0,none⟩) 3 a1) (.slice a9 n9 c9) {k with zY:=GZ us k.zY})
  case first=>
   obtain⟨x0,x1,x2,x3⟩:=S.out.xs;obtain⟨y0,y1,y2,y3,y4,y5⟩:=S.out.ys6;obtain⟨az,a0,_,_⟩:=S.out.lts;have bk:=S.out.zo;obtain⟨_,f1,_⟩:=S.out.zU (f:=fn) (by show fn<k.Os.length;rw[HK.out.len];exact dJ)
   try simp only at f1
   cases sm
   .clear f1
    refine Aa 13 167 [.b false, .b false, .u, .u, .u, .u, .u, .u, .u, .u, .u, .u, .u] (fun _ _ _=>True) ?_ ?_
    .intro i hi o ho a wx Hb Hd hG K HK
     match i,hi with
     |0,_|1,_=>exact sP ho HK Hb Hd
     |2,_|3,_|4,_|5,_|6,_|7,_|8,_|9,_|10,_|11,_|12,_=>exact sB ho HK Hd
    .intro vs wx hR hG
     have q1:(vs 1)= .bool false:=BZ hR 1;clear hR;simp only[Al,AV,yE,yB,yA,yy,q1];simp;clear q1;clear x0 x1 x2 x3 y0 y1 y2 y3 y4 y5;go_wp2_with fail;go_meet
     case rel=>exact⟨by rw[cS.out];rfl,S.out.below hG⟩
   .have bu:=eT.out rfl
    have dz:=cS.out;have RE:=S.out.K.2.2.1;have CM:=AA (fun W (hW:Below cq.heap.size cq W)=>JP (.slice (some ⟨gm,0,none⟩) 12 ar) (.slice (some ⟨gi,0,none⟩) 12 ad) (.slice (some ⟨ge,0,none⟩) 3 a1) (.slice a9 n9 c9) k en (zU k.Os fn).g W (RE.below hW) HK.out ha (Cb (Aw HK.out).2.1 _ (yg (Ci (by rw[HK.out.len];exact dJ)))));rw[<-bu] at dz;generalize(zU k.Os fn).g=fg at f1 CM dz;clear RE bu;generalize Bv (AJ k.zZ en).zV fg=my at CM dz;have HM:=AA dz;clear dz;cases my
    .skip
     refine Aa 13 167 [.b true, .b true, .a #[.slice (some ⟨gm,0,none⟩) 12 ar, .slice (some ⟨gi,0,none⟩) 12 ad, .slice (some ⟨ge,0,none⟩) 3 a1, .slice a9 n9 c9], .p (w.heap.size+1) 1, .i ((en:Int)), .p w.heap.size 1, .s gi 12 ad, .i ((fn:Int)), .p gi (fn*3), .p gi (fn*3+1), .t fg, .b false, .b true] (fun _ _ _=>True) ?_ ?_
     .intro i hi o ho a wx Hb Hd hG K HK
      have av:=bc hG a0 x0;have ay:=bc hG a0 x1;have a5:=bc hG a0 x2;have a4:=bc hG a0 x3;have bd:=bc hG az y1;have bh:=bc hG bk f1
      match i,hi with
      |0,_|1,_|3,_|5,_|7,_|9,_|12,_=>exact sP ho HK Hb Hd
      |2,_=>exact sL ho HK Hb Hd (hl:=NZ ‹_› ‹_› ‹_› ‹_›)
      |4,_=>exact sL ho HK Hb Hd (hl:=Fo ‹_›)
      |6,_=>exact sL ho HK Hb Hd (hl:=GF ‹_›)
      |8,_=>exact sI ho HK Hb Hd (hr:=by clear Hd Hb HK;go_simp)
      |10,_=>exact sL ho HK Hb Hd (hl:=Yf ‹_›)
      |11,_=>exact sD ho HK Hb Hd (CM.out _ hG)
     .intro vs wx hR hG
      have q1:(vs 1)= .bool true:=BZ hR 1;have cY:(vs 12)= .bool true:=BZ hR 12;clear hR;simp only[Al,AV,yE,yB,yA,yy,q1,cY];simp;clear q1 cY;clear x0 x1 x2 x3 y0 y1 y2 y3 y4 y5 f1;go_wp2_with fail;go_meet
      case rel=>exact⟨by rw[HM.out];rfl,S.out.below hG⟩
    .skip
     refine Aa 13 167 [.b true, .b true, .a #[.slice (some ⟨gm,0,none⟩) 12 ar, .slice (some ⟨gi,0,none⟩) 12 ad, .slice (some ⟨ge,0,none⟩) 3 a1, .slice a9 n9 c9], .p (w.heap.size+1) 1, .i ((en:Int)), .p w.heap.size 1, .s gi 12 ad, .i ((fn:Int)), .p gi (fn*3), .p gi (fn*3+1), .t fg, .b true, .b false] (fun _ _ _=>True) ?_ ?_
     .intro i hi o ho a wx Hb Hd hG K HK
      have av:=bc hG a0 x0;have ay:=bc hG a0 x1;have a5:=bc hG a0 x2;have a4:=bc hG a0 x3;have bd:=bc hG az y1;have bh:=bc hG bk f1
      match i,hi with
      |0,_|1,_|3,_|5,_|7,_|9,_|12,_=>exact sP ho HK Hb Hd
      |2,_=>exact sL ho HK Hb Hd (hl:=NZ ‹_› ‹_› ‹_› ‹_›)
      |4,_=>exact sL ho HK Hb Hd (hl:=Fo ‹_›)
      |6,_=>exact sL ho HK Hb Hd (hl:=GF ‹_›)
      |8,_=>exact sI ho HK Hb Hd (hr:=by clear Hd Hb HK;go_simp)
      |10,_=>exact sL ho HK Hb Hd (hl:=Yf ‹_›)
      |11,_=>exact sD ho HK Hb Hd (CM.out _ hG)
     .intro vs wx hR hG
      have q1:(vs 1)= .bool true:=BZ hR 1;have cY:(vs 12)= .bool false:=BZ hR 12;clear hR;simp only[Al,AV,yE,yB,yA,yy,q1,cY];simp;clear q1 cY;clear x0 x1 x2 x3 y0 y1 y2 y3 y4 y5 f1;go_wp2_with fail;go_meet
      case rel=>exact⟨by rw[HM.out];rfl,S.out.below hG⟩
  case rest=>
  obtain⟨dd,bZ⟩:=hcut;subst dd;replace bZ:=AA bZ;clear S;obtain⟨cd,rfl⟩:∃cd:World,cd=wc:=⟨_,rfl⟩
  cases mm
  rotate_left
  .have dU:=AA (show Ad k ⟨6,(en:Int),(an:Int),(bn:Int),c,nm⟩=(k,0,1) by
    have bD:=cS.out.symm;rw[yt,Bool.not_eq_true'] at bD;exact cW.out.trans (if_pos ⟨br.out.trans bD.1,bD.2⟩))
   clear cS cW;obtain⟨⟨x0,x1,x2,x3⟩,⟨⟨z0,z1,z2,z3⟩,bo⟩,HE,HR⟩:=bZ.out.yJ a2 (v:=0) (code:=1) (dU.out) (by decide);go_wp2_with ((try simp only[xS,Exit.then]);with_reducible refine yp ?_ rfl HR.out;obtain⟨E0,E1,E2,E3⟩:=HE.out;simp[results,vQ,go_sem,E0,E1,E2,E3])
  have fA:¬(Bf c=true/\FV k (en:Int) (zU k.Os (A8 c)).g=false):=by rintro⟨h1,h2⟩;have h3:sm=true:=br.out.symm.trans h1;have h4:Bv (AJ k.zZ en).zV (zU k.Os (A8 c)).g=false:=h2;have bD:=cS.out;rw[h3,h4] at bD;cases bD
  have dU:=AA (cW.out.trans (if_neg fA));clear cS cW fA;obtain⟨wo,hwo⟩:∃wo,wo=As k.mem an bn:=⟨_,rfl⟩
  have fp:=HK.out.word (f:=an) (i:=bn) ds dM;rw[<-hwo] at fp dU;obtain⟨fo,cX,fI,g7,dn⟩:=PD wo;have eY:=fun W (hW:Below cd.heap.size cd W)=>BM (Cx wo W (by omega))
  rw[fI] at eY;have CO:=AA eY;have iP:=AA dn;generalize hso:Bf wo=so at*;have fU:=AA hso;have g6:(fo:Int)<12:=by omega
  obtain⟨x0,x1,x2,x3⟩:=bZ.out.xs;obtain⟨y0,y1,y2,y3,y4,y5⟩:=bZ.out.ys6;obtain⟨az,a0,_,_⟩:=bZ.out.lts;obtain⟨gw,bY,Dw,cL,fE,Dj,_⟩:=bZ.out.mrow dP.out (f:=an) ds;have Dv:=Dj bn dM
  try simp only at Dv
  rw[<-hwo] at Dv;have dl:gm<cd.heap.size:=yC _ _ Dw;have js:=AA hwo;clear Dj eY fI dn hso fp hwo;go_wp2_with fail;refine Aa 17 167 [.p w.heap.size 0, .s gm 12 ar, .p (w.heap.size+1) 2, .i ((an:Int)), .p gm an, .s gw 4 bY, .p (w.heap.size+1) 3, .i ((bn:Int)), .p gw bn, .i wo, .v (.tuple #[.int .i64 fo, .bool cX, .bool so]), .v (.tuple #[.int .i64 fo, .bool cX, .bool so]), .i ((fo:Int)), .b cX, .b so, .i ((fo:Int)), .b cX] (fun _ _ _=>True) ?_ ?_
  .intro i hi o ho a wx Hb Hd hG K HK
   have av:=bc hG a0 x0;have ay:=bc hG az y2;have a5:=bc hG dl Dw;have a4:=bc hG az y3;have bd:=bc hG cL Dv
   match i,hi with
   |0,_|2,_|6,_|11,_|12,_|13,_|14,_|15,_|16,_=>exact sP ho HK Hb Hd
   |1,_=>exact sL ho HK Hb Hd (hl:=GM ‹_›)
   |3,_|7,_|9,_=>exact sL ho HK Hb Hd (hl:=Fo ‹_›)
   |4,_|8,_=>exact sI ho HK Hb Hd (hr:=by clear Hd Hb HK;go_simp)
   |5,_=>exact sL ho HK Hb Hd (hl:=Jx ‹_›)
   |10,_=>exact sD ho HK Hb Hd (CO.out _ hG)
   |_+17,hq=>omega
  .intro vs wx hR hG
   have fj:(vs 14)= .bool so:=BZ hR 14;have fi:(vs 15)= .int .i64 fo:=BZ hR 15;have fh:(vs 16)= .bool cX:=BZ hR 16;clear hR;simp only[Al,AV,yE,yB,yA,yy,fj,fi,fh];simp;clear fj fi fh;have cE:=AA (bZ.out.below hG);clear x0 x1 x2 x3 y0 y1 y2 y3 y4 y5 Dw Dv hG CO dl cL fE bZ az a0;obtain⟨w12,rfl⟩:∃w12:World,w12=wx:=⟨_,rfl⟩
   go_upto_if 129 with fail;go_cut [] (fun wx=>EL 79 #[.int .i64 6, .int .i64 en, .int .i64 an, .int .i64 bn, .int .i64 c, .string nm] [w.heap.size+2] lo w.heap.size (w.heap.size+1) w wx (.slice (some ⟨gm,0,none⟩) 12 ar) (.slice (some ⟨gi,0,none⟩) 12 ad) (.slice (some ⟨ge,0,none⟩) 3 a1) (.slice a9 n9 c9) {k with zY:=GZ us k.zY,Os:=A3 k.Os wo (-1)})
   case first=>
    cases so
    .have E:=AA (Pr (Os:=k.Os) (n:= -1) fU.out)
     go_wp2_with fail;go_meet
     case rel=>rw[E.out];exact cE.out
    .have E:=AA (Ro (Os:=k.Os) (n:= -1) fU.out (iP.out rfl))
     obtain⟨x0,x1,x2,x3⟩:=cE.out.xs;obtain⟨az,a0,_,_⟩:=cE.out.lts;have bk:=cE.out.zo;obtain⟨_,_,d2⟩:=cE.out.zU (f:=fo) (by show fo<(k.Os).length;have:=HK.out.len;(try simp only[Cd]);omega)
     try simp only at d2
     have ct:=HK.out.yR g7;generalize hrv:(zU (k.Os) fo).r=rv at d2 ct;obtain⟨nr,hnr⟩:∃nr,rv - 1=nr:=⟨_,rfl⟩
     have dw:=AA hnr;clear hnr;have eC:(fo:Int)<12:=by omega
     go_wp2_with fail;refine Aa 10 167 [.p w.heap.size 1, .s gi 12 ad, .i ((fo:Int)), .p w.heap.size 1, .s gi 12 ad, .i ((fo:Int)), .p gi (fo*3), .p gi (fo*3+2), .i rv, .i nr] (fun _ _ _=>True) ?_ ?_
     .intro i hi o ho a wx Hb Hd hG K HK
      have av:=bc hG a0 x1;have ay:=bc hG bk d2
      match i,hi with
      |0,_|2,_|3,_|5,_|7,_=>exact sP ho HK Hb Hd
      |1,_|4,_=>exact sL ho HK Hb Hd (hl:=GF ‹_›)
      |6,_=>exact sI ho HK Hb Hd (hr:=by clear Hd Hb HK;go_simp)
      |8,_=>exact sL ho HK Hb Hd (hl:=Fo ‹_›)
      |9,_=>clear av ay;obtain rfl:=yH ho;have d8:(a.tmps[138]?.getD undef)= .int .i64 rv:=BT Hd 8;clear Hd Hb;refine yG ?_;go_simp;exact HK.out _ _ (by show yf .i64 (wR.wrap (rv - 1))= .int .i64 nr;rw[xy _ (by omega),dw.out]) (yF _ _)
     .intro vs wx hR hG
      have q1:(vs 1)= .slice (some ⟨gi,0,none⟩) 12 ad:=BZ hR 1;have q2:(vs 2)= .int .i64 fo:=BZ hR 2;have q9:(vs 9)= .int .i64 nr:=BZ hR 9;clear hR;simp only[Al,AV,yE,yB,yA,yy,q1,q2,q9];simp;clear q1 q2 q9;have SB:=AA (cE.out.below hG);obtain⟨_,_,du⟩:=SB.out.zU (f:=fo) (by show fo<(k.Os).length;have:=HK.out.len;(try simp only[Cd]);omega);have Fr:=SB.out.fzi (fo*3+2);have NN:=SB.out.info (by show 12=(k.Os).length;have:=HK.out.len;(try simp only[Cd]);omega) (f:=fo) (by show fo<(k.Os).length;have:=HK.out.len;(try simp only[Cd]);omega) (-1)
      try simp only at NN du
      rw[hrv] at NN du;rw[show rv+ -1=nr by have:=dw.out;omega] at NN;replace NN:=AA NN;generalize hW9:wx.setCell _ _=W9 at NN;clear x0 x1 x2 x3 d2 hG SB;go_wp2_with fail;go_meet
      case rel=>rw[E.out];exact NN.out
   case rest=>
   replace hcut:=AA hcut;have cD:=hcut;clear hcut cE;obtain⟨w12,rfl⟩:∃w12:World,w12=wc:=⟨_,rfl⟩
   go_upto_if 142 with fail;go_cut [] (fun wx=>EL 79 #[.int .i64 6, .int .i64 en, .int .i64 an, .int .i64 bn, .int .i64 c, .string nm] [w.heap.size+2] lo w.heap.size (w.heap.size+1) w wx (.slice (some ⟨gm,0,none⟩) 12 ar) (.slice (some ⟨gi,0,none⟩) 12 ad) (.slice (some ⟨ge,0,none⟩) 3 a1) (.slice a9 n9 c9) {k with zY:=GZ us k.zY,Os:=A3 (A3 k.Os wo (-1)) c 1})
   case first=>
    cases sm
    .have E:=AA (Pr (Os:=A3 k.Os wo (-1)) (n:=1) br.out)
     go_wp2_with fail;go_meet
     case rel=>rw[E.out];exact cD.out
    .have E:=AA (Ro (Os:=A3 k.Os wo (-1)) (n:=1) br.out (eT.out rfl))
     have SR:=AA (JI.refer (MK (Aw HK.out).2.1) HK.out.len (n:= -1) (x:=wo) (.inr rfl));obtain⟨x0,x1,x2,x3⟩:=cD.out.xs;obtain⟨az,a0,_,_⟩:=cD.out.lts;have bk:=cD.out.zo;obtain⟨_,_,d2⟩:=cD.out.zU (f:=fn) (by show fn<(A3 k.Os wo (-1)).length;have:=HK.out.len;(try simp only[Cd]);omega)
     try simp only at d2
     have ct:=SR.out fn (by simp only[Cd];rw[HK.out.len];exact dJ);generalize hrv:(zU (A3 k.Os wo (-1)) fn).r=rv at d2 ct;obtain⟨nr,hnr⟩:∃nr,rv+1=nr:=⟨_,rfl⟩
     have dw:=AA hnr;clear hnr;have eC:(fn:Int)<12:=by omega
     go_wp2_with fail;refine Aa 10 167 [.p w.heap.size 1, .s gi 12 ad, .i ((fn:Int)), .p w.heap.size 1, .s gi 12 ad, .i ((fn:Int)), .p gi (fn*3), .p gi (fn*3+2), .i rv, .i nr] (fun _ _ _=>True) ?_ ?_
     .intro i hi o ho a wx Hb Hd hG K HK
      have av:=bc hG a0 x1;have ay:=bc hG bk d2
      match i,hi with
      |0,_|2,_|3,_|5,_|7,_=>exact sP ho HK Hb Hd
      |1,_|4,_=>exact sL ho HK Hb Hd (hl:=GF ‹_›)
      |6,_=>exact sI ho HK Hb Hd (hr:=by clear Hd Hb HK;go_simp)
      |8,_=>exact sL ho HK Hb Hd (hl:=Fo ‹_›)
      |9,_=>clear av ay;obtain rfl:=yH ho;have d8:(a.tmps[151]?.getD undef)= .int .i64 rv:=BT Hd 8;clear Hd Hb;refine yG ?_;go_simp;exact HK.out _ _ (by show yf .i64 (wR.wrap (rv+1))= .int .i64 nr;rw[xy _ (by omega),dw.out]) (yF _ _)
     .intro vs wx hR hG
      have q1:(vs 1)= .slice (some ⟨gi,0,none⟩) 12 ad:=BZ hR 1;have q2:(vs 2)= .int .i64 fn:=BZ hR 2;have q9:(vs 9)= .int .i64 nr:=BZ hR 9;clear hR;simp only[Al,AV,yE,yB,yA,yy,q1,q2,q9];simp;clear q1 q2 q9;have SB:=AA (cD.out.below hG);obtain⟨_,_,du⟩:=SB.out.zU (f:=fn) (by show fn<(A3 k.Os wo (-1)).length;have:=HK.out.len;(try simp only[Cd]);omega);have Fr:=SB.out.fzi (fn*3+2);have NN:=SB.out.info (by show 12=(A3 k.Os wo (-1)).length;have:=HK.out.len;(try simp only[Cd]);omega) (f:=fn) (by show fn<(A3 k.Os wo (-1)).length;have:=HK.out.len;(try simp only[Cd]);omega) (1)
      try simp only at NN du
      rw[hrv] at NN du;rw[show rv+1=nr by have:=dw.out;omega] at NN;replace NN:=AA NN;generalize hW9:wx.setCell _ _=W9 at NN;clear x0 x1 x2 x3 d2 hG SB;go_wp2_with fail;go_meet
      case rel=>rw[E.out];exact NN.out
   case rest=>
   replace hcut:=AA hcut;have cR:=hcut;clear hcut cD;obtain⟨w13,rfl⟩:∃w13:World,w13=wc:=⟨_,rfl⟩
   obtain⟨x0,x1,x2,x3⟩:=cR.out.xs;obtain⟨y0,y1,y2,y3,y4,y5⟩:=cR.out.ys6;obtain⟨az,a0,_,_⟩:=cR.out.lts;obtain⟨gw,bY,Dw,cL,fE,_⟩:=cR.out.mrow dP.out (f:=an) ds;have dl:gm<w13.heap.size:=yC _ _ Dw;go_wp2_with fail;refine Aa 10 167 [.p w.heap.size 0, .s gm 12 ar, .p (w.heap.size+1) 2, .i ((an:Int)), .p gm an, .s gw 4 bY, .p (w.heap.size+1) 3, .i ((bn:Int)), .p (w.heap.size+1) 4, .i c] (fun _ _ _=>True) ?_ ?_
   .intro i hi o ho a wx Hb Hd hG K HK
    have av:=bc hG a0 x0;have ay:=bc hG az y2;have a5:=bc hG dl Dw;have a4:=bc hG az y3;have bd:=bc hG az y4
    match i,hi with
    |0,_|2,_|6,_|8,_=>exact sP ho HK Hb Hd
    |1,_=>exact sL ho HK Hb Hd (hl:=GM ‹_›)
    |3,_|7,_|9,_=>exact sL ho HK Hb Hd (hl:=Fo ‹_›)
    |4,_=>exact sI ho HK Hb Hd (hr:=by clear Hd Hb HK;go_simp)
    |5,_=>exact sL ho HK Hb Hd (hl:=Jx ‹_›)
   .intro vs wx hR hG
    have q5:(vs 5)= .slice (some ⟨gw,0,none⟩) 4 bY:=BZ hR 5;have q7:(vs 7)= .int .i64 bn:=BZ hR 7;have q9:(vs 9)= .int .i64 c:=BZ hR 9;clear hR;simp only[Al,AV,yE,yB,yA,yy,q5,q7,q9];simp;clear q5 q7 q9;have ih:=AA (cR.out.below hG);obtain⟨jh,fP,D2,_,_,hC,Fr,_,_,_,hS⟩:=ih.out.mrow dP.out (f:=an) ds;have eD:=D2.symm.trans ((hG.cell (p:=⟨gm,an,none⟩) dl).trans Dw);cases eD;have D3:=hC bn dM;have fQ:=AA (hS bn c dM);generalize hW9:wx.setCell _ _=W9 at fQ;clear x0 x1 x2 x3 y0 y1 y2 y3 y4 y5 Dw D2 hS hG cR hC;obtain⟨⟨x0,x1,x2,x3⟩,⟨⟨z0,z1,z2,z3⟩,bo⟩,HE,HR⟩:=fQ.out.fin a2 (v:=0) (code:=0) (dU.out);go_wp2_with ((try simp only[xS,Exit.then]);with_reducible refine yp ?_ rfl HR.out;obtain⟨E0,E1,E2,E3⟩:=HE.out;simp[results,vQ,go_sem,E0,E1,E2,E3])
 .have t1:(fc !=0)=true:=by simp[ef]
  have hc:=AA ef;have bs:=AA (show Ad k ⟨6,(en:Int),ra,b,c,nm⟩=(k,0,fc) by rw[HP.out,if_neg ef]);clear ef FZ HP;obtain⟨⟨x0,x1,x2,x3⟩,⟨⟨z0,z1,z2,z3⟩,bo⟩,HE,HR⟩:=S1.out.yJ a2 (v:=0) (code:=fc) (bs.out) (hc.out);go_wp2_with ((try simp only[xS,Exit.then]);with_reducible refine yp ?_ rfl HR.out;obtain⟨E0,E1,E2,E3⟩:=HE.out;simp[results,vQ,go_sem,E0,E1,E2,E3])
theorem XK {lo:Nat} {k:AN} {w:World} (h:DO lo w mv iv ev cv k) (a2:lo<=w.heap.size) (hk:DI k) (call:Ab) (he:0<=call.e/\call.e<3) (dh:call.nm.size<=maxLen) (hc:call.c<=9223372036854775807):
 Calls prog 182 #[.agg #[mv,iv,ev,cv], .agg call.cs] w (Kh lo w (Ad k call)):=by
 have bv:=SC.start h a2 call;obtain⟨am,gK,cm,ai,ni,ci,ae,gN,ce,ac,nc,cc,rfl,rfl,rfl,rfl⟩:=bv.zS;have S0:=AA bv;obtain⟨kk,e,a,b,c,nm⟩:=call;simp only[Ab.cs] at S0 ⊢;have HK:=AA hk;have HE:=AA he;have HN:=AA dh;have HC:=AA hc;obtain⟨x0,x1,x2,x3⟩:=S0.out.xs;obtain⟨y0,y1,y2,y3,y4,y5⟩:=S0.out.ys6;clear h bv he hk dh hc;generalize hW0:((w.alloc _).alloc _).alloc _=W0 at*
 by_cases hk:kk=1∨kk=2∨kk=3∨kk=4∨kk=5∨kk=6∨kk=7∨kk=8∨kk=9∨kk=10∨kk=11
 .skip
  rcases hk with rfl|rfl|rfl|rfl|rfl|rfl|rfl|rfl|rfl|rfl|rfl
  all_goals
   have C:=S0.out.yK.2.2;go_in;go_wp2_with fail
   first
   |refine(UR C S0.out.lo HK.out ⟨_,e,a,b,c,nm⟩ HE.out rfl HN.out).mono ?_
   |refine(UO C S0.out.lo HK.out ⟨_,e,a,b,c,nm⟩ HE.out rfl).mono ?_
   |refine(UP C S0.out.lo HK.out ⟨_,e,a,b,c,nm⟩ HE.out rfl).mono ?_
   |refine(Vg C S0.out.lo HK.out ⟨_,e,a,b,c,nm⟩ HE.out (by simp)).mono ?_
   |refine(Vh C S0.out.lo HK.out ⟨_,e,a,b,c,nm⟩ HE.out rfl HC.out).mono ?_
   |refine(UQ C S0.out.lo HK.out ⟨_,e,a,b,c,nm⟩ HE.out rfl).mono ?_
   |refine(Qb C S0.out.lo HK.out ⟨_,e,a,b,c,nm⟩ HE.out (by simp) HN.out).mono ?_
   |refine(Vf C S0.out.lo HK.out ⟨_,e,a,b,c,nm⟩ HE.out (by simp)).mono ?_
   rintro r w1 ⟨m',i',e',c',rfl,hs,hK,hb,hf⟩;obtain⟨hB,fN,f4⟩:=Kh.up S0.out (yD a2 (vX _ _)) (vX _ _) hs hK hb hf;obtain⟨am,iZ,cm,ai,ni,ci,ae,i5,ce,ac,nc,cc,rfl,rfl,rfl,rfl⟩:=hs;obtain⟨z0,z1,z2,z3⟩:=AF hB;have bo:=AK hB;have iQ:=AA (AF fN);have HR:=AA f4;clear hK hb hf hB fN f4 x0 x1 x2 x3 y0 y1 y2 y3 y4 y5 hW0;go_wp2_with fail;exact yp (v:= .tuple #[.agg #[_,_,_,_], .int .i64 _, .int .i64 _]) (by simp[results,sW,go_sem,iQ.out]) rfl HR.out
 simp only[not_or] at hk;obtain⟨e1,e2,e3,e4,e5,e6,e7,e8,e9,cB,dN⟩:=hk;have bs:=AA (show Ad k ⟨kk,e,a,b,c,nm⟩=(k,0,3) by unfold Ad;rw[if_neg e1,if_neg (by rw[Ac];simp only;omega),if_neg e7,if_neg e8,if_neg e9,if_neg (by simp only;omega)]);have t1:(kk==1)=false:=by simp[e1]
 have t2:(kk==2)=false:=by simp[e2]
 have t3:(kk==3)=false:=by simp[e3]
 have t4:(kk==4)=false:=by simp[e4]
 have t5:(kk==5)=false:=by simp[e5]
 have t6:(kk==6)=false:=by simp[e6]
 have t7:(kk==7)=false:=by simp[e7]
 have t8:(kk==8)=false:=by simp[e8]
 have t9:(kk==9)=false:=by simp[e9]
 have iX:(kk==10)=false:=by simp[cB]
 have iW:(kk==11)=false:=by simp[dN]
 clear e1 e2 e3 e4 e5 e6 e7 e8 e9 cB dN;go_in;obtain⟨⟨x0,x1,x2,x3⟩,⟨⟨z0,z1,z2,z3⟩,bo⟩,HE,HR⟩:=S0.out.yJ a2 (v:=0) (code:=3) (bs.out) (by decide);go_wp2_with ((try simp only[xS,Exit.then]);with_reducible refine yp ?_ rfl HR.out;obtain⟨E0,E1,E2,E3⟩:=HE.out;simp[results,sW,go_sem,E0,E1,E2,E3])
def On (lo:Nat) (b:Bool) (v:Value) (w:World) (k:AN):Prop:=b=true∨∃m i e c,v= .agg #[m,i,e,c]/\DO lo w m i e c k
theorem On.below {lo:Nat} {w w':World} {k:AN} (h:On lo b v w k) (hb:Below w.heap.size w w'):On lo b v w' k:=h.imp id fun⟨m,i,e,c,h1,h2⟩=>⟨m,i,e,c,h1,h2.below hb⟩
theorem On.yN {lo g:Nat} {w w':World} {k:AN} {cu:Array Value} (h:On lo b v w k) (hg:w.grownBy w' (some g)) (hB:w.heap[g]? =some (.cells cu 28 (0,0))):On lo b v w' k:=h.imp id fun⟨m,i,e,c,h1,h2⟩=>⟨m,i,e,c,h1,h2.yN hg hB⟩
def QK (lo:Nat) (w:World) (m i e c:Value) (k:AN) (y:Int):Prop:=bJ m i e c/\(y=0->DO lo w m i e c k)
theorem QK.below {lo:Nat} {w w':World} {m i e c:Value} {k:AN} (h:QK lo w m i e c k y) (hb:Below w.heap.size w w'):QK lo w' m i e c k y:=⟨h.1,fun h0=>(h.2 h0).below hb⟩
theorem QK.yN {lo g:Nat} {w w':World} {m i e c:Value} {k:AN} {cu:Array Value} (h:QK lo w m i e c k y) (hg:w.grownBy w' (some g)) (hB:w.heap[g]? =some (.cells cu 28 (0,0))):QK lo w' m i e c k y:=⟨h.1,fun h0=>(h.2 h0).yN hg hB⟩
def Lq (lo:Nat) (v:Value) (w:World) (k:AN) (x y:Int):Prop:=∃m i e c,v= .tuple #[.agg #[m,i,e,c], .int .i64 x, .int .i64 y]/\QK lo w m i e c k y
def QV (lo:Nat) (v:Value) (w:World) (k:AN) (y:Int):Prop:=∃m i e c,v= .agg #[m,i,e,c]/\QK lo w m i e c k y
theorem Lq.below {lo:Nat} {w w':World} {k:AN} (h:Lq lo v w k x y) (hb:Below w.heap.size w w'):Lq lo v w' k x y:=by obtain⟨m,i,e,c,h1,h2⟩:=h;exact⟨m,i,e,c,h1,h2.below hb⟩
theorem Lq.yN {lo g:Nat} {w w':World} {k:AN} {cu:Array Value} (h:Lq lo v w k x y) (hg:w.grownBy w' (some g)) (hB:w.heap[g]? =some (.cells cu 28 (0,0))):Lq lo v w' k x y:=by obtain⟨m,i,e,c,h1,h2⟩:=h;exact⟨m,i,e,c,h1,h2.yN hg hB⟩
theorem QV.below {lo:Nat} {w w':World} {k:AN} (h:QV lo v w k y) (hb:Below w.heap.size w w'):QV lo v w' k y:=by obtain⟨m,i,e,c,h1,h2⟩:=h;exact⟨m,i,e,c,h1,h2.below hb⟩
theorem QV.yN {lo g:Nat} {w w':World} {k:AN} {cu:Array Value} (h:QV lo v w k y) (hg:w.grownBy w' (some g)) (hB:w.heap[g]? =some (.cells cu 28 (0,0))):QV lo v w' k y:=by obtain⟨m,i,e,c,h1,h2⟩:=h;exact⟨m,i,e,c,h1,h2.yN hg hB⟩
def Hy (lo:Nat) (b:Bool) (v:Value) (w:World) (k:AN) (y:Int):Prop:=∃q,v= .pointer (some ⟨q,0,none⟩)/\lo<=q/\if b=true then ∃m i e c,w.heap[q]? =some (.cells #[m,i,e,c] 28 (0,0))/\QK lo w m i e c k y else w.heap[q]? =some (.cells #[.slice none 0 0, .slice none 0 0, .slice none 0 0, .slice none 0 0] 28 (0,0))
theorem Hy.below {lo:Nat} {w w':World} {k:AN} (h:Hy lo b v w k y) (hb:Below w.heap.size w w'):Hy lo b v w' k y:=by
 obtain⟨q,h0,h1,h2⟩:=h;refine⟨q,h0,h1,?_⟩;cases b
 .exact AC h2 hb
 .obtain⟨m,i,e,c,h3,h4⟩:=h2
  exact⟨m,i,e,c,AC h3 hb,h4.below hb⟩
theorem Hy.stay {lo:Nat} {w w':World} {k:AN} (h:Hy lo false v w k y) (hf:Zw w w'):Hy lo false v w' k y:=by obtain⟨q,h0,h1,h2⟩:=h;exact⟨q,h0,h1,(hf q _ h2).trans h2⟩
theorem Kz {k:AN} {w:World} (h:MM w mv iv ev cv k) (hk:DI k) (call:Ab) (he:0<=call.e/\call.e<3) (dh:call.nm.size<=maxLen) (fF:call.c<=9223372036854775807):
 Calls prog 157 #[.agg #[mv,iv,ev,cv], .agg call.cs] w (M8 w (Ad k call)):=by
 have eZ:=AA (fun(lo:Nat) (W:World) (m1 i1 e1 c1:Value) (h:DO lo W m1 i1 e1 c1 k) (a2:lo<=W.heap.size)=>XK h a2 hk call he dh fF);have HR:=AA h;have iK:=AA hk;have HN:=AA (@PA k call);generalize Ad k call=res at eZ HN ⊢;obtain⟨kr,vr,nr⟩:=res;obtain⟨ck,ce,ca,cb,cc,nm⟩:=call;simp only[Ab.cs] at eZ ⊢;obtain⟨B0,B1,B2,aq,cg⟩:=KW w (.cells #[mv,iv,ev,cv] 28) (.cells #[.int .i64 ck, .int .i64 ce, .int .i64 ca, .int .i64 cb, .int .i64 cc, .string nm] 79) (.cells #[.slice none 0 0, .slice none 0 0, .slice none 0 0, .slice none 0 0] 28);have CC:=AA (fun W (hW:Below (((w.alloc (.cells #[mv,iv,ev,cv] 28)).alloc (.cells #[.int .i64 ck, .int .i64 ce, .int .i64 ca, .int .i64 cb, .int .i64 cc, .string nm] 79)).alloc (.cells #[.slice none 0 0, .slice none 0 0, .slice none 0 0, .slice none 0 0] 28)).heap.size _ W)=>Ky mv iv ev cv k W ((HR.out.below aq).below hW) iK.out);clear he dh fF h hk;go_in;go_wp2_with fail;generalize((w.alloc _).alloc _).alloc _=W0 at*;obtain⟨x0,x1,x2,x3⟩:=AF B0;obtain⟨y0,y1,y2,y3,y4,y5⟩:=JK B1;have dI:=AY B0;have dr:=AY B1;have eX:=AA aq;have HB:=AA (ye B0 B2);clear aq B0 B1 B2;have aq:=dr;clear dr;refine Dz 12 26 (fun ix=>ix==3||ix==9) [.a #[mv,iv,ev,cv], .z, .a #[.int .i64 ck, .int .i64 ce, .int .i64 ca, .int .i64 cb, .int .i64 cc, .string nm], .z, .z, .z, .i vr, .i nr, .z, .z, .i vr, .i nr] (fun ll ix vv ww=>match ix with
  |1=>On W0.heap.size (ll 3) vv ww k
  |3|4=>Lq W0.heap.size vv ww kr vr nr
  |5=>QV W0.heap.size vv ww kr nr
  |8=>Hy W0.heap.size (ll 9) vv ww kr nr
  |_=>True) (fun ll ww=>Below W0.heap.size W0 ww) ?_ ?_ ?_ ?_ ?_ ?_
 .exact A9 (yF _ _) 1
 .intro j hj ll i vv wz cp hi hS eE hM a7 hz
  match j,hj with
  |1,_=>exact(On.below (by rw[F9 (by rintro rfl;exact absurd hS (by decide))];exact hz) a7)
  |3,_|4,_=>exact(Lq.below hz a7)
  |5,_=>exact(QV.below hz a7)
  |8,_=>exact(Hy.below (by rw[F9 (by rintro rfl;exact absurd hS (by decide))];exact hz) a7)
  |0,_|2,_|6,_|7,_|9,_|10,_|11,_=>exact hz
 .intro ll i wz cp hi hS eE a7 hg
  exact hg.trans (a7.mono hg.size)
 .intro i hi hS o ho a wx Hb ll Hd HL hG K HK
  have av:=bc hG dI x0;have ay:=bc hG dI x1;have a5:=bc hG dI x2;have a4:=bc hG dI x3;have bd:=bc hG aq y0;have bh:=bc hG aq y1;have dG:=bc hG aq y2;have dE:=bc hG aq y3;have dD:=bc hG aq y4;have dC:=bc hG aq y5
  match i,hi,hS with
  |0,_,_=>exact NU ho HK Hb Hd HL (hl:=NZ ‹_› ‹_› ‹_› ‹_›)
  |1,_,_=>exact bR ho HK Hb Hd HL (CC.out _ hG) (by rintro r w_ ⟨m',i',e',c',rfl,hO,bl⟩;exact⟨_,rfl,(.inr ⟨m',i',e',c',rfl,hO.lower hG.size⟩),bl⟩)
  |2,_,_=>exact NU ho HK Hb Hd HL (hl:=aw ‹_› ‹_› ‹_› ‹_› ‹_› ‹_›)
  |10,_,_|11,_,_=>exact WR ho HK Hb Hd HL
  |3,_,hs|9,_,hs=>cases hs
  |4,_,_=>clear av ay a5 a4 bd bh dG dE dD dC;obtain rfl:=yH ho;have d3:Lq W0.heap.size (a.tmps[14]?.getD undef) wx kr vr nr:=DT Hd HL 3;have u3:ll 3=true:=HL.out.2.1 3 (by kernel_rfl);have u9:=Ba HL 9;clear Hd Hb;refine yG ?_;go_simp;exact HK.out _ _ d3 (yF _ _)
  |5,_,_=>clear av ay a5 a4 bd bh dG dE dD dC;obtain rfl:=yH ho;have d4:Lq W0.heap.size (a.tmps[10]?.getD undef) wx kr vr nr:=DT Hd HL 4;have u9:=Ba HL 9;clear Hd Hb;obtain⟨m',i',e',c',d4,hO⟩:=d4;refine yG ?_;go_simp;exact HK.out _ _ ⟨_,_,_,_,rfl,hO⟩ (yF _ _)
  |6,_,_|7,_,_=>clear av ay a5 a4 bd bh dG dE dD dC;obtain rfl:=yH ho;have d4:Lq W0.heap.size (a.tmps[10]?.getD undef) wx kr vr nr:=DT Hd HL 4;clear Hd Hb;obtain⟨m',i',e',c',d4,hO⟩:=d4;refine yG ?_;go_simp;exact HK.out _ _ rfl (yF _ _)
  |8,_,_=>clear av ay a5 a4 bd bh dG dE dD dC;obtain rfl:=yH ho;have u9:=Ba HL 9;clear Hd Hb;refine yG ?_;go_simp;exact HK.out _ _ ⟨_,rfl,hG.size,by rw[F9 (by decide),u9];exact yw _ _⟩ (AD _ _)
 .intro i hi hS o ho a wx Hb ll Hd HL hG K HK
  match i,hi,hS with
  |0,_,hs|1,_,hs|2,_,hs|4,_,hs|5,_,hs|6,_,hs|7,_,hs|8,_,hs|10,_,hs|11,_,hs=>cases hs
  |3,_,_=>
   obtain rfl:=yH ho;have d1:On W0.heap.size (ll 3) (a.tmps[12]?.getD undef) wx k:=DT Hd HL 1;have d2:(a.tmps[13]?.getD undef)= .agg #[.int .i64 ck, .int .i64 ce, .int .i64 ca, .int .i64 cb, .int .i64 cc, .string nm]:=DT Hd HL 2;have u9:=Ba HL 9;clear Hd Hb
   rcases d1 with d1|⟨m',i',e',c',d1,hO⟩
   .rw[HL.out.1] at d1;cases d1
   refine yG ?_;go_simp;refine(eZ.out _ _ _ _ _ _ hO hG.size).mono ?_;rintro r w_ ⟨m2,i2,e2,c2,rfl,hs,g0,bl,hf⟩;exact HK.out _ _ ⟨m2,i2,e2,c2,rfl,hs,g0⟩ (hG.trans bl) (fun j cK dk cy hu=>match j,dk with
    |0,_|2,_|6,_|7,_|9,_|10,_|11,_=>hu
    |1,_=> .inl (by rw[Ge])
    |3,_=>absurd rfl cK
    |4,_=>absurd (HL.out.2.2 4 3 (cy) (by kernel_rfl)) (by rw[HL.out.1];decide)
    |5,_=>absurd (HL.out.2.2 4 3 (HL.out.2.2 5 4 (cy) (by kernel_rfl)) (by kernel_rfl)) (by rw[HL.out.1];decide)
    |8,_=>by
     change Hy _ (ll 9) _ _ _ _ at hu
     rw[u9] at hu
     show Hy _ (F8 ll 3 9) _ _ _ _
     rw[F9 (by decide),u9];exact Hy.stay hu hf)
  |9,_,_=>
   obtain rfl:=yH ho;have d8:Hy W0.heap.size (ll 9) (a.tmps[7]?.getD undef) wx kr nr:=DT Hd HL 8;have d5:QV W0.heap.size (a.tmps[15]?.getD undef) wx kr nr:=DT Hd HL 5;have u3:ll 3=true:=HL.out.2.1 3 (by kernel_rfl);clear Hd Hb;obtain⟨qb,cB,cI,bg⟩:=d8;rw[HL.out.1] at bg;replace bg:wx.heap[qb]? =some (.cells #[.slice none 0 0, .slice none 0 0, .slice none 0 0, .slice none 0 0] 28 (0,0)):=bg;obtain⟨m',i',e',c',d5,hO⟩:=d5;obtain⟨va,vn,vc,wa,wn,wc,xa,xn,xc,ya,yn,yc,rfl,rfl,rfl,rfl⟩:=hO.1;obtain⟨c0,eM,c2,c3⟩:=AF bg;have fq:=AK bg;have al:=AA (Ao wx qb (.slice va vn vc) (.slice wa wn wc) (.slice xa xn xc) (.slice ya yn yc));have iT:=AA cB;have Hq:=AA bg;have HO:=AA hO;clear bg hO;refine yG ?_;go_simp;exact HK.out undef _ trivial (AM hG al.out cI hG.size) (fun j cK dk cy hu=>match j,dk with
    |0,_|2,_|6,_|7,_|10,_|11,_=>hu
    |1,_=>by
     show On _ (F8 ll 9 3) _ _ _
     rw[F9 (by decide)];exact On.yN hu al.out Hq.out
    |3,_|4,_=>Lq.yN hu al.out Hq.out
    |5,_=>QV.yN hu al.out Hq.out
    |8,_=>⟨qb,iT.out,cI,by rw[Ge];exact⟨_,_,_,_,Cs Hq.out,HO.out.yN al.out Hq.out⟩⟩
    |9,_=>absurd rfl cK)
 .intro vs wx ll a3 hR hG
  have q8:Hy W0.heap.size (ll 9) (vs 8) wx kr nr:=BZ hR 8;have a6:(vs 10)= .int .i64 vr:=BZ hR 10;have cZ:(vs 11)= .int .i64 nr:=BZ hR 11;clear hR;simp only[Dc,Bq,yE,yB,yA,yy,a6,cZ];simp;generalize vs 8=z8 at q8 ⊢;clear a6 cZ;obtain⟨qb,rfl,cI,bg⟩:=q8;rw[a3 9 (by decide),if_pos rfl] at bg;obtain⟨m',i',e',c',ch,hO⟩:=bg;clear a3 x0 x1 x2 x3 y0 y1 y2 y3 y4 y5;obtain⟨va,vn,vc,wa,wn,wc,xa,xn,xc,ya,yn,yc,rfl,rfl,rfl,rfl⟩:=hO.1;obtain⟨c0,eM,c2,c3⟩:=AF ch;have fd:=AC HB.out.1 hG;have bj:=AC HB.out.2 hG;have cV:=AA (eX.out.trans (hG.mono eX.out.size))
  by_cases h0:nr=0
  focus
   subst h0
   have hK:=hO.2 rfl;have bo:=AK bj;obtain⟨z0,z1,z2,z3⟩:=AF bj;obtain⟨E0,E1,E2,E3⟩:=JS (m':= .slice va vn vc) (i':= .slice wa wn wc) (e':= .slice xa xn xc) (c':= .slice ya yn yc) bj;have HE:=AA (ye E0 (ye E1 (ye E2 E3)));have al:=Ao wx (w.heap.size+1+1) (.slice va vn vc) (.slice wa wn wc) (.slice xa xn xc) (.slice ya yn yc);have dT:=AA (show DO w.heap.size _ (.slice va vn vc) (.slice wa wn wc) (.slice xa xn xc) (.slice ya yn yc) kr from(hK.yN al bj).lower eX.out.size);have bw:=AA (AM cV.out al (by omega) cV.out.size);clear E0 E1 E2 E3 hO hK al fd bj HN hG ch
  rotate_left
  focus
   have t0:(nr !=0)=true:=by simp[h0]
   have hN:=HN.out h0;simp only[tj,and_true] at hN;obtain⟨rfl,rfl⟩:=hN;obtain⟨x0,x1,x2,x3⟩:=AF fd;have iU:=CC.out wx hG;clear hO ch c0 eM c2 c3;go_wp2_with fail;refine iU.mono ?_;rintro r w4 ⟨m4,i4,e4,c4,rfl,O4,b4⟩;have B4:=AC bj b4;have bo:=AK B4;obtain⟨z0,z1,z2,z3⟩:=AF B4;obtain⟨E0,E1,E2,E3⟩:=JS (m':=m4) (i':=i4) (e':=e4) (c':=c4) B4;have HE:=AA (ye E0 (ye E1 (ye E2 E3)));have al:=Ao w4 (w.heap.size+1+1) m4 i4 e4 c4;have dT:=AA (show DO w.heap.size _ m4 i4 e4 c4 kr from(O4.yN al B4).lower cV.out.size);have bw:=AA (AM (cV.out.trans (b4.mono cV.out.size)) al (by omega) (by have:=cV.out.size;have:=b4.size;omega));obtain⟨⟨_,_,_,rfl⟩,⟨_,_,_,rfl⟩,⟨_,_,_,rfl⟩,⟨_,_,_,rfl⟩⟩:=O4.zS;clear E0 E1 E2 E3 O4 b4 B4 al fd bj x0 x1 x2 x3 hG
  rotate_left
  all_goals
   go_wp2_with fail;exact yp (v:= .tuple #[.agg #[_,_,_,_],_,_]) (by simp[results,Tryz.results157,go_sem,HE.out]) rfl ⟨_,_,_,_,rfl,dT.out,bw.out⟩
def J9 (w:World) (res:L8) (r:Ending) (w':World):Prop:=∃m i e c,r= .returned (.tuple #[.agg #[m,i,e,c], .int .i64 res.2.1, .bool (res.2.2==0)])/\DO w.heap.size w' m i e c res.1/\Below w.heap.size w w'
theorem FL {m i e c:Value} {k:AN} {w:World} (h:MM w m i e c k) (hk:DI k) (kind a b x:Int) (hx:x<=9223372036854775807):
 Calls prog 121 #[.agg #[m,i,e,c], .int .i64 kind, .int .i64 a, .int .i64 b, .int .i64 x] w (J9 w (Ad k (Ag kind a b x))):=by
 obtain⟨N0,N1,aq,cg⟩:=Jp w (.cells #[m,i,e,c] 28) (.cells #[.slice none 0 0, .slice none 0 0, .slice none 0 0, .slice none 0 0] 28);have C:=Kz (h.below aq) hk (Ag kind a b x) ⟨Int.le_refl 0,show(0:Int)<3 by decide⟩ (show gA.size<=maxLen by decide) hx;simp only[Ab.cs,Ag,gA] at C ⊢;generalize Ad k ⟨kind,0,a,b,x,⟨#[97]⟩⟩=res at C ⊢;obtain⟨kr,vr,nr⟩:=res;have C:=AA C;clear h hk hx;obtain⟨x0,x1,x2,x3⟩:=AF N0;go_in;go_wp2_with fail;generalize(w.alloc _).alloc _=W0 at*;refine C.out.mono ?_;rintro r w1 ⟨m1,i1,e1,c1,rfl,O1,b1⟩;obtain⟨⟨ma,mn,mc,rfl⟩,⟨ia,iN,ic,rfl⟩,⟨ea,en,ec,rfl⟩,⟨qa,qn,qc,rfl⟩⟩:=O1.zS;have N2:=yw w1 (.cells #[.slice ma mn mc, .slice ia iN ic, .slice ea en ec, .slice qa qn qc] 28);have b2:=AD w1 (.cells #[.slice ma mn mc, .slice ia iN ic, .slice ea en ec, .slice qa qn qc] 28);have bj:=AC (AC N1 b1) b2;have O2:=O1.below b2;have HW:=AA (aq.trans ((b1.trans (b2.mono b1.size)).mono aq.size));have bo:=AK bj;obtain⟨z0,z1,z2,z3⟩:=AF bj;obtain⟨p0,p1,p2,p3⟩:=AF N2;obtain⟨E0,E1,E2,E3⟩:=JS (m':= .slice ma mn mc) (i':= .slice ia iN ic) (e':= .slice ea en ec) (c':= .slice qa qn qc) bj;have HE:=AA (ye E0 (ye E1 (ye E2 E3)));have al:=Ao (w1.alloc (.cells #[.slice ma mn mc, .slice ia iN ic, .slice ea en ec, .slice qa qn qc] 28)) (w.heap.size+1) (.slice ma mn mc) (.slice ia iN ic) (.slice ea en ec) (.slice qa qn qc);have dT:=AA (show DO w.heap.size _ (.slice ma mn mc) (.slice ia iN ic) (.slice ea en ec) (.slice qa qn qc) kr from(O2.yN al bj).lower aq.size);have bw:=AA (AM HW.out al (by omega) HW.out.size);clear E0 E1 E2 E3 al bj N0 N1 N2 x0 x1 x2 x3 O1 O2 b1 b2 aq cg C;go_wp2_with fail;exact yp (v:= .tuple #[.agg #[_,_,_,_],_,_]) (by simp[results,Tryz.results121,go_sem,HE.out]) rfl ⟨_,_,_,_,rfl,dT.out,bw.out⟩
def OQ (lo:Nat) (w:World) (m i e c:Value) (k:AN):Prop:=(∃vs,AP lo 29 1 F3 w m vs/\Fb (AG lo w) vs k.mem)/\AP lo 93 3 A2 w i k.Os/\(∃ps,AP lo 62 2 EX w e ps/\Fb (fun p e=>AP lo 9 1 BB w p.1 e.zV/\p.2=e.root) ps k.zZ)/\AP lo 98 4 Ae w c k.zY
def X5 (lo:Nat) (w:World) (u:Value) (r:List Int):Prop:=AG lo w u r∨(r=[]/\∃a bf,u= .slice a 0 bf/\bf<=maxLen/\(a=none->bf=0))
theorem X5.rd {lo:Nat} {w:World} {u:Value} {r:List Int} (h:X5 lo w u r):Ax w u r:=by
 rcases h with h|⟨rfl,a,bf,rfl,h1,h2⟩
 .exact AG.rd h
 .exact⟨a,bf,rfl,yh _,h1,rfl,h2,fun h0=>absurd h0 (Nat.lt_irrefl 0)⟩
def Nn (lo:Nat) (w:World) (m i e c s l q:Value) (P:AR):Prop:=OQ lo w m i e c P.zX/\(∃vs,AP lo 29 1 F3 w s vs/\Fb (X5 lo w) vs P.swap)/\AG lo w l P.low/\AP lo 40 3 Cz w q P.No
section
variable {lo lo':Nat} {w w':World} {m i e c s l q:Value} {k:AN} {P:AR}
theorem DO.sf (h:DO lo w m i e c k):OQ lo w m i e c k:=by obtain⟨⟨vs,h1,h2,_⟩,h3,⟨ps,h4,h5,_⟩,h6⟩:=h;exact⟨⟨vs,h1,h2⟩,h3,⟨ps,h4,h5⟩,h6⟩
theorem Ez.sf (h:Ez lo w m i e c s l q P):Nn lo w m i e c s l q P:=by
 obtain⟨vs,h1,h2,_⟩:=h.swp;exact⟨h.ker.sf,⟨vs,h1,h2.mono fun _ _ h=> .inl h⟩,h.low,h.pgs⟩
theorem OQ.rd (h:OQ lo w m i e c k):MM w m i e c k:=by
 obtain⟨⟨vs,h1,h2⟩,h3,⟨ps,h4,h5⟩,h6⟩:=h;exact⟨⟨vs,h1.rd,h2.mono fun _ _ h=>AG.rd h⟩,h3.rd,⟨ps,h4.rd,h5.mono fun _ _ h=>⟨h.1.rd,h.2⟩⟩,h6.rd⟩
theorem Nn.rd (h:Nn lo w m i e c s l q P):Lr w m i e c s l q P:=by
 obtain⟨h0,⟨vs,h1,h2⟩,h3,h4⟩:=h;exact⟨h0.rd,⟨vs,h1.rd,h2.mono fun _ _ h=>h.rd⟩,h3.rd,h4.rd⟩
theorem OQ.map (h:OQ lo w m i e c k) (f:∀t sz n v xs,t≠28->t≠32->w.ownsRow lo t sz v n xs->w'.ownsRow lo' t sz v n xs):OQ lo' w' m i e c k:=by
 obtain⟨⟨vs,h1,h2⟩,h3,⟨ps,h4,h5⟩,h6⟩:=h;exact⟨⟨vs,f _ _ _ _ _ (by decide) (by decide) h1,h2.mono fun _ _ h=>f _ _ _ _ _ (by decide) (by decide) h⟩,f _ _ _ _ _ (by decide) (by decide) h3,⟨ps,f _ _ _ _ _ (by decide) (by decide) h4,h5.mono fun _ _ h=>⟨f _ _ _ _ _ (by decide) (by decide) h.1,h.2⟩⟩,f _ _ _ _ _ (by decide) (by decide) h6⟩
theorem Nn.map (h:Nn lo w m i e c s l q P) (f:∀t sz n v xs,t≠28->t≠32->w.ownsRow lo t sz v n xs->w'.ownsRow lo' t sz v n xs):Nn lo' w' m i e c s l q P:=by
 obtain⟨h0,⟨vs,h1,h2⟩,h3,h4⟩:=h;exact⟨h0.map f,⟨vs,f _ _ _ _ _ (by decide) (by decide) h1,h2.mono fun _ _ h=>h.imp (f _ _ _ _ _ (by decide) (by decide)) id⟩,f _ _ _ _ _ (by decide) (by decide) h3,f _ _ _ _ _ (by decide) (by decide) h4⟩
theorem GI {g:Nat} (hg:w.grownBy w' (some g)) (hl:g<lo) (a2:lo'<=lo):∀t sz n v xs,t≠28->t≠32->w.ownsRow lo t sz v n xs->w'.ownsRow lo' t sz v n xs:=fun _ _ _ _ _ _ _ h=>BR (Bp h hg (fun k hk=>by cases hk;exact hl)) a2
theorem J4 (hb:Below w.heap.size w w') (a2:lo'<=lo):∀t sz n v xs,t≠28->t≠32->w.ownsRow lo t sz v n xs->w'.ownsRow lo' t sz v n xs:=fun _ _ _ _ _ _ _ h=>BR (Co h hb) a2
theorem KV {b T:Nat} {cu:Array Value} (hg:w.grownBy w' (some b)) (hB:w.heap[b]? =some (.cells cu T (0,0))) (hT:T=28∨T=32) (a2:lo'<=lo):∀t sz n v xs,t≠28->t≠32->w.ownsRow lo t sz v n xs->w'.ownsRow lo' t sz v n xs:=
 fun _ _ _ _ _ h1 h2 h=>BR (Eo h hg hB (by rcases hT with rfl|rfl;(· exact h1);(· exact h2))) a2
theorem OQ.zS (h:OQ lo w m i e c k):(∃a n q,m= .slice a n q)/\(∃a n q,i= .slice a n q)/\(∃a n q,e= .slice a n q)/\∃a n q,c= .slice a n q:=by obtain⟨⟨vs,h1,h2⟩,h3,⟨ps,h4,h5⟩,h6⟩:=h;obtain⟨_,_,rfl,_,_⟩:=h1.rd.shape;obtain⟨_,_,rfl,_,_⟩:=h3.rd.shape;obtain⟨_,_,rfl,_,_⟩:=h4.rd.shape;obtain⟨_,_,rfl,_,_⟩:=h6.rd.shape;exact⟨⟨_,_,_,rfl⟩,⟨_,_,_,rfl⟩,⟨_,_,_,rfl⟩,⟨_,_,_,rfl⟩⟩
theorem Nn.zS (h:Nn lo w m i e c s l q P):((∃a n q,m= .slice a n q)/\(∃a n q,i= .slice a n q)/\(∃a n q,e= .slice a n q)/\∃a n q,c= .slice a n q)/\(∃a n q,s= .slice a n q)/\(∃a n q,l= .slice a n q)/\∃a n r,q= .slice a n r:=by obtain⟨h0,⟨vs,h1,h2⟩,h3,h4⟩:=h;have h5:=h0.zS;obtain⟨_,_,rfl,_,_⟩:=h1.rd.shape;obtain⟨_,_,rfl,_,_⟩:=h3.rd.shape;obtain⟨_,_,rfl,_,_⟩:=h4.rd.shape;exact⟨h5,⟨_,_,_,rfl⟩,⟨_,_,_,rfl⟩,⟨_,_,_,rfl⟩⟩
end
theorem Lc (f:Int) (w:World) (h0:0<=f) (h1:f<=11):Calls prog 99 #[.int .i64 f, .bool true] w fun e w'=>e= .returned (.int .i64 (Gv f))/\Below w.heap.size w w':=by unfold Gv;go_in;go_wp2_with fail;go_ret;exact⟨rfl,yF _ _⟩
def GB (W:World) (q:Nat) (k:AN) (t:Bool) (ww:World):Prop:=match t with
 |false=>Below W.heap.size W ww
 |true=>∃wz m i e c,Below W.heap.size W wz/\DO W.heap.size wz m i e c k/\Below wz.heap.size (Es wz q m i e c) ww
theorem GB.grow {W:World} {q:Nat} {k:AN} {t:Bool} {ww cp:World} (h:GB W q k t ww) (hb:Below ww.heap.size ww cp):GB W q k t cp:=by
 cases t
 .exact Below.trans h (hb.mono (Below.size h))
 .obtain⟨wz,m,i,e,c,h1,h3,h2⟩:=h
  exact⟨wz,m,i,e,c,h1,h3,h2.trans (hb.mono (by have:=h2.size;simpa[Es] using this))⟩
theorem GB.cell {W:World} {q:Nat} {k:AN} {t:Bool} {ww:World} (h:GB W q k t ww) (ht:t=false) {g o:Nat} {v:Value} (hg:g<W.heap.size) (hc:W.cell? ⟨g,o,none⟩=some v):ww.cell? ⟨g,o,none⟩=some v:=by subst ht;exact(tJ (p:=⟨g,o,none⟩) h hg).trans hc
theorem GB.other {W:World} {q:Nat} {k:AN} {t:Bool} {ww:World} (h:GB W q k t ww) {g o:Nat} {v:Value} (hg:g<W.heap.size) (es:g≠q) (hc:W.cell? ⟨g,o,none⟩=some v):ww.cell? ⟨g,o,none⟩=some v:=by
 cases t
 .exact(tJ (p:=⟨g,o,none⟩) h hg).trans hc
 .obtain⟨wz,m,i,e,c,h1,_,h2⟩:=h
  have hz:g<wz.heap.size:=xZ hg h1.size;exact(tJ (p:=⟨g,o,none⟩) h2 (by simpa[Es] using hz)).trans ((Fx (o:=o) (Ao wz q m i e c) hz (fun e=>es (yH e).symm)).trans ((h1.cell (p:=⟨g,o,none⟩) hg).trans hc))
def Ed (lo:Nat) (v:Value) (w:World) (k:AN) (x:Int) (b:Bool):Prop:=∃m i e c,v= .tuple #[.agg #[m,i,e,c], .int .i64 x, .bool b]/\DO lo w m i e c k
theorem Ed.below {lo:Nat} {w w':World} {k:AN} (h:Ed lo v w k x b) (hb:Below w.heap.size w w'):Ed lo v w' k x b:=by obtain⟨m,i,e,c,h1,h2⟩:=h;exact⟨m,i,e,c,h1,h2.below hb⟩
theorem Ed.yN {lo g:Nat} {w w':World} {k:AN} {cu:Array Value} (h:Ed lo v w k x b) (hg:w.grownBy w' (some g)) (hB:w.heap[g]? =some (.cells cu 28 (0,0))):Ed lo v w' k x b:=by obtain⟨m,i,e,c,h1,h2⟩:=h;exact⟨m,i,e,c,h1,h2.yN hg hB⟩
def NJ (lo:Nat) (w:World) (v:Value):Prop:=∃vs,AP lo 29 1 F3 w v vs/\vs.length=16/\∀u∈vs,∃a bf,u= .slice a 0 bf/\bf<=maxLen/\(a=none->bf=0)
theorem NJ.of {lo:Nat} {w:World} {vs:List Value} (h:At lo w v vs (xX 16 [])):NJ lo w v:=by
 have hl:vs.length=16:=h.2.1.1.trans (vU ..);refine⟨vs,h.1,hl,fun u hu=>?_⟩;obtain⟨j,hj⟩:=List.getElem?_of_mem hu;have cy:=(List.getElem?_eq_some_iff.1 hj).1;have hr:=h.2.1.2 j u [] hj (by rw[vW,if_pos (by omega)]);obtain⟨a,bf,rfl,_,hc,_,hn,_⟩:=hr.rd;exact⟨a,bf,rfl,hc,hn⟩
theorem NJ.below {lo:Nat} {w w':World} (h:NJ lo w v) (hb:Below w.heap.size w w'):NJ lo w' v:=by obtain⟨vs,h1,h2⟩:=h;exact⟨vs,AP.below h1 hb,h2⟩
theorem NJ.lower {lo lo':Nat} {w:World} (h:NJ lo w v) (hl:lo'<=lo):NJ lo' w v:=by obtain⟨vs,h1,h2⟩:=h;exact⟨vs,BR h1 hl,h2⟩
theorem NJ.yN {lo g T:Nat} {w w':World} {cu:Array Value} {fr:Nat×Nat} (h:NJ lo w v) (hg:w.grownBy w' (some g)) (hB:w.heap[g]? =some (.cells cu T fr)) (hT:29≠T:=by decide):NJ lo w' v:=by obtain⟨vs,h1,h2⟩:=h;exact⟨vs,AP.yN h1 hg hB hT,h2⟩
theorem NJ.grown {lo:Nat} {w w':World} {o:Option Nat} (h:NJ lo w v) (hg:w.grownBy w' o) (hT:∀b,v.ownBlock=some b->o≠some b):NJ lo w' v:=by
 obtain⟨vs,h1,h2⟩:=h;refine⟨vs,Au h1 hg ?_,h2⟩
 rcases hv:v.ownBlock with _|b
 .exact .inl rfl
 .exact .inr (hT b hv).symm
theorem NJ.rd {lo:Nat} {w:World} (h:NJ lo w v):Bc w v (xX 16 []):=by
 obtain⟨vs,h1,h2,h3⟩:=h;refine⟨vs,h1.rd,⟨by rw[h2,vU],fun i x y hx hy=>?_⟩⟩;obtain⟨a,bf,rfl,hc,hn⟩:=h3 x (yg hx);rw[vW] at hy
 split at hy
 .cases hy
  exact⟨a,bf,rfl,yh _,hc,rfl,hn,fun h0=>absurd h0 (Nat.lt_irrefl 0)⟩
 .cases hy
theorem NJ.sf {lo:Nat} {w:World} (h:NJ lo w v):∃vs,AP lo 29 1 F3 w v vs/\Fb (X5 lo w) vs (xX 16 []):=by
 obtain⟨vs,h1,h2,h3⟩:=h;refine⟨vs,h1,⟨by rw[h2,vU],fun i x y hx hy=>?_⟩⟩;rw[vW] at hy
 split at hy
 .cases hy
  exact .inr ⟨rfl,h3 x (yg hx)⟩
 .cases hy
theorem NJ.slice {lo:Nat} {w:World} (h:NJ lo w v):∃a n c,v= .slice a n c:=by obtain⟨vs,h1,_⟩:=h;obtain⟨_,_,rfl,_,_⟩:=h1.rd.shape;exact⟨_,_,_,rfl⟩
structure Js (lo g gk q:Nat) (w:World) (l:Int) (n j:Nat) (m i e c sv lv qv:Value):Prop where
 pb:w.heap[g]? =some (.cells #[.slice none 0 0, .slice none 0 0, .slice none 0 0, .slice none 0 0,sv,lv,qv, .int .i64 0, .int .i64 l] 32 (0,0))
 kb:w.heap[q]? =some (.cells #[m,i,e,c] 28 (0,0))
 gb:∃a b c d,w.heap[gk]? =some (.cells #[a,b,c,d] 28 (0,0))
 yL:lo<=g/\lo<=gk/\lo<=q/\lo<=w.heap.size
 ker:DO lo w m i e c (Ds n)
 swp:NJ lo w sv
 low:AG lo w lv (LA j)
 pgs:AP lo 40 3 Cz w qv (xX 16 ⟨0,0,false⟩)
section
variable {lo g gk q:Nat} {w w1:World} {l:Int} {n j:Nat} {m i e c sv lv qv:Value}
theorem Js.below (h:Js lo g gk q w l n j m i e c sv lv qv) (hb:Below w.heap.size w w1):Js lo g gk q w1 l n j m i e c sv lv qv:=by obtain⟨a,b,c',d,hg⟩:=h.gb;exact⟨AC h.pb hb,AC h.kb hb,⟨a,b,c',d,AC hg hb⟩,⟨h.yL.1,h.yL.2.1,h.yL.2.2.1,yD h.yL.2.2.2 hb.size⟩,h.ker.below hb,h.swp.below hb,h.low.below hb,h.pgs.below hb⟩
theorem Js.keep (h:Js lo g gk q w l n j m i e c sv lv qv) {p:Nat} {cu:Array Value} (hp:w.heap[p]? =some (.cells cu 28 (0,0))) (hg:w.grownBy w1 (some p)):
 w1.heap[g]? =some (.cells #[.slice none 0 0, .slice none 0 0, .slice none 0 0, .slice none 0 0,sv,lv,qv, .int .i64 0, .int .i64 l] 32 (0,0))/\NJ lo w1 sv/\AG lo w1 lv (LA j)/\AP lo 40 3 Cz w1 qv (xX 16 ⟨0,0,false⟩):=
 ⟨Ap h.pb hg (Bo hp h.pb),h.swp.yN hg hp,Eo h.low hg hp,h.pgs.yN hg hp⟩
theorem Js.put {n':Nat} {m' i' e' c':Value} (h:Js lo g gk q w l n j m i e c sv lv qv) (hb:Below w.heap.size w w1) (O:DO w.heap.size w1 m' i' e' c' (Ds n')):Js lo g gk q (Es w1 q m' i' e' c') l n' j m' i' e' c' sv lv qv:=by
 have h':=h.below hb;have al:=Ao w1 q m' i' e' c';obtain⟨k1,k2,k3,k4⟩:=h'.keep h'.kb al;obtain⟨a,b,c2,d,hg⟩:=h'.gb;refine⟨k1,Cs h'.kb,?_,⟨h.yL.1,h.yL.2.1,h.yL.2.2.1,yD h'.yL.2.2.2 al.size⟩,(O.yN al h'.kb).lower h.yL.2.2.2,k2,k3,k4⟩
 by_cases e:q=gk
 .subst e
  exact⟨_,_,_,_,Cs h'.kb⟩
 .exact⟨a,b,c2,d,Ap hg al e⟩
theorem Js.new {n':Nat} {m' i' e' c':Value} (h:Js lo g gk q w l n j m i e c sv lv qv) (hb:Below w.heap.size w w1) (O:DO w.heap.size w1 m' i' e' c' (Ds n')):Js lo g gk w1.heap.size (w1.alloc (.cells #[m',i',e',c'] 28)) l n' j m' i' e' c' sv lv qv:=by have h':=(h.below hb).below (AD w1 (.cells #[m',i',e',c'] 28));exact⟨h'.pb,yw _ _,h'.gb,⟨h.yL.1,h.yL.2.1,yD h.yL.2.2.2 hb.size,h'.yL.2.2.2⟩,(O.below (AD _ _)).lower h.yL.2.2.2,h'.swp,h'.low,h'.pgs⟩
theorem Js.back (h:Js lo g gk q w l n j m i e c sv lv qv):Js lo g gk gk (Es w gk m i e c) l n j m i e c sv lv qv:=by obtain⟨a,b,c2,d,hg⟩:=h.gb;have al:=Ao w gk m i e c;obtain⟨k1,k2,k3,k4⟩:=h.keep hg al;exact⟨k1,Cs hg,⟨_,_,_,_,Cs hg⟩,⟨h.yL.1,h.yL.2.1,h.yL.2.1,yD h.yL.2.2.2 al.size⟩,h.ker.yN al hg,k2,k3,k4⟩
theorem Js.push {B:Nat} {w4 w5:World} {o':Value} {fr:Int} (h:Js lo g gk q w l n j m i e c sv lv qv) (K:DO B w m i e c (Ds n)) (hB:lo<=B) (hr:∀b,lv.ownBlock=some b->b<B) (b4:Below w.heap.size w w4) (q1:w5.ownsRow lo 3 1 o' (j+1) ((LA j).map (yf .i64)++[.int .i64 fr])) (q2:w4.grownBy w5 lv.ownBlock) (dm:fr=((j+1:Nat):Int)):
 w5.heap[g]? =some (.cells #[.slice none 0 0, .slice none 0 0, .slice none 0 0, .slice none 0 0,sv,lv,qv, .int .i64 0, .int .i64 l] 32 (0,0))/\Js lo g gk q (w5.setCell ⟨g,5,none⟩ o') l n (j+1) m i e c sv o' qv:=by
 have h4:=h.below b4;have es:=Dd h4.low h4.pb (by decide);have gV:=Dd h4.low h4.kb (by decide);obtain⟨a,b,c2,d,hg⟩:=h4.gb;have gW:=Dd h4.low hg (by decide);have co:=(q2.block g (AY h4.pb) (fun e=>es e.symm)).trans h4.pb;have fJ:=(q2.block q (AY h4.kb) (fun e=>gV e.symm)).trans h4.kb;have fM:=(q2.block gk (AY hg) (fun e=>gW e.symm)).trans hg;have gr:=Aq w5 g 5 o';have S6:=(h4.swp.grown q2 (fun b hb he=>by obtain⟨vs,o1,_⟩:=h4.swp;obtain⟨jo,hA⟩:=A6 o1 b hb;obtain⟨jm,fG⟩:=A6 h4.low b he;rw[hA] at fG;simp at fG)).yN gr co
 have ex:AG lo w5 o' (LA (j+1)):=by rw[Vo,<-dm];simpa[AG,Ra] using q1
 refine⟨co,⟨?_,Ap fJ gr (Bo co fJ),⟨a,b,c2,d,Ap fM gr (Bo co fM)⟩,⟨h.yL.1,h.yL.2.1,h.yL.2.2.1,yD h4.yL.2.2.2 (yD q2.size gr.size)⟩,(((K.below b4).past q2 hr).lower hB).yN gr co,S6,Eo ex gr co,Eo (Au h4.pgs q2 (A7 h4.pgs h4.low (by decide)).ne) gr co⟩⟩
 .have:=yu w5 g 5 _ _ o' co
  simpa using this
end
theorem Rc {w:World} {m i e c:Value} {n:Nat} (h:MM w m i e c (Ds n)) (hn:n<=15) (kind a b x:Int) (hx:x<=9223372036854775807) {v:Int} (hc:Ad (Ds n) (Ag kind a b x)=(Ds (n+1),v,0)):
 Calls prog 121 #[.agg #[m,i,e,c], .int .i64 kind, .int .i64 a, .int .i64 b, .int .i64 x] w
  (fun r w'=>∃m i e c,r= .returned (.tuple #[.agg #[m,i,e,c], .int .i64 v, .bool true])/\DO w.heap.size w' m i e c (Ds (n+1))/\Below w.heap.size w w'):=by
 have:=FL h (Yp n hn) kind a b x hx;rw[hc] at this;exact this
def aB (w:World) (P:AR) (b:Bool) (r:Ending) (w':World):Prop:=∃m i e c s lo q,r= .returned (.tuple #[AQ m i e c s lo q P.zT P.zW, .bool b])/\Nn w.heap.size w' m i e c s lo q P/\Below w.heap.size w w'
def M7 (lo:Nat) (v:Value) (w:World) (l:Int):Prop:=∃s lv q,v= .agg #[.slice none 0 0, .slice none 0 0, .slice none 0 0, .slice none 0 0,s,lv,q, .int .i64 0, .int .i64 l]/\NJ lo w s/\AG lo w lv []/\AP lo 40 3 Cz w q (xX 16 ⟨0,0,false⟩)
theorem M7.below {lo:Nat} {w w':World} {l:Int} (h:M7 lo v w l) (hb:Below w.heap.size w w'):M7 lo v w' l:=by obtain⟨s,lv,q,h1,h2,h3,h4⟩:=h;exact⟨s,lv,q,h1,h2.below hb,h3.below hb,h4.below hb⟩
theorem Mp (l:Int) (w:World) (h1:1<=l) (h6:l<=6):Calls prog 101 #[.int .i64 l] w (aB w (Uc l) true):=by
 have N0:=yw w (.cells #[.slice none 0 0, .slice none 0 0, .slice none 0 0, .slice none 0 0, .slice none 0 0, .slice none 0 0, .slice none 0 0, .int .i64 0, .int .i64 0] 32);have b0:=AD w (.cells #[.slice none 0 0, .slice none 0 0, .slice none 0 0, .slice none 0 0, .slice none 0 0, .slice none 0 0, .slice none 0 0, .int .i64 0, .int .i64 0] 32);go_in;go_wp2_with fail;refine(Cv _ _ _ _).mono ?_;rintro e w' ⟨rfl,rfl⟩;rw[show Bd l 1 6=true from Ac.2 ⟨h1,h6⟩];have cL:=AY N0;generalize w.alloc _=W0 at*;go_wp2_with fail;have fx:=Zo W0 ⟨#[97]⟩ ⟨#[98]⟩ ⟨#[99]⟩ 9 60;have bn:=((Gu W0 (.cells #[.string ⟨#[97]⟩] 9) (.cells #[.string ⟨#[98]⟩] 9)).trans ((AD _ (.cells #[.string ⟨#[99]⟩] 9)).mono (Gu W0 _ _).size));replace bn:=bn.trans ((AD _ (.cells #[.slice (some ⟨W0.heap.size,0,none⟩) 1 1, .slice (some ⟨W0.heap.size+1,0,none⟩) 1 1, .slice (some ⟨W0.heap.size+1+1,0,none⟩) 1 1] 60)).mono bn.size);generalize(((W0.alloc _).alloc _).alloc _).alloc _=w5 at*;refine(Kl _ Mh w5 fx rfl Pa Qj).mono ?_;rintro e w6 ⟨mk,ik,ek,ck,rfl,O6,b6⟩;rw[Ub] at O6;obtain⟨⟨ma,mn,mc,rfl⟩,⟨ia,iN,ic,rfl⟩,⟨ea,en,ec,rfl⟩,⟨qa,qn,qc,rfl⟩⟩:=O6.zS;have b7:=AD w6 (.cells #[.slice ma mn mc, .slice ia iN ic, .slice ea en ec, .slice qa qn qc] 28);have N7:=yw w6 (.cells #[.slice ma mn mc, .slice ia iN ic, .slice ea en ec, .slice qa qn qc] 28);have O7:=(O6.below b7).lower bn.size;have B7:=bn.trans ((b6.trans (b7.mono b6.size)).mono bn.size);have cz:W0.heap.size<=w6.heap.size:=yD bn.size b6.size;go_wp2_with fail;generalize w6.heap.size=gk at N7 cz ⊢;generalize w6.alloc _=W7 at*;have HO:=AA O7;have HB:=AA B7;have HN:=AA N0;have eS:=AA N7;have Hb:=AA b0;clear fx bn O6 b6 b7 N7 O7 B7 N0 b0;refine BS 6 87 [.z, .z, .z, .i l, .z, .z] (fun ix vv ww=>match ix with
  |0=>NJ W7.heap.size ww vv
  |1=>AG W7.heap.size ww vv []
  |2=>AP W7.heap.size 40 3 Cz ww vv (xX 16 ⟨0,0,false⟩)
  |4=>M7 W7.heap.size vv ww l
  |5=>LU W7.heap.size vv ww
  |_=>True) ?_ ?_ ?_
 .intro i hi o ho a wx Hb Hd hG K HK
  match i,hi with
  |0,_=>exact sC ho HK Hb Hd (Vi _) (by rintro r w_ ⟨v',vs,rfl,hO,bl⟩;exact⟨_,rfl,((NJ.of hO).lower hG.size),bl⟩)
  |3,_=>exact sP ho HK Hb Hd
  |1,_=>obtain rfl:=yH ho;clear Hd Hb;refine yG ?_;go_simp;exact HK.out _ _ (BR (FF wx) hG.size) (AD _ _)
  |2,_=>obtain rfl:=yH ho;clear Hd Hb;obtain⟨i0,fC,fl,bB,db⟩:=info_parts Tryz.zl;obtain⟨w9,de,h3,h4⟩:=run_make_full (P:=prog) wx wx.heap.size 30 40 i0 _ 3 underlying30 fC fl bB .i64 .i64 16 (by rw[db];decide) (by decide) (yv _);have h5:=Below.zw h4;rw[XP] at h3;have fv:(Instr.makeSlice 30 (.int .i64 16) (.int .i64 16)).run prog wx= .ok (.slice (some ⟨wx.heap.size,0,none⟩) 16 16) w9:=de;clear fC fl bB db de;refine yG ?_;go_simp;exact HK.out _ _ (BR h3 hG.size) h5
  |4,_=>obtain rfl:=yH ho;have d0:NJ W7.heap.size wx (a.tmps[25]?.getD undef):=BT Hd 0;have d1:AG W7.heap.size wx (a.tmps[26]?.getD undef) []:=BT Hd 1;have d2:AP W7.heap.size 40 3 Cz wx (a.tmps[27]?.getD undef) (xX 16 ⟨0,0,false⟩):=BT Hd 2;have d3:(a.tmps[28]?.getD undef)= .int .i64 l:=BT Hd 3;clear Hd Hb;generalize e25:a.tmps[25]?.getD undef=s' at d0;generalize e26:a.tmps[26]?.getD undef=l' at d1;generalize e27:a.tmps[27]?.getD undef=q' at d2;have D0:=AA d0;have D1:=AA d1;have D2:=AA d2;obtain⟨_,_,_,rfl⟩:=d0.slice;obtain⟨_,_,rfl,_,_,_⟩:=d1.rd.open;obtain⟨_,_,rfl,_,_⟩:=d2.rd.shape;clear d0 d1 d2;refine yG ?_;go_simp;exact HK.out _ _ ⟨_,_,_,rfl,D0.out,D1.out,D2.out⟩ (yF _ _)
  |5,_=>obtain rfl:=yH ho;clear Hd Hb;refine yG ?_;go_simp;exact HK.out _ _ ⟨_,rfl,hG.size,yw _ _⟩ (AD _ _)
 .intro i hi vv wz cp a7 hz
  match i,hi with
  |0,_=>exact(NJ.below hz a7)
  |1,_=>exact(AG.below hz a7)
  |2,_=>exact(AP.below hz a7)
  |4,_=>exact(M7.below hz a7)
  |5,_=>exact(LU.below hz a7)
  |3,_=>exact hz
 .intro vs wx hR hG
  have q4:M7 W7.heap.size (vs 4) wx l:=BZ hR 4;have q5:LU W7.heap.size (vs 5) wx:=BZ hR 5;clear hR;simp only[Al,AV,yE,yB,yA,yy];simp;generalize vs 4=z4 at q4 ⊢;generalize vs 5=z5 at q5 ⊢;obtain⟨s',l',q',rfl,r1,r0,r2⟩:=q4;obtain⟨g,rfl,ez,bW⟩:=q5;obtain⟨sa,sn,sc,rfl⟩:=r1.slice;obtain⟨la,ln,lc,rfl⟩:∃a n c,l'= .slice a n c:=by obtain⟨_,_,rfl,_,_,_⟩:=r0.rd.open;exact⟨_,_,_,rfl⟩
  obtain⟨pa,pn,pc,rfl⟩:∃a n c,q'= .slice a n c:=by obtain⟨_,_,rfl,_,_⟩:=r2.rd.shape;exact⟨_,_,_,rfl⟩
  obtain⟨x0,x1,x2,x3,x4,x5,x6,x7,x8⟩:=AE bW;have fz:=AK bW;go_step;go_simp;have al:=Ex (w:=wx) (g:=g) (b0:= .slice none 0 0) (b1:= .slice none 0 0) (b2:= .slice none 0 0) (b3:= .slice none 0 0) (b4:= .slice sa sn sc) (b5:= .slice la ln lc) (b6:= .slice pa pn pc) (b7:= .int .i64 0) (b8:= .int .i64 l);have N8:=GO (b0:= .slice none 0 0) (b1:= .slice none 0 0) (b2:= .slice none 0 0) (b3:= .slice none 0 0) (b4:= .slice sa sn sc) (b5:= .slice la ln lc) (b6:= .slice pa pn pc) (b7:= .int .i64 0) (b8:= .int .i64 l) bW;have K8:=Ap (AC eS.out hG) al (Bo bW (AC eS.out hG));have I8:Js W0.heap.size g gk gk _ l 0 0 _ _ _ _ _ _ _:=⟨N8,K8,⟨_,_,_,_,K8⟩,⟨yD HB.out.size ez,cz,cz,yD HB.out.size (yD hG.size al.size)⟩,(HO.out.below hG).yN al bW,(r1.lower HB.out.size).yN al bW,Eo (BR r0 HB.out.size) al bW,AP.yN (BR r2 HB.out.size) al bW⟩;have B8:=AM (HB.out.trans (hG.mono HB.out.size)) al (yD HB.out.size ez) (yD HB.out.size hG.size);clear r0 r1 r2 N8 K8 al x0 x1 x2 x3 x4 x5 x6 x7 x8 fz bW ez hG HO HB eS;unfold Er at I8 B8;generalize((((((((wx.setCell _ _).setCell _ _).setCell _ _).setCell _ _).setCell _ _).setCell _ _).setCell _ _).setCell _ _).setCell _ _=W8 at*;replace I8:=AA I8;replace B8:=AA B8;obtain⟨k0,k1,k2,k3⟩:=AF I8.out.kb;have C:=Rc (n:=0) I8.out.ker.rd (by omega) 1 0 0 0 (by decide) Zj;go_wp2_with fail;refine C.mono ?_;rintro r w9 ⟨m9,i9,e9,c9,rfl,O9,b9⟩;have I9:=AA (I8.out.put b9 O9);have B9:=AA (AM (B8.out.trans (b9.mono I8.out.yL.2.2.2)) (Ao w9 gk m9 i9 e9 c9) I8.out.yL.2.1 (yD I8.out.yL.2.2.2 b9.size));have kf:=AK (I8.out.below b9).kb;obtain⟨k0,k1,k2,k3⟩:=AF (I8.out.below b9).kb;obtain⟨⟨ua,un,uc,rfl⟩,⟨va,vn,vc,rfl⟩,⟨ya,yn,yc,rfl⟩,⟨za,zn,zc,rfl⟩⟩:=O9.zS;unfold Es at I9;generalize hW9:(((w9.setCell _ _).setCell _ _).setCell _ _).setCell _ _=W9 at I9 B9;obtain⟨n0,n1,n2,n3⟩:=AF I9.out.kb;clear O9 b9 I8 B8 C;go_wp2_with fail;clear k0 k1 k2 k3 kf;have C:=Rc (n:=1) I9.out.ker.rd (by omega) 4 0 3 0 (by decide) Zh;refine C.mono ?_;rintro r cq ⟨gP,gR,cB,ig,rfl,eO,cQ⟩;have bp:=AA (I9.out.put cQ eO);have fb:=AA (AM (B9.out.trans (cQ.mono I9.out.yL.2.2.2)) (Ao cq gk gP gR cB ig) I9.out.yL.2.1 (yD I9.out.yL.2.2.2 cQ.size));have kf:=AK (I9.out.below cQ).kb;obtain⟨k0,k1,k2,k3⟩:=AF (I9.out.below cQ).kb;obtain⟨⟨ua,un,uc,rfl⟩,⟨va,vn,vc,rfl⟩,⟨ya,yn,yc,rfl⟩,⟨za,zn,zc,rfl⟩⟩:=eO.zS;unfold Es at bp;generalize hW10:(((cq.setCell _ _).setCell _ _).setCell _ _).setCell _ _=W10 at bp fb;obtain⟨n0,n1,n2,n3⟩:=AF bp.out.kb;clear eO cQ I9 B9 C;go_wp2_with fail;clear k0 k1 k2 k3 kf;clear n0 n1 n2 n3;have C:=Rc (n:=2) bp.out.ker.rd (by omega) 7 0 0 0 (by decide) Yq
  refine C.mono ?_;rintro r cd ⟨gO,gQ,dN,ie,rfl,eN,cP⟩;have dv:=AA (bp.out.put cP eN);have e0:=AA (AM (fb.out.trans (cP.mono bp.out.yL.2.2.2)) (Ao cd gk gO gQ dN ie) bp.out.yL.2.1 (yD bp.out.yL.2.2.2 cP.size));have kf:=AK (bp.out.below cP).kb;obtain⟨k0,k1,k2,k3⟩:=AF (bp.out.below cP).kb;obtain⟨⟨ua,un,uc,rfl⟩,⟨va,vn,vc,rfl⟩,⟨ya,yn,yc,rfl⟩,⟨za,zn,zc,rfl⟩⟩:=eN.zS;unfold Es at dv;generalize hW11:(((cd.setCell _ _).setCell _ _).setCell _ _).setCell _ _=W11 at dv e0;obtain⟨n0,n1,n2,n3⟩:=AF dv.out.kb;clear eN cP bp fb C;go_wp2_with fail;clear k0 k1 k2 k3 kf;go_wp2_with fail;go_loopw [9,10,11,12] (fun ix _ _ _ wr=>∃k:Nat,k<=4/\ix= .int .i64 k/\∃m i e c la ln lc,Js W0.heap.size g gk gk wr l (3*k+3) k m i e c (.slice sa sn sc) (.slice la ln lc) (.slice pa pn pc)/\Below W0.heap.size W0 wr) (fun ix _ _ _ _=>4 - (intOf ix).toNat)
  case atStart=>exact⟨0,by omega,rfl,_,_,_,_,_,_,_,dv.out,e0.out⟩
  case round=>
   clear dv e0;obtain⟨k,hk,rfl,mv,iv,ev,cv,la,ln,lc,I0,B0⟩:=hrel;replace I0:=AA I0;replace B0:=AA B0
   by_cases bK:k<4
   .obtain⟨fr,dm⟩:∃fr:Int,fr=((k+1:Nat):Int):=⟨_,rfl⟩
    have T1:=Yr k bK;have T2:=Zg k bK;have T3:=Zi k bK;rw[<-dm] at T1 T2 T3;have fD:0<=fr/\fr<=11:=by omega
    have iw:=AA dm;clear dm;have k4:(k:Int)<4:=by omega
    obtain⟨⟨ka,kn,kc,eL⟩,⟨ja,jn,jc,eK⟩,⟨fa,fn,fc,eJ⟩,⟨ra,rn,rc,eI⟩⟩:=I0.out.ker.zS;subst eL eK eJ eI;obtain⟨k0,k1,k2,k3⟩:=AF I0.out.kb;have C:=Rc (n:=3*k+3) I0.out.ker.rd (by omega) 1 0 0 0 (by decide) T1;go_wp2_with fail;refine C.mono ?_;rintro r w1 ⟨m1,i1,e1,c1,rfl,O1,b1⟩;have I1:=AA (I0.out.new b1 O1);have B1:=AA (B0.out.trans ((b1.trans ((AD w1 (.cells #[m1,i1,e1,c1] 28)).mono b1.size)).mono I0.out.yL.2.2.2));obtain⟨⟨ua,un,uc,rfl⟩,⟨va,vn,vc,rfl⟩,⟨ya,yn,yc,rfl⟩,⟨za,zn,zc,rfl⟩⟩:=O1.zS;clear O1 b1 C k0 k1 k2 k3 I0 B0;obtain⟨k0,k1,k2,k3⟩:=AF I1.out.kb;go_wp2_with fail;clear k0 k1 k2 k3;obtain⟨q1,cI⟩:∃q1,q1=w1.heap.size:=⟨_,rfl⟩
    rw[<-cI] at I1 ⊢;clear cI;generalize w1.alloc _=W1 at*;have C:=Rc (n:=3*k+4) I1.out.ker.rd (by omega) 4 fr 2 0 (by decide) T2;refine C.mono ?_;rintro r w2 ⟨m2,i2,e2,c2,rfl,O2,b2⟩;have I2:=AA (I1.out.put b2 O2);have B2:=AA (AM (B1.out.trans (b2.mono I1.out.yL.2.2.2)) (Ao w2 q1 m2 i2 e2 c2) I1.out.yL.2.2.1 (yD I1.out.yL.2.2.2 b2.size));have kf:=AK (I1.out.below b2).kb;obtain⟨k0,k1,k2,k3⟩:=AF (I1.out.below b2).kb;obtain⟨⟨ua,un,uc,rfl⟩,⟨va,vn,vc,rfl⟩,⟨ya,yn,yc,rfl⟩,⟨za,zn,zc,rfl⟩⟩:=O2.zS;unfold Es at I2;generalize hW2:(((w2.setCell _ _).setCell _ _).setCell _ _).setCell _ _=W2 at I2 B2;obtain⟨n0,n1,n2,n3⟩:=AF I2.out.kb;clear O2 b2 I1 B1 C;go_wp2_with fail;clear k0 k1 k2 k3 kf;have ch:=I2.out.kb;have df:=AY ch;have he:Gv fr<=9223372036854775807:=by unfold Gv;omega
    have CP:=AA (fun W=>Lc fr W fD.1 fD.2);generalize Gv fr=en_ at T3 he CP;have RK:=I2.out.ker.rd;have CM:=AA (fun W (hW:Below W2.heap.size W2 W)=>Rc (n:=3*k+5) (RK.below hW) (by omega) 6 0 (k:Int) en_ he T3);clear T1 T2 T3 RK;refine Dz 11 87 (fun ix=>ix==10) [.a #[.slice ua un uc, .slice va vn vc, .slice ya yn yc, .slice za zn zc], .i 0, .i ((k:Int)), .i fr, .i en_, .z, .z, .z, .i 0, .b true, .z] (fun ll ix vv ww=>match ix with
     |5|6=>Ed W2.heap.size vv ww (Ds (3*k+6)) 0 true
     |7=>GU W2.heap.size vv ww (Ds (3*k+6))
     |_=>True) (fun ll ww=>GB W2 (q1) (Ds (3*k+6)) (ll 10) ww) ?_ ?_ ?_ ?_ ?_ ?_
    .exact A9 (yF _ _) 1
    .intro j hj ll i vv wz cp hi hS eE hM a7 hz
     match j,hj with
     |5,_|6,_=>exact(Ed.below hz a7)
     |7,_=>exact(GU.below hz a7)
     |0,_|1,_|2,_|3,_|4,_|8,_|9,_|10,_=>exact hz
    .intro ll i wz cp hi hS eE a7 hg
     show GB _ _ _ (F8 ll i 10) _
     rw[F9 (by rintro rfl;cases hS)];exact GB.grow hg a7
    .intro i hi hS o ho a wx Hb ll Hd HL hG K HK
     match i,hi,hS with
     |0,_,_=>have dA:=Ba HL 10;have av:=(show wx.cell? ⟨q1,0,none⟩=some (.slice ua un uc) from GB.cell hG (by cases hx:ll 10 with|false=>rfl|true=>exact absurd (HL.out.2.2 5 0 (HL.out.2.2 6 5 (HL.out.2.2 7 6 (HL.out.2.2 10 7 (hx) (by kernel_rfl)) (by kernel_rfl)) (by kernel_rfl)) (by kernel_rfl)) (by rw[HL.out.1];decide)) df n0);have ay:=(show wx.cell? ⟨q1,1,none⟩=some (.slice va vn vc) from GB.cell hG (by cases hx:ll 10 with|false=>rfl|true=>exact absurd (HL.out.2.2 5 0 (HL.out.2.2 6 5 (HL.out.2.2 7 6 (HL.out.2.2 10 7 (hx) (by kernel_rfl)) (by kernel_rfl)) (by kernel_rfl)) (by kernel_rfl)) (by rw[HL.out.1];decide)) df n1);have a5:=(show wx.cell? ⟨q1,2,none⟩=some (.slice ya yn yc) from GB.cell hG (by cases hx:ll 10 with|false=>rfl|true=>exact absurd (HL.out.2.2 5 0 (HL.out.2.2 6 5 (HL.out.2.2 7 6 (HL.out.2.2 10 7 (hx) (by kernel_rfl)) (by kernel_rfl)) (by kernel_rfl)) (by kernel_rfl)) (by rw[HL.out.1];decide)) df n2);have a4:=(show wx.cell? ⟨q1,3,none⟩=some (.slice za zn zc) from GB.cell hG (by cases hx:ll 10 with|false=>rfl|true=>exact absurd (HL.out.2.2 5 0 (HL.out.2.2 6 5 (HL.out.2.2 7 6 (HL.out.2.2 10 7 (hx) (by kernel_rfl)) (by kernel_rfl)) (by kernel_rfl)) (by kernel_rfl)) (by rw[HL.out.1];decide)) df n3);exact NU ho HK Hb Hd HL (hl:=NZ ‹_› ‹_› ‹_› ‹_›)
     |1,_,_|2,_,_|3,_,_=>exact WR ho HK Hb Hd HL
     |10,_,hs=>cases hs
     |4,_,_=>obtain rfl:=yH ho;have d3:(a.tmps[71]?.getD undef)= .int .i64 fr:=DT Hd HL 3;have dA:=Ba HL 10;clear Hd Hb;refine yG ?_;go_simp;refine(CP.out _).mono ?_;rintro r w_ ⟨rfl,bl⟩;exact HK.out _ _ rfl bl
     |5,_,_=>
      obtain rfl:=yH ho;have d0:(a.tmps[68]?.getD undef)= .agg #[.slice ua un uc, .slice va vn vc, .slice ya yn yc, .slice za zn zc]:=DT Hd HL 0;have d1:(a.tmps[69]?.getD undef)= .int .i64 0:=DT Hd HL 1;have d2:(a.tmps[70]?.getD undef)= .int .i64 k:=DT Hd HL 2;have d4:(a.tmps[72]?.getD undef)= .int .i64 en_:=DT Hd HL 4;have dA:=Ba HL 10;clear Hd Hb;refine yG ?_;go_simp;have fL:Below W2.heap.size W2 wx:=by
       rw[show ll 10=false from(by cases hx:ll 10 with|false=>rfl|true=>exact absurd (HL.out.2.2 6 5 (HL.out.2.2 7 6 (HL.out.2.2 10 7 (hx) (by kernel_rfl)) (by kernel_rfl)) (by kernel_rfl)) (by rw[HL.out.1];decide))] at hG;exact hG
      refine(CM.out _ fL).mono ?_;rintro r w_ ⟨m',i',e',c',rfl,hO,bl⟩;exact HK.out _ _ ⟨m',i',e',c',rfl,hO.lower fL.size⟩ bl
     |6,_,_=>obtain rfl:=yH ho;have d5:Ed W2.heap.size (a.tmps[73]?.getD undef) wx (Ds (3*k+6)) 0 true:=DT Hd HL 5;have dA:=Ba HL 10;clear Hd Hb;refine yG ?_;go_simp;exact HK.out _ _ d5 (yF _ _)
     |7,_,_=>obtain rfl:=yH ho;have d6:Ed W2.heap.size (a.tmps[67]?.getD undef) wx (Ds (3*k+6)) 0 true:=DT Hd HL 6;have dA:=Ba HL 10;clear Hd Hb;obtain⟨m',i',e',c',d6,hO⟩:=d6;refine yG ?_;go_simp;exact HK.out _ _ ⟨_,_,_,_,rfl,hO⟩ (yF _ _)
     |8,_,_=>obtain rfl:=yH ho;have d6:Ed W2.heap.size (a.tmps[67]?.getD undef) wx (Ds (3*k+6)) 0 true:=DT Hd HL 6;clear Hd Hb;obtain⟨m',i',e',c',d6,hO⟩:=d6;refine yG ?_;go_simp;exact HK.out _ _ rfl (yF _ _)
     |9,_,_=>obtain rfl:=yH ho;have d6:Ed W2.heap.size (a.tmps[67]?.getD undef) wx (Ds (3*k+6)) 0 true:=DT Hd HL 6;clear Hd Hb;obtain⟨m',i',e',c',d6,hO⟩:=d6;refine yG ?_;go_simp;exact HK.out _ _ rfl (yF _ _)
    .intro i hi hS o ho a wx Hb ll Hd HL hG K HK
     match i,hi,hS with
     |0,_,hs|1,_,hs|2,_,hs|3,_,hs|4,_,hs|5,_,hs|6,_,hs|7,_,hs|8,_,hs|9,_,hs=>cases hs
     |10,_,_=>
      obtain rfl:=yH ho;have cB:a.tmps[10]?.getD undef= .pointer (some ⟨q1,0,none⟩):=eg (OV Hb 10);have d7:GU W2.heap.size (a.tmps[74]?.getD undef) wx (Ds (3*k+6)):=DT Hd HL 7;clear Hd Hb;rw[HL.out.1] at hG;replace hG:Below W2.heap.size W2 wx:=hG;obtain⟨m',i',e',c',d7,hO⟩:=d7;obtain⟨⟨va,vn,vc,rfl⟩,⟨wa,wn,wc,rfl⟩,⟨xa,xn,xc,rfl⟩,⟨ya,yn,yc,rfl⟩⟩:=hO.zS;have bg:=AC ch hG;obtain⟨c0,eM,c2,c3⟩:=AF bg;have fq:=AK bg;have al:=AA (Ao wx (q1) (.slice va vn vc) (.slice wa wn wc) (.slice xa xn xc) (.slice ya yn yc));have Hq:=AA bg;have HO:=AA hO;clear bg hO;refine yG ?_;go_simp;exact HK.out undef _ trivial (by show GB _ _ _ (F8 ll 10 10) _;rw[Ge];exact⟨wx,_,_,_,_,hG,HO.out,yF _ _⟩) (fun j cK dk cy hu=>match j,dk with
       |0,_|1,_|2,_|3,_|4,_|8,_|9,_=>hu
       |5,_|6,_=>Ed.yN hu al.out Hq.out
       |7,_=>GU.yN hu al.out Hq.out
       |10,_=>absurd rfl cK)
    .intro vs wx ll a3 hR hG
     have q8:(vs 8)= .int .i64 0:=BZ hR 8;clear hR;simp only[Dc,Bq,yE,yB,yA,yy,q8];simp;clear q8;rw[a3 10 (by decide)] at hG;obtain⟨wz,m3,i3,e3,c3,bB,hO,db⟩:=hG;have bA:Below (Es wz q1 m3 i3 e3 c3).heap.size (Es wz q1 m3 i3 e3 c3) wx:=by simpa[Es] using db
     have I3:=(I2.out.put bB hO).below bA;have K3:=(hO.yN (Ao wz q1 m3 i3 e3 c3) (AC ch bB)).below bA;have B3:=B2.out.trans ((AM (bB.mono I2.out.yL.2.2.2) (Ao wz q1 m3 i3 e3 c3) I2.out.yL.2.2.1 (yD I2.out.yL.2.2.2 bB.size):Below W0.heap.size W2 _).trans (bA.mono (yD I2.out.yL.2.2.2 (yD bB.size (Ao wz q1 m3 i3 e3 c3).size))));have dj:∀b,(Value.slice la ln lc).ownBlock=some b->b<W2.heap.size:=fun b hb=>(yr I2.out.low b hb).2
     have hQ:=I2.out.yL.2.2.2;clear a3 bB db bA hO ch df n0 n1 n2 n3 CM CP;have fm:=Ra k;have HP:=AA (fun w4 w5 o' (b4:Below wx.heap.size wx w4) q1 (q2:w4.grownBy w5 (Value.slice la ln lc).ownBlock)=>Js.push (o':=o') (w5:=w5) I3 K3 hQ dj b4 q1 q2 iw.out);obtain⟨_,_,_,_,_,c5,_⟩:=AE I3.pb;have f5:=AK I3.pb;have b4:=AD wx (.cells #[.int .i64 fr] 3);have cl:(wx.alloc (.cells #[.int .i64 fr] 3)).ownsRow W0.heap.size 3 1 (.slice la ln lc) k ((LA k).map (yf .i64)):=by have:=AG.below I3.low b4;unfold AG at this;rwa [fm] at this
     have gY:ln=k:=by obtain⟨_,_,hv,_⟩:=I3.low.rd.open;simp only[xD] at hv;rw[fm] at hv;exact hv.2.1
     subst gY;have L4:=yD I3.yL.2.2.2 b4.size;have HI:=AA (ye B3 (ye b4 L4));have g4:=AA I3.yL.1;have hL:=I3.yL.2.2.2;clear I3 I2 K3 B3 B2 dj;go_wp2_with (at_builtin;go_must (refine Be (lo:=W0.heap.size) (n:=ln) (xs:=(LA ln).map (yf .i64)) (m:=1) (news:=[.int .i64 fr]) rfl rfl 3 (.int .i64 0) 1 8 underlying29 Tryz.zK rfl (by decide) rfl cl rfl (Rd.zE _ #[_] _ 1 1 _ (by simp) rfl (by simp[maxLen])) (by simp[Value.oneCell']) (by unfold maxLen;omega) (by omega) L4 ?_;intro o' w5 ed ff gJ fe;obtain⟨oa,on,oc,rfl⟩:=Lg ed;have X:=HP.out _ _ _ HI.out.2.1 ed ff;have f6:=AK X.1;have c6:=cell_of_row _ _ 5 _ _ _ X.1;have HX:=AA X.2;have HQ:=AA fe;obtain⟨k0,k1,k2,k3⟩:=AF HX.out.kb;obtain⟨xa,xb,xc,xd,ey⟩:=HX.out.gb;obtain⟨v0,v1,v2,v3⟩:=AF ey;have jj:=AK ey;obtain⟨⟨gH,gv,gD,rfl⟩,⟨gG,gu,gz,rfl⟩,⟨gF,gt,gy,rfl⟩,⟨gE,gp,gx,rfl⟩⟩:=HX.out.ker.zS;clear X ed ff gJ fe cl ey));have B5:=AA (AM (HI.out.1.trans ((HI.out.2.1.mono hL).trans HQ.out)) (Aq w5 g 5 (.slice oa on oc)) g4.out (yD HI.out.2.2 HQ.out.size));have I6:=HX.out.back;have B6:=AM B5.out (Ao _ gk (.slice gH gv gD) (.slice gG gu gz) (.slice gF gt gy) (.slice gE gp gx)) HX.out.yL.2.1 HX.out.yL.2.2.2;go_roundw
     case rel=>exact⟨ln+1,by omega,by go_num,_,_,_,_,_,_,_,I6,B6⟩
     case measure=>simp[intOf];omega
   .obtain rfl:k=4:=by omega
    obtain⟨⟨ka,kn,kc,eL⟩,⟨ja,jn,jc,eK⟩,⟨fa,fn,fc,eJ⟩,⟨ra,rn,rc,eI⟩⟩:=I0.out.ker.zS;subst eL eK eJ eI;obtain⟨k0,k1,k2,k3⟩:=AF I0.out.kb;have cj:=I0.out.pb;have al:=Ao wr g (.slice ka kn kc) (.slice ja jn jc) (.slice fa fn fc) (.slice ra rn rc);have N1:=JL (m':= .slice ka kn kc) (i':= .slice ja jn jc) (e':= .slice fa fn fc) (c':= .slice ra rn rc) cj;have dY:=(B0.out.block w.heap.size cL).trans HN.out;have bi:=Ap dY al (by have:=I0.out.yL.1;omega);obtain⟨x0,x1,x2,x3,x4,x5,x6,x7,x8⟩:=AE cj;have fz:=AK cj;obtain⟨z0,z1,z2,z3,z4,z5,z6,z7,z8⟩:=AE N1;obtain⟨y0,y1,y2,y3,y4,y5,y6,y7,y8⟩:=AE bi;have fy:=AK bi;have bm:=Ex (w:=((((wr.setCell ⟨g,0,none⟩ (.slice ka kn kc)).setCell ⟨g,1,none⟩ (.slice ja jn jc)).setCell ⟨g,2,none⟩ (.slice fa fn fc)).setCell ⟨g,3,none⟩ (.slice ra rn rc))) (g:=w.heap.size) (b0:= .slice ka kn kc) (b1:= .slice ja jn jc) (b2:= .slice fa fn fc) (b3:= .slice ra rn rc) (b4:= .slice sa sn sc) (b5:= .slice la ln lc) (b6:= .slice pa pn pc) (b7:= .int .i64 0) (b8:= .int .i64 l);have NN:=GO (b0:= .slice ka kn kc) (b1:= .slice ja jn jc) (b2:= .slice fa fn fc) (b3:= .slice ra rn rc) (b4:= .slice sa sn sc) (b5:= .slice la ln lc) (b6:= .slice pa pn pc) (b7:= .int .i64 0) (b8:= .int .i64 l) bi;have RK:=(((I0.out.ker.yN al cj).yN bm bi).sf);have RS:=((I0.out.swp.yN al cj).yN bm bi).sf;have RL:AG _ _ _ _:=Eo (Eo I0.out.low al cj (by decide)) bm bi;have RQ:=AP.yN (AP.yN I0.out.pgs al cj (by decide)) bm bi;have RP:=AA (show Nn w.heap.size _ (.slice ka kn kc) (.slice ja jn jc) (.slice fa fn fc) (.slice ra rn rc) (.slice sa sn sc) (.slice la ln lc) (.slice pa pn pc) (Uc l) from Nn.map (lo:=W0.heap.size) ⟨by have:=RK;rw[show 3*4+3=15 from rfl,Vs] at this;exact this,RS,RL,RQ⟩ (fun _ _ _ _ _ _ _ h=>BR h (Nat.le_of_lt cL)));have BF:=AA (AM (AM (Hb.out.trans (B0.out.mono Hb.out.size)) al (by have:=I0.out.yL.1;omega) (yD (yD Hb.out.size (yv _)) I0.out.yL.2.2.2)) bm (yv _) (yD (yD Hb.out.size I0.out.yL.2.2.2) al.size));have HE:=AA (AE NN);clear RK RS RL RQ bm NN al N1 dY bi cj I0 B0;rw[show((4:Nat):Int)=4 from rfl];go_wp2_with fail;obtain⟨E0,E1,E2,E3,E4,E5,E6,E7,E8⟩:=HE.out;unfold Er at E0 E1 E2 E3 E4 E5 E6 E7 E8;exact yp (v:= .tuple #[.agg #[_,_,_,_,_,_,_,_,_],_]) (by simp[results,Tryz.results101,go_sem,E0,E1,E2,E3,E4,E5,E6,E7,E8];exact⟨rfl,rfl⟩) rfl ⟨_,_,_,_,_,_,_,rfl,RP.out,BF.out⟩
theorem TP (v:Value) (s:List (List Int)) (sl:Int) (w:World) (h:Bc w v s) (hs:Ey s=true):Calls prog 100 #[v, .int .i64 sl] w fun e w'=>(∃v',e= .returned (.tuple #[v', .bool (Bd sl 0 15&&!(AH s sl.toNat).isEmpty)]))/\Below w.heap.size w w':=by
 have CV:=G0 v s w h;rw[hs] at CV;have Hl:=AA (F7.1 hs).1;have iq:=AA (F7.1 hs).2;obtain⟨ao,c,rfl,hc,_,H⟩:=h.open;have CV:=AA CV;have HH:=AA H;generalize hbb:(Bd sl 0 15&&!(AH s sl.toNat).isEmpty)=bb;have cF:=AA hbb;clear h H hs hbb;go_in;go_wp2_with fail;refine CV.out.mono ?_;rintro r w1 ⟨rfl,b1⟩;go_wp2_with fail;refine(Cv _ _ _ _).mono ?_;rintro r w2 ⟨rfl,rfl⟩;cases bV:Bd sl 0 15
 .obtain rfl:bb=false:=by rw[<-cF.out,bV];rfl
  clear bV cF;go_wp2_with fail;exact yp (v:= .tuple #[.slice (some ⟨w1.heap.size,0,none⟩) 0 0, .bool false]) (by simp[results,uz,go_sem]) rfl ⟨⟨_,rfl⟩,b1.trans ((AD _ _).mono b1.size)⟩
 .have ab:=Ac.1 bV
  obtain⟨n,rfl⟩:∃n:Nat,sl=(n:Int):=⟨sl.toNat,by omega⟩
  have eu:n<16:=by omega
  have i8:(n:Int)<s.length:=by have:=Hl.out;omega
  obtain⟨b,iY,u,rfl,jf,D,hr⟩:=(HH.out.below b1) n (by have:=Hl.out;omega);obtain⟨au,cu,rfl,_,_,_⟩:=hr.open;rw[xY,bV,Bool.true_and] at cF
  by_cases he:(AH s n).length=0
  .have t0:(((AH s n).length:Int)==0)=true:=by simp[he]
   obtain rfl:bb=false:=by rw[<-cF.out,List.isEmpty_iff.2 (List.eq_nil_of_length_eq_zero he)];rfl
   clear hr he bV cF ab;go_wp2_with fail;exact yp (v:= .tuple #[.slice (some ⟨w1.heap.size,0,none⟩) 0 0, .bool false]) (by simp[results,uz,go_sem]) rfl ⟨⟨_,rfl⟩,b1.trans ((AD _ _).mono b1.size)⟩
  .have t0:(((AH s n).length:Int)==0)=false:=beq_eq_false_iff_ne.2 (by omega)
   obtain rfl:bb=true:=by rw[<-cF.out];cases hx:AH s n;rw[hx] at he;exact absurd rfl he;rfl
   have fw:(AH s n).length<=4:=by
    rcases iq.out n eu with h0|h0
    .rw[h0];simp
    .exact Nat.le_of_eq (A5.1 h0).1
   have HR:=AA (Ax.below hr (AD w1 (.cells #[] 3)));have D':=((AD w1 (.cells #[] 3)).cell (yC _ _ D)).trans D;have fO:=AA b1;clear he bV hr cF ab;go_wp2_with (at_builtin;refine Mz rfl rfl underlying29 rfl (FF w1) rfl HR.out (by omega) (AD w1 (.cells #[] 3)).size ?_;intro u' w9 hu cn;have iy:=AA cn;clear hu cn);exact yp (v:= .tuple #[_, .bool true]) (by simp[results,uz,go_sem];rfl) rfl ⟨⟨_,rfl⟩,fO.out.trans (((AD w1 (.cells #[] 3)).trans iy.out).mono fO.out.size)⟩
structure af (P:AR):Prop where
 k:Cj P.zX=true
 s:Ey P.swap=true
 ll:P.low.length=4
 lr:∀i,i<4->0<=BG P.low i/\BG P.low i<=11
 pl:P.No.length=16
theorem Vt (xs:List Bi):∀u∈Ch Cz xs,u.oneCell'=true:=by
 intro u hu;obtain⟨s,_,hs⟩:=List.mem_flatMap.1 hu;simp[Cz] at hs
 rcases hs with rfl|rfl|rfl<;>rfl
theorem K5 (mv iv ev cv sv lv qv:Value) (P:AR) (w:World) (h:Lr w mv iv ev cv sv lv qv P) (hP:EC P):
 Calls prog 26 #[AQ mv iv ev cv sv lv qv P.zT P.zW] w (OX w P):=by
 unfold AQ OX;obtain⟨N0,N1,aq,cg⟩:=Jp w (.cells #[mv,iv,ev,cv,sv,lv,qv, .int .i64 P.zT, .int .i64 P.zW] 32) (.cells #[.slice none 0 0, .slice none 0 0, .slice none 0 0, .slice none 0 0, .slice none 0 0, .slice none 0 0, .slice none 0 0, .int .i64 0, .int .i64 0] 32);have HR:=AA h;have eo:=AA (Ue hP);have gZ:=AA hP.zv;have dg:=AA hP.zQ;have CK:=AA (Ky mv iv ev cv P.zX _ (h.1.below aq) hP.k);obtain⟨x0,x1,x2,x3,_⟩:=AE N0;have ip:=AA cg;clear h hP cg;go_in;go_wp2_with fail;generalize(w.alloc _).alloc _=W0 at*;refine CK.out.mono ?_;rintro r w1 ⟨m1,i1,e1,c1,rfl,O1,b1⟩;obtain⟨⟨ma,mn,mc,rfl⟩,⟨ia,iN,ic,rfl⟩,⟨ea,en,ec,rfl⟩,⟨ka,kn,kc,rfl⟩⟩:=O1.zS;have B1:=AC N0 b1;have R1:=AC N1 b1;have f1:=AK B1;obtain⟨y0,y1,y2,y3,_⟩:=AE B1;have B2:=JL (m':= .slice ma mn mc) (i':= .slice ia iN ic) (e':= .slice ea en ec) (c':= .slice ka kn kc) B1;have G2:=Ao w1 w.heap.size (.slice ma mn mc) (.slice ia iN ic) (.slice ea en ec) (.slice ka kn kc);have b2:=AM (aq.trans (b1.mono aq.size)) G2 (yv _) (yD aq.size b1.size);have fk:=yD aq.size (yv W0.heap.size);generalize hW2:(((w1.setCell _ _).setCell _ _).setCell _ _).setCell _ _=W2 at B2 G2 b2;obtain⟨_,_,_,_,c4,_⟩:=AE B2;have cH:=AA (ye B1 R1);have dY:=AA B2;have gg:=AA G2;have dx:=AA b2;have gf:=AA (O1.lower aq.size);have ir:=AA fk;clear x0 x1 x2 x3 N0 N1 b1 O1 B1 R1 B2 G2 b2 aq CK fk;go_wp2_with fail;clear y0 y1 y2 y3 f1 c4;refine(ME sv P.swap W2 (HR.out.2.1.below dx.out) (by have:=eo.out.1;omega) (fun f hf=>by have h1:=eo.out.1;have:=eo.out.2 f (by omega);omega)).mono ?_;rintro r w3 ⟨v3,vs,rfl,O3,b3⟩;obtain⟨sa,sn,sc,rfl⟩:∃a n c,v3= .slice a n c:=by obtain⟨_,_,rfl,_,_⟩:=O3.1.rd.shape;exact⟨_,_,_,rfl⟩
 have B3:=AC dY.out b3;have f3:=AK B3;obtain⟨_,_,_,_,y4,_⟩:=AE B3;have G4:=Aq w3 w.heap.size 4 (.slice sa sn sc);have B4:=yu w3 w.heap.size 4 _ 32 (.slice sa sn sc) B3;have b4:=AM (dx.out.trans (b3.mono dx.out.size)) G4 (yv _) (yD dx.out.size b3.size);generalize hW4:w3.setCell _ _=W4 at B4 G4 b4;replace B4:W4.heap[w.heap.size]? =some (.cells #[.slice ma mn mc, .slice ia iN ic, .slice ea en ec, .slice ka kn kc, .slice sa sn sc,lv,qv, .int .i64 P.zT, .int .i64 P.zW] 32 (0,0)):=by simpa using B4
 obtain⟨_,_,_,_,_,c5,_⟩:=AE B4;have bi:=AA B3;have bw:=AA B4;have iO:=AA G4;have dS:=AA b4;have gd:=AA O3;have iA:=AA b3;have RL:=AA (Ax.below HR.out.2.2.1 (b4.trans ((AD W4 (.cells #[] 3)).mono b4.size)));have ib:=((AD W4 (.cells #[] 3)).cell (yC _ _ c5)).trans c5;clear B3 B4 G4 b4 O3 b3;go_wp2_with (first|(at_builtin;refine Mz rfl rfl underlying29 rfl (FF W4) rfl RL.out (by have:=gZ.out;omega) (AD W4 (.cells #[] 3)).size ?_;intro u5 w5 hu bX;obtain⟨la,da,rfl,_⟩:=(AG.rd hu).open;have b5:=(AD W4 (.cells #[] 3)).trans bX;have B5:=AC bw.out b5;have f5:=AK B5;obtain⟨_,_,_,_,_,y5,_⟩:=AE B5;have G6:=Aq w5 w.heap.size 5 (.slice la P.low.length da);have B6:=yu w5 w.heap.size 5 _ 32 (.slice la P.low.length da) B5;have b6:=AM (dS.out.trans (b5.mono dS.out.size)) G6 (yv _) (yD dS.out.size b5.size);generalize hW6:w5.setCell _ _=W6 at B6 G6 b6;replace B6:W6.heap[w.heap.size]? =some (.cells #[.slice ma mn mc, .slice ia iN ic, .slice ea en ec, .slice ka kn kc, .slice sa sn sc, .slice la P.low.length da,qv, .int .i64 P.zT, .int .i64 P.zW] 32 (0,0)):=(by simpa using B6);obtain⟨_,_,_,_,_,_,c6,_⟩:=AE B6;have h9:=((AD W6 (.cells #[] 40)).cell (yC _ _ c6)).trans c6;have HU:=AA hu;have iS:=AA B5;have iR:=AA B6;have iM:=AA G6;have iz:=AA b5;have cU:=AA b6;have RQ:=AA (BJ.below HR.out.2.2.2 (cU.out.trans ((AD W6 (.cells #[] 40)).mono cU.out.size)));clear hu bX b5 B5 G6 B6 b6 c5 ib y4 f3)|(at_builtin;go_must (refine FI (cs:=Cz) rfl rfl 40 (.agg #[.int .i64 0, .int .i64 0, .bool false]) 3 24 underlying30 Tryz.zl rfl (by decide) rfl (By Cz W6 _ _) rfl RQ.out (Vt _) (by have:=dg.out;omega) (by decide) (AD W6 (.cells #[] 40)).size ?_;intro u7 w7 hq cN;obtain⟨pa,dB,rfl,_⟩:=hq.rd.shape;have b7:=(AD W6 (.cells #[] 40)).trans cN;have B7:=AC iR.out b7;have f7:=AK B7;obtain⟨_,_,_,_,_,_,y6,_⟩:=AE B7;have G8:=Aq w7 w.heap.size 6 (.slice pa P.No.length dB);have B8:=yu w7 w.heap.size 6 _ 32 (.slice pa P.No.length dB) B7;have b8:=AM (cU.out.trans (b7.mono cU.out.size)) G8 (yv _) (yD cU.out.size b7.size);generalize hW8:w7.setCell _ _=W8 at B8 G8 b8;replace B8:W8.heap[w.heap.size]? =some (.cells #[.slice ma mn mc, .slice ia iN ic, .slice ea en ec, .slice ka kn kc, .slice sa sn sc, .slice la P.low.length da, .slice pa P.No.length dB, .int .i64 P.zT, .int .i64 P.zW] 32 (0,0)):=(by simpa using B8);have eF:=AO iM.out (AO (AW b7 _) G8);have eG:=AO iO.out (AO (AW iz.out _) eF);have eH:=AO gg.out (AO (AW iA.out _) eG);have R8:=Ap cH.out.2 eH (by omega);have O8:Ez w.heap.size W8 (.slice ma mn mc) (.slice ia iN ic) (.slice ea en ec) (.slice ka kn kc) (.slice sa sn sc) (.slice la P.low.length da) (.slice pa P.No.length dB) P:=⟨gf.out.yN eH cH.out.1,⟨vs,(gd.out.yN eG bi.out).lower dx.out.size⟩,BR (Eo HU.out eF iS.out) dS.out.size,BR (AP.yN hq G8 B7) cU.out.size,fun b hb hE=>(by obtain⟨us,r1⟩:=gf.out.1;have q1:=(yr r1.1 b hb).2;have q2:=(yr gd.out.1 b hE).1;have q3:=gg.out.size;omega)⟩;have S9:=DD R8 O8;obtain⟨d0,d1,d2,d3,d4,d5,d6,d7,d8⟩:=AE B8;obtain⟨z0,z1,z2,z3,z4,z5,z6,z7,z8⟩:=AE R8;have f8:=AK R8;have iD:=AA S9;have fX:=AA b8;clear hq cN b7 B7 G8 B8 b8 eF eG eH R8 O8 S9 c6 h9 y5 f5)))
 obtain⟨N9,O9,hY⟩:=iD.out;have B9:=AM fX.out hY (by omega) fX.out.size;unfold Er at N9 O9 B9;exact yp (v:= .agg #[_,_,_,_,_,_,_,_,_]) (by simp[results,Tryz.results26,go_sem,AE N9]) rfl ⟨_,_,_,_,_,_,_,rfl,O9,B9⟩
theorem TQ (v u:Value) (S:List (List Int)) (r:List Int) (w:World) (h:Bc w v S) (hs:Ey S=true) (hr:Ax w u r) (eq:Dh r=true) {j:Nat} (hj:BW S=(j:Int)) (g2:j<16):
 Calls prog 120 #[v,u] w fun e w'=>(∃v' vs,e= .returned (.tuple #[v', .int .i64 j, .bool true])/\At w.heap.size w' v' vs (S.set j r))/\Below w.heap.size w w':=by
 have C1:=UT v S w h;rw[hj] at C1;have C1:=AA C1;have C2:=AA (fun W (hW:Below w.heap.size w W)=>by have:=G0 v S W (h.below hW);rw[hs] at this;exact this);have C3:=AA (fun W (hW:Below w.heap.size w W)=>by have:=K4 u r W (Ax.below hr hW);rw[eq] at this;exact this);have fu:=(F7.1 hs).1;have ft:=(F7.1 hs).2;have gT:∀f,f<S.length->(AH S f).length<=100:=fun f hf=>by
  rcases ft f (by omega) with h0|h0
  .rw[h0];simp
  .have:=(A5.1 h0).1;omega
 have C4:=AA (fun W (hW:Below w.heap.size w W)=>ME v S W (h.below hW) (by omega) gT);have HR:=AA (fun W (hW:Below w.heap.size w W)=>Ax.below hr hW);have fw:r.length<=1048576:=by have:=(A5.1 eq).1;omega
 have io:=AA fu;have jb:¬(j:Int)<0:=by omega
 have jd:(j:Int)<16:=by omega
 clear h hs hr eq fu ft hj;go_in;go_wp2_with fail;refine C1.out.mono ?_;rintro e w1 ⟨rfl,b1⟩;go_wp2_with fail;refine(C2.out _ b1).mono ?_;rintro e w2 ⟨rfl,b2⟩;have B2:=b1.trans (b2.mono b1.size);go_wp2_with fail;refine(C3.out _ B2).mono ?_;rintro e w3 ⟨rfl,b3⟩;have B3:=B2.trans (b3.mono B2.size);clear b1 b2 b3 B2;go_wp2_with fail;refine(C4.out _ B3).mono ?_;rintro e w4 ⟨v',vs,rfl,O4,b4⟩;have el:vs.length=16:=by rw[O4.2.1.1];exact io.out
 obtain⟨gs,bf,rfl,c1,c2,q1,q2,bo⟩:=O4.1.zO (by omega);rw[el] at O4 c1 ⊢;have B4:=B3.trans (b4.mono B3.size);have bw:=AA B4;have bi:=AA B3;have ga:=AA O4;have dO:=AA el;have iF:=AA (HR.out _ (B4.trans ((AD w4 (.cells #[] 3)).mono B4.size)));clear O4 b4 B3 B4 bo el;go_wp2_with (at_builtin;refine Mz rfl rfl underlying29 rfl (FF w4) rfl iF.out fw (AD w4 (.cells #[] 3)).size ?_;intro u5 w5 hu bX;have b5:=(AD w4 (.cells #[] 3)).trans bX;have R:=ga.out.set (B:=w4.heap.size) (j:=j) b5 hu (yv _) (by omega) dO.out.symm (by have:=dO.out;omega);have g1:w5.ownsRow w3.heap.size 29 1 (.slice (some ⟨gs,0,none⟩) 16 bf) 16 vs:=(by have:=(ga.out.below b5).1;unfold AP at this;rwa [Ga,dO.out] at this);have K1:=World.ownsRow.cellAt g1 j (by omega);rw[List.getElem?_eq_getElem (by have:=dO.out;omega)] at K1;have F1:=World.ownsRow.frozenAt g1 j;have iG:=AA (R.1.lower bi.out.size);have B6:=AA (AM (bw.out.trans (b5.mono bw.out.size)) R.2 (by have:=bi.out.size;omega) (yD bw.out.size b5.size));obtain⟨ra,rn,rc,rfl⟩:=Lg hu;have jp:(16:Int)<=bf:=(by omega);clear R g1 hu bX b5);exact yp (v:= .tuple #[_,_, .bool true]) (by simp[results,Tryz.results120,go_sem]) rfl ⟨⟨_,_,rfl,iG.out⟩,B6.out⟩
def Ei (w w':World):Prop:=∀(b:Nat) (cu:Array Value),w.heap[b]? =some (.cells cu 32 (0,0))->w'.heap[b]? =some (.cells cu 32 (0,0))
section
variable {w w1 w2:World} {p T:Nat} {cu:Array Value}
theorem Ei.refl (w:World):Ei w w:=fun _ _ h=>h
theorem Ei.trans (h:Ei w w1) (h':Ei w1 w2):Ei w w2:=fun b cu hb=>h' b cu (h b cu hb)
theorem Ei.below (h:Ei w w1) (hb:Below w1.heap.size w1 w2):Ei w w2:=fun b cu hB=>AC (h b cu hB) hb
theorem Ei.fresh (h:Ei w w1) (hg:w1.grownBy w2 (some p)) (hp:w.heap.size<=p):Ei w w2:=fun b cu hB=>Ap (h b cu hB) hg (by have:=AY hB;omega)
theorem Ei.other (h:Ei w w1) (hg:w1.grownBy w2 (some p)) (hB:w1.heap[p]? =some (.cells cu T (0,0))) (hT:T≠32):Ei w w2:=fun b c hb=>Ap (h b c hb) hg (Bo hB (h b c hb) hT)
end
def Uu:Option Nat->Int
 |some n=>(n:Int)
 |none=> -1
def U9 (lo:Nat) (w:World) (m i e c s l q:Value) (P:AR) (t:List Bi×Int×Option Nat) (r:Ending) (w':World):Prop:=
 r= .returned (.tuple #[AQ m i e c s l q t.2.1 P.zW, .int .i64 (Uu t.2.2)])/\Ez lo w' m i e c s l q {P with No:=t.1,zT:=t.2.1}/\Below lo w w'/\Ei w w'
theorem Qe {lo:Nat} {w:World} {sv lv qv:Value} {P:AR} (h:Ez lo w mv iv ev cv sv lv qv P) (a2:lo<=w.heap.size) (hP:EC P):
 Calls prog 59 #[AQ mv iv ev cv sv lv qv P.zT P.zW] w (U9 lo w mv iv ev cv sv lv qv P (CQ 32 P.No P.zT)):=by
 unfold AQ U9 AQ;obtain⟨N0,N1,aq,cg⟩:=Jp w (.cells #[mv,iv,ev,cv,sv,lv,qv, .int .i64 P.zT, .int .i64 P.zW] 32) (.cells #[.slice none 0 0, .slice none 0 0, .slice none 0 0, .slice none 0 0, .slice none 0 0, .slice none 0 0, .slice none 0 0, .int .i64 0, .int .i64 0] 32);have HI:=AA (⟨N0,a2,h.below aq⟩:Gg lo w.heap.size _ mv iv ev cv sv lv qv P);obtain⟨⟨⟨ma,mn,mc,rfl⟩,⟨ia,iN,ic,rfl⟩,⟨ea,en,ec,rfl⟩,⟨ka,kn,kc,rfl⟩⟩,⟨sa,sn,sc,rfl⟩,⟨la,ln,lc,rfl⟩,⟨pa,pn,pc,e7⟩⟩:=h.zS;obtain⟨gq,qc,e8,gU,gX,je,gM,_⟩:=HI.out.page (n:=0) (by rw[hP.zQ];omega);rw[hP.zQ] at e8 gU;subst e8;clear e7;have ip:=AA cg;have it:=AA (yD a2 aq.size);have iB:=AA (aq.mono a2);have iE:=AA ((Ei.refl w).below aq);have iJ:=AA N1;have cT:=AA a2;have hH:=AA hP;have hh:=hP.zT;have gL:=gM.symm;generalize hv:CQ 32 P.No P.zT=t;obtain⟨pg,hd,o⟩:=t;have hV:=AA hv;clear h hP a2 N0 N1 aq cg hv;go_in;go_wp2_with fail;generalize(w.alloc _).alloc _=W0 at*;generalize hg:w.heap.size=g at*;have Hg:=AA hg;clear hg;go_loopw [4,5] (fun ix _ wr=>∃k No zT,k<=32/\ix= .int .i64 ((32 - k:Nat):Int)/\Gg lo g wr (.slice ma mn mc) (.slice ia iN ic) (.slice ea en ec) (.slice ka kn kc) (.slice sa sn sc) (.slice la ln lc) (.slice (some ⟨gq,0,none⟩) 16 qc) {P with No:=No,zT:=zT}/\wr.heap[g+1]? =some (.cells #[.slice none 0 0, .slice none 0 0, .slice none 0 0, .slice none 0 0, .slice none 0 0, .slice none 0 0, .slice none 0 0, .int .i64 0, .int .i64 0] 32 (0,0))/\CQ k No zT=(pg,hd,o)/\C8 P.No No/\0<=zT/\zT<=15/\Below lo w wr/\Ei w wr) (fun ix _ _=>32 - (intOf ix).toNat)
 case atStart=>exact⟨32,P.No,P.zT,yv _,rfl,HI.out,iJ.out,hV.out,C8.refl _,hh.1,hh.2,iB.out,iE.out⟩
 case round=>
  obtain⟨k,No,zT,hk,rfl,hI,hN,bt,hU,h0,hX,hb,hst⟩:=hrel;cases k with
  |zero=>
   obtain⟨rfl,rfl,rfl⟩:No=pg/\zT=hd/\none=o:=by unfold CQ at bt;simpa using bt
   have HS:=AA (DD hN hI.own);obtain⟨x0,x1,x2,x3,x4,x5,x6,x7,x8⟩:=hI.cells;obtain⟨z0,z1,z2,z3,z4,z5,z6,z7,z8⟩:=AE hN;have fz:=AK hN;have Hb:=AA hb;have im:=AA hst;clear hI hN hb hst hU bt hk;rw[show((32 - 0:Nat):Int)=32 from rfl];go_wp2_with fail;obtain⟨N2,O2,bm⟩:=HS.out;have B2:=AM Hb.out bm (by have:=Hg.out;have:=cT.out;omega) (by have:=Hb.out.size;have:=Hg.out;have:=cT.out;omega);have T2:=im.out.fresh bm (by have:=Hg.out;omega);unfold Er at N2 O2 B2 T2;exact yp (v:= .tuple #[.agg #[_,_,_,_,_,_,_,_,_],_]) (by simp[results,sT,go_sem,Uu,AE N2]) rfl ⟨rfl,O2,B2,T2⟩
  |succ k=>
   rw[OM] at bt;obtain⟨j,rfl⟩:∃j:Nat,zT=(j:Int):=⟨zT.toNat,by omega⟩
   rw[xY] at bt;unfold EV at bt;have hj:j<16:=by omega
   have cK:(j:Int)<16:=by omega
   obtain⟨ix,hix⟩:∃ix:Nat,ix=32 - (k+1):=⟨_,rfl⟩
   have g3:(ix:Int)<32:=by omega
   have iu:=AA (show 32 - k=ix+1 by omega);rw[<-hix];clear hix;have dg:No.length=16:=by rw[hU.len];exact hH.out.zQ
   obtain⟨_,_,_,_,_,_,_,x7,_⟩:=hI.cells;have fg:=AK hI.yM;have P1:=hI.zi (((j:Int)+1)%16);have B1:=AM hb P1.2 hI.yL (by have:=hb.size;have:=Hg.out;have:=cT.out;omega);have N1:=Ap hN P1.2 (by omega);have I1:=P1.1;have T1:=hst.fresh P1.2 (by have:=Hg.out;omega);clear P1 hst;generalize hW1:wr.setCell _ _=W1 at I1 B1 N1 T1;have f2:=AA T1;clear T1;obtain⟨i7,fq,p0,p1,p2⟩:=I1.pg (n:=j) (by show j<No.length;rw[dg];exact hj);obtain⟨c0,c1,c2,c3,c4,c5,c6,c7,c8⟩:=I1.cells;have dt:0<=((j:Int)+1)%16/\((j:Int)+1)%16<=15:=Le (zT:=(j:Int)) h0 hX;have hx:No[j]? =some (AB No j):=by unfold AB;exact A1 (by omega)
   replace p0:W1.cell? ⟨gq,j*3,none⟩=some (.int .i64 (AB No j).w):=p0;replace p1:W1.cell? ⟨gq,j*3+1,none⟩=some (.int .i64 (AB No j).a):=p1;replace p2:W1.cell? ⟨gq,j*3+2,none⟩=some (.bool (AB No j).u):=p2;have fZ:=AA (C8.trans hU (C8.one No j));have jg:=AA hU;generalize hpj:AB No j=x at bt p0 p1 p2 hx fZ;obtain⟨xw,xa,xu⟩:=x;dsimp only at p0 p1 p2 bt;have HX:=AA hx;have iH:=AA dg;have dX:=AA I1;have cH:=AA B1;have HN:=AA N1;have dy:=AA dt;have HV:=AA bt;have Hk:=AA hk;clear hI hU hx bt dg hb I1 B1 N1 dt hN hpj hk
   by_cases hc:xw=1/\xu=false
   .obtain⟨rfl,rfl⟩:=hc
    have cr:=HV.out;rw[if_pos ⟨rfl,rfl⟩] at cr;simp only[tj] at cr;obtain⟨rfl,rfl,rfl⟩:=cr;clear HV hV;have HS:=AA (DD HN.out dX.out.own);obtain⟨z0,z1,z2,z3,z4,z5,z6,z7,z8⟩:=AE HN.out;have fz:=AK HN.out;go_wp2_with fail;obtain⟨N2,O2,bm⟩:=HS.out;have B2:=AM cH.out bm (by have:=Hg.out;have:=cT.out;omega) (by have:=cH.out.size;have:=Hg.out;have:=cT.out;omega);have T2:=f2.out.fresh bm (by have:=Hg.out;omega);unfold Er at N2 O2 B2 T2;exact yp (v:= .tuple #[.agg #[_,_,_,_,_,_,_,_,_],_]) (by simp[results,sT,go_sem,Uu,AE N2]) rfl ⟨rfl,O2,B2,T2⟩
   .have cr:=HV.out
    rw[if_neg hc] at cr;have iC:=AA cr;have cO:=dX.out.zq (n:=j) (x:=⟨xw,xa,xu⟩) (y:=⟨xw,xa,false⟩) (j:=2) (u:= .bool false) iH.out.symm HX.out (by decide) rfl;have B2:=AA (AM cH.out cO.2.1 cO.2.2 (by have:=cH.out.size;have:=Hg.out;have:=cT.out;omega));have hJ:=AA (Ap HN.out cO.2.1 (by obtain⟨cu,hw⟩:=A6 dX.out.own.pgs gq rfl;exact(Bo hw HN.out)));have iL:=AA cO.1;obtain⟨jl,eA⟩:=A6 dX.out.own.pgs gq rfl;have T2:=AA (f2.out.other cO.2.1 eA (by decide));clear cO cr HV hV
    by_cases eh:xw=1
    focus
     subst eh
     obtain rfl:xu=true:=by
      cases xu
      .exact absurd ⟨rfl,rfl⟩ hc
      .rfl
     clear hc
    rotate_left
    focus
     have t1:(xw==1)=false:=by simp[eh]
     clear hc eh
    rotate_left
    all_goals
     go_wp2_with fail;go_roundw
     case rel=>exact⟨k,_,_,by have:=Hk.out;omega,by rw[iu.out];go_num,iL.out,hJ.out,iC.out,fZ.out,dy.out.1,dy.out.2,B2.out,T2.out⟩
     case measure=>simp[intOf];omega
end Go.Proofs.YtinbcpipjfljeaaGreatDoor
