/-
  Packed:29 texts.
-/
import Derived.Test.YtlcnbkkcplllhaaGreatDoorY1
import Derived.Test.YtlcnbkkcplllhaaGreatDoorY3
import Derived.Test.YtlcnbkkcplllhaaGreatDoorY2
import Derived.Deep.DeepCutAuto
import Derived.Deep.CutBlock
set_option linter.unusedVariables false
set_option linter.unusedSimpArgs false
set_option maxHeartbeats 16000000
set_option maxRecDepth 100000
open Go Go.Proofs.YtlcnbkkcplllhaaGreatDoor
open And renaming intro->yj
open Bool renaming and_eq_true->yD,or_eq_true->xM,true_and->wg
open Go.Exit renaming inBlock->xS
open Go.IntKind renaming i64->wX
open Go.IntWalk renaming i64_in->xJ
open Go.Proofs.Tryz renaming results133->rT,results150->uL,results189->uK,results190->rV,results191->uM,results192->uJ,results193->vw,results194->tR,results195->wl,results196->vx
open Go.RowKit.Below renaming refl->yN
open Go.Value renaming int->yl,oneCell'->xR,slice->xG
open Go.Value.slice renaming injEq->xQ
open Go.World renaming block_lt_of_cell?->yK,size_alloc->xz
open Go renaming bodyPost_ret->yB,cell_of_row->yy,heap_alloc_new->yx,heap_setCell_same->yE
open Int renaming toNat_natCast->yq
open List renaming all_eq_false->xj,all_eq_true->yr,any_eq_true->vP,countP_append->sF,countP_cons->xt,countP_le_length->vX,countP_nil->rU,eq_nil_of_length_eq_zero->xY,foldl_cons->yJ,foldl_nil->yH,getElem?_drop->tZ,length->wV,length_append->yz,length_drop->xh,length_map->vm,length_singleton->xP,length_take->ym,mem_of_getElem?->yv,mem_range->yi,mem_singleton->xD,range->yL,replicate->xW,take_length->xE
open List.range renaming loop->yI
open Nat renaming add_assoc->vq,add_zero->xT,le_add_right->wG,le_refl->yF,le_succ->vS,le_trans->yM,lt_of_lt_of_le->yu,not_lt_zero->xV,zero_add->wT,zero_le->yt
open Go renaming World->Ω,Value->Φ,Calls->Ξ,undef->Θ
open Go.RowKit renaming Below->Γ
variable {f n:Nat} {a cv ev iv mv v:Φ} {x y:Int} {w1 w2:Ω} {ss:List ByteArray}
namespace Go.Proofs.YtlcnbkkcplllhaaGreatDoor
open Go.Proofs.Tryz
open Go.RowKit
variable{kind r wh:Int}
variable{Zh xs:List AX}
theorem SP (h:BG xs=true)(hf:f<12)(jr:(JR xs f).k≠0)(hk:1<=kind/\kind<=3):BG (Ao xs f (Dl kind))=true:=by
 obtain⟨hl,K⟩:=A2.1 h;refine A2.2 ⟨by rw[DI];exact hl,λg hg=>?_⟩;rw[Fy]
 split
 .have:=K f hf
  rw[OJ jr] at this;rw[OJ (x:=Dl kind _) (by show kind≠0;omega)]
  show(Bj kind 1 3&&BR (JR xs f).g&&Bj (JR xs f).r 0 50)=true
  simp only[yD] at this ⊢;exact⟨⟨Aa.2 hk,this.1.2⟩,this.2⟩
 exact K g hg
theorem UM (v iv rv:Φ)(m:List (List Int))(xs:List AX)(f:Nat)(kind:Int)(ss:List ByteArray)(w:Ω)(h:Bl w v m)(b9:By m=true)(hI:Bf w iv xs)(b6:BG xs=true)(hf:f<12)(hk:Bp kind=true)(hv:BY w rv ss)(lJ:DQ ss)(hr:BW ss=true):
 Ξ prog 268 #[v,iv,.int .i64 f,.int .i64 kind,rv] w (Nr (Gc m xs f kind ss) w):=by
 have hl:=(A2.1 b6).1;have na:2<=kind/\kind<=3:=by simp only[Bp,xM,decide_eq_true_eq] at hk;omega
 have jx:=(Iq ((A2.1 b6).2 f hf)).2.1;have C1:=AA (λW (hW:Γ w w W)=>QT v iv m xs f W (h.below hW) b9 (BK.below hI hW) b6 hf);have C3:=AA (λW (_:Γ w w W)=>A4 (by have:=GY kind W;rw[hk] at this;exact this));have C4:=AA (λW (hW:Γ w w W)=>by have:=H6 rv ss W (BK.below hv hW) lJ;rw[hr] at this;exact this);have C7:=AA (λW (hW:Γ w w W)=>Ui v iv rv m xs f kind ss W (h.below hW) b9 (BK.below hI hW) hl (Ca b6) hf hk (BK.below hv hW) lJ);have HR:=AA (λW (hW:Γ w w W)=>BK.below hI hW);have SM:=AA (NH (kind:=kind) b9 b6 hf (.inl (rfl:(1:Int)=1)));have PN:=AA (V3 (m:=m) (Zh:=xs) (f:=f) (kind:=kind) (ss:=ss));have cP:=AA (λ(jq:(JR xs f).k=1) W (hW:Γ w w W) u (hu:Bf W u (Ao xs f (Dl kind)))=>SV v u m (Ao xs f (Dl kind)) f 1 W (h.below hW) b9 hu (SP b6 hf ω ω) hf (.inl rfl));obtain⟨ai,ci,rfl,oM,lY,H2⟩:=BK.open Az ψ hI;obtain⟨bi,bt,rfl,ft,D0,_,D2⟩:=H2.zZ (ω:f<xs.length);obtain⟨_,_,rfl,_⟩:=h.open;obtain⟨_,_,rfl,_⟩:=hv.shape;have lU:(f:Int)<xs.length:=ω;have Hl:=AA hl;have z:=yN w w;clear h b9 hI b6 hk hv lJ hr hl H2;go_in;go_wp2_with fail;refine(C1 _ z).mono ?_;rintro e w_ ⟨rfl,bp⟩;replace z:=z.trans (bp.mono z.size);clear bp;go_wp2_with fail;refine(C3 _ z).mono ?_;rintro e w_ ⟨rfl,bp⟩;replace z:=z.trans (bp.mono z.size);clear bp;go_wp2_with fail;refine(C4 _ z).mono ?_;rintro e w4 ⟨rfl,n4,rfl⟩;replace z:=z.trans (Ap (yN _ _) n4|>.mono z.size);have Y:=AA z
 by_cases e1:(JR xs f).k=1
 .by_cases e2:(JR xs f).r=0
  .have t1:((JR xs f).k !=1)=false:=by simp[e1]
   have t2:¬0<(JR xs f).r:=ω;have P:=AA (show Gc m xs f kind ss=if JB m xs f kind ss=false then(xs,2)
    else if BG (Ao (BO xs (named (AK m f)) 1) f (Dl kind)) then(Ao (BO xs (named (AK m f)) 1) f (Dl kind),0) else(xs,1) by rw[PN.u,if_neg (by simp[e1,e2])])
   have j1:=AA (cP e1);clear e1 e2 cP PN jx;go_wp2_with (at_builtin;go_must (refine GN (cs:=Av) rfl rfl 115 (.agg #[θ,ϑ,θ]) 3 32 underlying24 Tryz.zO rfl ψ rfl (Ci Av _ _ _) rfl (HR _ (Y.trans ((AJ _ _).mono Y.size))) (F6 _) (by have:=Hl.u;omega) ψ χ ?_;intro v' w9 hO b7;have gl:=AA ((Y.trans ((AJ _ _).mono Y.size)).trans (b7.mono Y.size));replace D0:=(gl.cell (p:=⟨bi,bt+f*3,none⟩) ft).trans D0;replace D2:=(gl.cell (p:=⟨bi,bt+f*3+2,none⟩) ft).trans D2;clear b7));refine(C7 _ gl.u).mono ?_;rintro e gp ⟨rfl,mi⟩;replace hO:=AQ.below hO mi;have ir:=AA (gl.trans (mi.mono gl.size));clear mi D0 D2;cases hg:JB m xs f kind ss
   .have P2:=AA (show Gc m xs f kind ss=(xs,2) by rw[P.u,hg];rfl)
    clear hg;have HO:=AA hO;clear hO;go_wp2;go_ret2;exact⟨_,by rw[P2.u];rfl,by rw[P2.u];exact HO.lower Y.size,ir.u⟩
   have P2:=AA (show Gc m xs f kind ss=if BG (Ao (BO xs (named (AK m f)) 1) f (Dl kind)) then(Ao (BO xs (named (AK m f)) 1) f (Dl kind),0) else(xs,1) by rw[P.u,hg];rfl)
   clear hg;obtain⟨q,fm,rfl,c1,c2,q1,q2,bA⟩:=hO.zW (by have:=Hl.u;omega);unfold maxLen at c2;obtain⟨d0,_,_⟩:=AQ.zZ hO (show f<xs.length by have:=Hl.u;omega);have Fr:=bA (f*3);have S0:=AQ.zH Az hO (Cg (show f<xs.length by have:=Hl.u;omega)) (j:=0) ψ (y:=Dl kind (JR xs f)) (u:=.int .i64 kind) rfl;rw[xT] at S0;have c5:=AM ir S0.2 (yM Y.size q1) ir.size;rw[<-IX (f:=Dl kind)] at S0;have S:=AA (AQ.lower S0.1 Y.size);have ld:¬(f:Int)<0:=ω;clear S0 hO bA;go_wp2_with fail;generalize hwN:gp.setCell _ _=wN at*;clear d0 Fr hwN q2;have lk:(Ao xs f (Dl kind)).length=xs.length:=DI;have CA:=j1 wN c5 (.slice q xs.length fm) (AQ.rd S.u);clear lk;refine CA.mono ?_;rintro e jg ⟨lB,rfl,ji,kQ⟩;rw[<-QZ] at ji;have fy:=c5.trans (kQ.mono c5.size);have ml:=AA (AQ.lower ji c5.size);have jt:=AQ.rd ji;clear ji kQ S;generalize hM:Ao (BO xs (named (AK m f)) 1) f (Dl kind)=M at*;have C9:=Dt lB M jg jt SM.u;obtain⟨pd,pb,rfl,_,_⟩:=jt.shape;cases hq:BG M
   .have P3:=AA (show Gc m xs f kind ss=(xs,1) by rw[P2.u,hq];rfl)
    rw[hq] at C9;have C:=AA C9;have es:=AA fy;clear C9 hq jt fy c5;go_wp2_with fail;refine C.mono ?_;rintro e jf ⟨rfl,iq⟩;have fx:=es.trans (iq.mono es.size);have c6:=AA fx;clear iq fx c1 c2;go_wp2_with (at_builtin;go_must (refine GN (cs:=Av) rfl rfl 115 (.agg #[θ,ϑ,θ]) 3 32 underlying24 Tryz.zO rfl ψ rfl (Ci Av _ _ _) rfl (HR _ (c6.trans ((AJ _ _).mono c6.size))) (F6 _) (by have:=Hl.u;omega) ψ χ ?_;intro v' w9 hO b7));have iQ:=(c6.trans ((AJ _ _).mono c6.size)).trans (b7.mono c6.size);have HO:=AA (hO.lower c6.size);have jZ:=AA iQ;clear hO b7 iQ;go_wp2;go_ret2;exact⟨_,by rw[P3.u];rfl,by rw[P3.u];exact HO.u,jZ.u⟩
   have P3:=AA (show Gc m xs f kind ss=(M,0) by rw[P2.u,hq];rfl)
   rw[hq] at C9;have C:=AA C9;have es:=AA fy;clear C9 hq jt fy c5;go_wp2_with (refine C.mono ?_;rintro e jf ⟨rfl,iq⟩;have fx:=es.trans (iq.mono es.size);have mj:=AA (ml.below iq);clear iq c1 c2);go_ret2;exact⟨_,by rw[P3.u];rfl,by rw[P3.u];exact mj.u,fx⟩
  have t1:((JR xs f).k !=1)=false:=by simp[e1]
  have t2:0<(JR xs f).r:=ω;have P2:=AA (show Gc m xs f kind ss=(xs,1) by rw[PN.u,if_pos (.inr e2)]);clear e1 e2 cP PN jx;go_wp2_with (at_builtin;go_must (refine GN (cs:=Av) rfl rfl 115 (.agg #[θ,ϑ,θ]) 3 32 underlying24 Tryz.zO rfl ψ rfl (Ci Av _ _ _) rfl (HR _ (Y.trans ((AJ _ _).mono Y.size))) (F6 _) (by have:=Hl.u;omega) ψ χ ?_;intro v' w9 hO b7;have gl:=AA ((Y.trans ((AJ _ _).mono Y.size)).trans (b7.mono Y.size));replace D0:=(gl.cell (p:=⟨bi,bt+f*3,none⟩) ft).trans D0;replace D2:=(gl.cell (p:=⟨bi,bt+f*3+2,none⟩) ft).trans D2;clear b7));go_ret2;exact⟨_,by rw[P2.u];rfl,by rw[P2.u];exact hO.lower Y.size,gl.u⟩
 have t1:((JR xs f).k !=1)=true:=by simp[e1]
 have P2:=AA (show Gc m xs f kind ss=(xs,1) by rw[PN.u,if_pos (.inl e1)]);clear e1 cP PN jx;go_wp2_with (at_builtin;go_must (refine GN (cs:=Av) rfl rfl 115 (.agg #[θ,ϑ,θ]) 3 32 underlying24 Tryz.zO rfl ψ rfl (Ci Av _ _ _) rfl (HR _ (Y.trans ((AJ _ _).mono Y.size))) (F6 _) (by have:=Hl.u;omega) ψ χ ?_;intro v' w9 hO b7;have gl:=AA ((Y.trans ((AJ _ _).mono Y.size)).trans (b7.mono Y.size));replace D0:=(gl.cell (p:=⟨bi,bt+f*3,none⟩) ft).trans D0;clear b7));go_ret2;exact⟨_,by rw[P2.u];rfl,by rw[P2.u];exact hO.lower Y.size,gl.u⟩
theorem Qx (v iv:Φ)(m:List (List Int))(xs:List AX)(f:Nat)(w:Ω)(h:Bl w v m)(b9:By m=true)(hI:Bf w iv xs)(b6:BG xs=true)(hf:f<12):
 Ξ prog 269 #[v,iv,.int .i64 f] w (Nr (DH m xs f) w):=by
 have hl:=(A2.1 b6).1;have jx:=(Iq ((A2.1 b6).2 f hf)).2.1;have C1:=AA (λW (hW:Γ w w W)=>QT v iv m xs f W (h.below hW) b9 (BK.below hI hW) b6 hf);have HR:=AA (λW (hW:Γ w w W)=>BK.below hI hW);have SM:=AA (NH (kind:=1) b9 b6 hf (.inr (rfl:(-1:Int)= -1)));have PN:=AA (PR (m:=m) (Zh:=xs) (f:=f));have cP:=AA (λ(jq:Bp (JR xs f).k=true) W (hW:Γ w w W) u (hu:Bf W u (Ao xs f (Dl 1)))=>SV v u m (Ao xs f (Dl 1)) f (-1) W (h.below hW) b9 hu (SP b6 hf (by intro e;rw[e] at jq;cases jq) ω) hf (.inr rfl));obtain⟨ai,ci,rfl,oM,lY,H2⟩:=BK.open Az ψ hI;obtain⟨bi,bt,rfl,ft,D0,_,D2⟩:=H2.zZ (ω:f<xs.length);obtain⟨_,_,rfl,_⟩:=h.open;have lU:(f:Int)<xs.length:=ω;have Hl:=AA hl;have z:=yN w w;have CK:=AA (λW=>GY (JR xs f).k W);clear h b9 hI b6 hl H2;go_in;go_wp2_with fail;refine(C1 _ z).mono ?_;rintro e w_ ⟨rfl,bp⟩;replace z:=z.trans (bp.mono z.size);clear bp;have Y:=AA z;clear z;go_wp2_with (at_builtin;go_must (refine GN (cs:=Av) rfl rfl 115 (.agg #[θ,ϑ,θ]) 3 32 underlying24 Tryz.zO rfl ψ rfl (Ci Av _ _ _) rfl (HR _ (Y.trans ((AJ _ _).mono Y.size))) (F6 _) (by have:=Hl.u;omega) ψ χ ?_;intro v' w9 hO b7;have gl:=AA ((Y.trans ((AJ _ _).mono Y.size)).trans (b7.mono Y.size));replace D0:=(gl.cell (p:=⟨bi,bt+f*3,none⟩) ft).trans D0;replace D2:=(gl.cell (p:=⟨bi,bt+f*3+2,none⟩) ft).trans D2;clear b7));have ir:=gl;refine(CK _).mono ?_;rintro e gp ⟨rfl,rfl⟩;cases e1:Bp (JR xs f).k
 .have P2:=AA (show DH m xs f=(xs,1) by rw[PN.u,if_pos (.inl e1)])
  clear e1 cP PN jx;have HO:=AA hO;clear hO;go_wp2;go_ret2;exact⟨_,by rw[P2.u];rfl,by rw[P2.u];exact HO.lower Y.size,gl.u⟩
 by_cases e2:(JR xs f).r=0
 .have t2:¬0<(JR xs f).r:=ω
  have P2:=AA (show DH m xs f=if BG (Ao (BO xs (named (AK m f)) (-1)) f (Dl 1)) then(Ao (BO xs (named (AK m f)) (-1)) f (Dl 1),0) else(xs,2) by rw[PN.u,if_neg (by simp[e1,e2])]);have j1:=AA (cP e1);clear e1 e2 cP PN jx;obtain⟨gp,rfl⟩:∃gp:Ω,gp=w9:=⟨_,rfl⟩
  obtain⟨q,fm,rfl,c1,c2,q1,q2,bA⟩:=hO.zW (by have:=Hl.u;omega);unfold maxLen at c2;obtain⟨d0,_,_⟩:=AQ.zZ hO (show f<xs.length by have:=Hl.u;omega);have Fr:=bA (f*3);have S0:=AQ.zH Az hO (Cg (show f<xs.length by have:=Hl.u;omega)) (j:=0) ψ (y:=Dl 1 (JR xs f)) (u:=.int .i64 1) rfl;rw[xT] at S0;have c5:=AM ir S0.2 (yM Y.size q1) ir.size;rw[<-IX (f:=Dl 1)] at S0;have S:=AA (AQ.lower S0.1 Y.size);have ld:¬(f:Int)<0:=ω;clear S0 hO bA;go_wp2_with fail;generalize hwN:gp.setCell _ _=wN at*;clear d0 Fr hwN q2;have lk:(Ao xs f (Dl 1)).length=xs.length:=DI;have CA:=j1 wN c5 (.slice q xs.length fm) (AQ.rd S.u);clear lk;refine CA.mono ?_;rintro e jg ⟨lB,rfl,ji,kQ⟩;rw[<-QZ] at ji;have fy:=c5.trans (kQ.mono c5.size);have ml:=AA (AQ.lower ji c5.size);have jt:=AQ.rd ji;clear ji kQ S;generalize hM:Ao (BO xs (named (AK m f)) (-1)) f (Dl 1)=M at*;have C9:=Dt lB M jg jt SM.u;obtain⟨pd,pb,rfl,_,_⟩:=jt.shape;cases hq:BG M
  .have P3:=AA (show DH m xs f=(xs,2) by rw[P2.u,hq];rfl)
   rw[hq] at C9;have C:=AA C9;have es:=AA fy;clear C9 hq jt fy c5;go_wp2_with fail;refine C.mono ?_;rintro e jf ⟨rfl,iq⟩;have fx:=es.trans (iq.mono es.size);have c6:=AA fx;clear iq fx c1 c2;go_wp2_with (at_builtin;go_must (refine GN (cs:=Av) rfl rfl 115 (.agg #[θ,ϑ,θ]) 3 32 underlying24 Tryz.zO rfl ψ rfl (Ci Av _ _ _) rfl (HR _ (c6.trans ((AJ _ _).mono c6.size))) (F6 _) (by have:=Hl.u;omega) ψ χ ?_;intro v' w9 hO b7));have iQ:=(c6.trans ((AJ _ _).mono c6.size)).trans (b7.mono c6.size);have HO:=AA (hO.lower c6.size);have jZ:=AA iQ;clear hO b7 iQ;go_wp2;go_ret2;exact⟨_,by rw[P3.u];rfl,by rw[P3.u];exact HO.u,jZ.u⟩
  have P3:=AA (show DH m xs f=(M,0) by rw[P2.u,hq];rfl)
  rw[hq] at C9;have C:=AA C9;have es:=AA fy;clear C9 hq jt fy c5;go_wp2_with (refine C.mono ?_;rintro e jf ⟨rfl,iq⟩;have fx:=es.trans (iq.mono es.size);have mj:=AA (ml.below iq);clear iq c1 c2);go_ret2;exact⟨_,by rw[P3.u];rfl,by rw[P3.u];exact mj.u,fx⟩
 have t2:0<(JR xs f).r:=ω;have P2:=AA (show DH m xs f=(xs,1) by rw[PN.u,if_pos (.inr e2)]);clear e1 e2 cP PN jx;have HO:=AA hO;clear hO;go_wp2;go_ret2;exact⟨_,by rw[P2.u];rfl,by rw[P2.u];exact HO.lower Y.size,gl.u⟩
variable{k:AR}
variable{T a5 b b0 fm g j lo q sz:Nat}
theorem JL (h:DZ k)(hj:j<3):DQ (AH k.Xr j).Pj:=Ex (h.Pj j hj)
theorem KS (m i e c:Φ)(k:AR)(en:Nat)(g:ByteArray)(w:Ω)(h:Gr w e k.Xr)(hk:DZ k)(cC:en<3)(hg:g.size<=maxLen):
 Ξ prog 231 #[.agg #[m,i,e,c],.int .i64 en,.string g] w λr w'=>r=.returned (.bool (Cd (AH k.Xr en).Pj g))/\Γ w w w':=by
 obtain⟨N0,al⟩:=EU w (.cells #[m,i,e,c] 28);obtain⟨a,cp,rfl,hc,f7,x0⟩:=(h.below al).open;obtain⟨b,a5,ua,uc,rfl,c7,D0,_,hR⟩:=x0 en (by rw[hk.zX];exact cC);have C:=AA (Ld _ _ g _ hR (JL hk cC) hg);have g9:(en:Int)<k.Xr.length:=by rw[hk.zX];omega
 obtain⟨_,_,V,_⟩:=AG N0;have ld:¬(en:Int)<0:=ω;clear h hk x0 hR N0;go_in;go_wp2_with fail;generalize w.alloc _=W0 at*;refine C.mono ?_;rintro e w1 ⟨rfl,b1⟩;go_wp2;go_ret;exact⟨rfl,al.trans (b1.mono al.size)⟩
theorem Tz (m i e c:Φ)(k:AR)(x:Int)(w:Ω)(h:Bl w m k.mem)(hi:Bf w i k.Zh)(hm:By k.mem=true)(hl:k.Zh.length=12)(hx:x<=9223372036854775807):
 Ξ prog 238 #[.agg #[m,i,e,c],.int .i64 x] w λr w'=>∃v',r=.returned v'/\AE w w' v' (A5 (LX k x))/\Γ w w w':=by
 obtain⟨N0,al⟩:=EU w (.cells #[m,i,e,c] 28);obtain⟨H,N,_,_⟩:=AG N0;have im:=AU N0;cases hg:Bv x
 .have x2:=AA (Et hg)
  have wx:LX k x=[]:=by unfold LX;rw[hg];rfl
  rw[wx];have o1:=GK (w.alloc (.cells #[m,i,e,c] 28));simp only[xz] at o1;clear hg wx;go_in;go_wp2_with (go_at_call 211;refine(DP _ _ hx).mono ?_;rintro e w' ⟨rfl,rfl⟩;rw[x2.u]);go_ret;exact⟨_,rfl,OH o1 (vS _),al.alloc al.size _⟩
 have x2:=AA (En hg)
 have hF:=Ef hg;have BE:LX k x=BP x::(if(JR k.Zh (BP x)).k=2 then named (AK k.mem (BP x)) else[]):=by unfold LX;rw[hg,if_pos rfl]
 rw[BE];generalize BP x=o at*;obtain⟨ai,ci,rfl,_,_,HI⟩:=BK.open Az ψ (BK.below hi al);obtain⟨bi,bt,rfl,ft,D0,_,_⟩:=HI.zZ (ω:o<k.Zh.length);have pY:(o:Int)<k.Zh.length:=ω;have pZ:¬(o:Int)<0:=ω;have o1:=ZO (w.alloc (.cells #[m,.slice (some ⟨bi,bt,none⟩) k.Zh.length ci,e,c] 28)) o;clear hg BE HI hi
 by_cases K:(JR k.Zh o).k=2
 .have t2:((JR k.Zh o).k !=2)=false:=by simp[K]
  rw[if_pos K];have j3:=(Aj.1 hm).1;obtain⟨am,cm,rfl,_,_,HM⟩:=(h.below al).open;obtain⟨bm,n7,u,rfl,oP,DM,hR⟩:=HM o ω;have pX:(o:Int)<k.mem.length:=ω;have kv:=(BB.1 ((Aj.1 hm).2 o hF)).1;have CN:=AA (λW (hW:Γ _ _ W)=>Jg u (AK k.mem o) W (A1.below hR hW) ω (Mn hm hF));have m8:=Sl hm hF;obtain⟨_,_,rfl,_⟩:=hR.open;generalize named (AK k.mem o)=ns at*;simp only[xz] at o1;have l1:=oP;simp only[xz] at l1;clear K h hm hl HM hR j3 kv N0;go_in;go_wp2_with (go_at_call 211;refine(DP _ _ hx).mono ?_;rintro e w' ⟨rfl,rfl⟩;rw[x2.u]);generalize w.alloc _=W0 at*;have C:=AA (CN _ (AJ W0 (.cells #[o] 3)));refine C.mono ?_;rintro r w1 ⟨v1,rfl,n1,b1⟩;have O1:=AA (AE.below o1 b1);have ip:=(AJ W0 (.cells #[o] 3)).trans (b1.mono (AJ W0 (.cells #[o] 3)).size);have pQ:=ip.size;have bX:=al.trans (ip.mono al.size);have mt:=AA (AE.rd n1);have pr:=AA bX;obtain⟨az,cz,rfl,qe⟩:=FG n1;clear o1 n1 b1 bX ip CN C H N D0 DM;go_wp2_with (at_builtin;go_must (refine Bn (lo:=w.heap.size+1) (n:=1) (xs:=(A5 [o]).map (yl .i64)) (m:=ns.length) (news:=(A5 ns).map (yl .i64)) rfl rfl 3 (.int .i64 0) 1 8 underlying29 Tryz.zS rfl ψ rfl (Ll O1 (yN _ _)) rfl (by have:=mt.u;unfold A1 at this;rw[Cs] at this;exact this) (MY _) μ ω ω ?_;intro o' w9 k1 k2 k3 k4));go_ret;exact⟨_,rfl,OH (Jh (ys:=[o]) (zs:=ns) k1) (vS _),pr.trans (k4.mono (vS _))⟩
 have t2:((JR k.Zh o).k !=2)=true:=by simp[K]
 rw[if_neg K];simp only[xz] at o1;obtain⟨_,_,rfl,_⟩:=h.open;clear K h hm hl N0;go_in;go_wp2_with (go_at_call 211;refine(DP _ _ hx).mono ?_;rintro e w' ⟨rfl,rfl⟩;rw[x2.u]);go_ret;exact⟨_,rfl,OH o1 (vS _),al.alloc al.size _⟩
variable{t:TypeId}
variable{c d e hb i m u v' x2:Φ}
variable{W W' w w' w0 wr ww:Ω}
theorem PZ{ops:Array Oper}{rest:List Oper}{o:Oper}{a:Act}{Q:Exit->Act->Ω->Prop}{s x:Operand}
 (oD:o.guard=none)(Z:o.op=.call {callee:=.builtin .append,args:= #[s,x],argTypes:= #[t,t]})
 (ht:prog.underlying t=some (.slice 3)){v:Φ}{xs:List Int}(hs:a.eval s=v)(b8:AE lo w v [])
 (hx:a.eval x=u)(hr:A1 w u xs)(np:xs.length<=1048576)(av:lo<=w.heap.size)
 (hK:∀v' w',AE lo w' v' xs->Γ lo w w'->wpList prog ops Q rest (a.put o.dst v') w'):wpList prog ops Q (o::rest) a w:=by
 refine Bn (n:=0) (xs:=[]) (m:=xs.length) (news:=xs.map (yl .i64)) oD Z 3 (.int .i64 0) 1 8 ht Tryz.zS rfl ψ hs b8 hx hr (MY _) ?_ ?_ av λv' w' k1 _ _ k4=>hK v' w' ?_ k4
 .unfold maxLen;omega
 .omega
 unfold AE
 rw[wT] at k1;exact k1
theorem OD (v:Φ)(m:List (List Int))(w:Ω)(h:Bl w v m)(hl:m.length<=100)(hr:∀f,f<m.length->(AK m f).length<=100):
 Ξ prog 77 #[v] w λe w'=>∃v' D,e=.returned v'/\Ay w w' v' D m/\Γ w w w':=by
 obtain⟨a,c,rfl,hc,f7,x0⟩:=h.open;unfold maxLen at f7;have HH:=AA x0;have HR:=AA hr;clear h x0 hr;go_in;go_wp2_with fail;go_loopw [3,4] (λo i wr=>∃k:Nat,∃D:List Φ,k<=m.length/\D.length=k/\i=.int .i64 k/\Ay w wr o D (m.take k)/\Γ w w wr) (λ_ i _=>m.length - (intOf i).toNat)
 exact⟨0,[],ω,rfl,rfl,⟨Co _ _ _,Gj.nil,Dh.nil⟩,AJ _ _⟩
 obtain⟨k,D,hk,kB,rfl,hO,ay⟩:=hrel;have Hl:=AA kB;clear kB
 by_cases bf:k<m.length
 .have cg:(k:Int)<(m.length:Int):=ω
  have oe:D.length<=100:=by rw[Hl.u];omega
  have kv:=HR k bf;have TK:=AA (DA (Km bf));obtain⟨b,a5,u,rfl,c7,vs,hR⟩:=(HH.below ay) k bf;generalize AK m k=r at*;have oU:=AA (A1.below hR (AJ wr (.cells #[] 3)));obtain⟨_,_,rfl,_⟩:=hR.open;have HO:=AA hO;have f4:=AA ay;obtain⟨_,_,rfl,_⟩:=hO.1.rd.shape;clear hR hO ay;go_wp2_with (first|(at_builtin;refine PZ rfl rfl underlying29 rfl (GK wr) rfl oU ω (AJ wr (.cells #[] 3)).size ?_;intro u' w2 hu a4;have ls:=AA ((AJ wr (.cells #[] 3)).trans a4);have Hu:=AA hu;obtain⟨ua,uc,rfl,_⟩:=(AE.rd hu).open;clear hu a4)|(at_builtin;go_must (refine Bn (lo:=w.heap.size) (n:=D.length) (xs:=Ce HJ D) (m:=1) rfl rfl 29 (.slice none 0 0) 1 24 underlying23 Tryz.zj rfl ψ rfl ((HO.below ls.u).below (AJ _ _)).1 rfl (Rd.zM _ #[_] _ 1 1 _ χ rfl ζ) (by simp[xR]) μ ω (by have h1:=f4.size;have K:=ls.size;simp;omega) ?_;intro o' w3 g1 g2 g3 g4)));go_roundw
  case rel=>have a4:=ls.trans ((AJ w2 (.cells #[.slice ua r.length uc] 29)).mono ls.size);have hP:=HO.push a4 f4.size (Hu.below (AJ _ _)) g1 g2;exact⟨k+1,D++[.slice ua r.length uc],ω,by rw[yz,Hl.u];rfl,ξ,by rw[TK.u];exact hP,(f4.trans (a4.mono f4.size)).trans g4⟩
  case measure=>simp[intOf];omega
 obtain rfl:k=m.length:=ω;rw[xE] at hO;go_wp2;go_ret;exact⟨_,D,rfl,hO,ay⟩
theorem YY (w:Ω):Ξ prog 172 #[] w λe w'=>∃v D,e=.returned v/\Ay w w' v D (xW 16 [])/\Γ w w w':=by
 go_in;go_wp2_with fail;go_loopw [1,2] (λo i wr=>∃k:Nat,∃D:List Φ,k<=16/\D.length=k/\i=.int .i64 k/\Ay w wr o D (xW k [])/\Γ w w wr) (λ_ i _=>16 - (intOf i).toNat)
 exact⟨0,[],ω,rfl,rfl,⟨Co _ _ _,Gj.nil,Dh.nil⟩,AJ _ _⟩
 obtain⟨k,D,hk,kB,rfl,hO,ay⟩:=hrel;have Hl:=AA kB;clear kB
 by_cases bf:k<16
 .have oe:D.length<=16:=by rw[Hl.u];omega
  have a4:=(AJ wr (.cells #[] 3));have HO:=AA hO;have f4:=AA ay;obtain⟨_,_,rfl,_⟩:=hO.1.rd.shape;clear hO ay;go_wp2_with (at_builtin;go_must (refine Bn (lo:=w.heap.size) (n:=D.length) (xs:=Ce HJ D) (m:=1) (news:=[.slice wr 0 0]) rfl rfl 29 (.slice none 0 0) 1 24 underlying23 Tryz.zj rfl ψ rfl ((HO.below a4).below (AJ _ _)).1 rfl (Rd.zM _ #[_] _ 1 1 _ χ rfl ζ) (by simp[xR]) μ ω (by have h1:=f4.size;have K:=a4.size;simp;omega) ?_;intro o' w3 g1 g2 g3 g4));go_roundw
  case rel=>have b5:=a4.trans ((AJ (wr.alloc (.cells #[] 3)) (.cells #[.slice wr 0 0] 29)).mono a4.size);have hu:AE wr (wr.alloc (.cells #[] 3)) (.slice wr 0 0) []:=GK wr;have hP:=HO.push b5 f4.size (hu.below (AJ _ _)) g1 g2;exact⟨k+1,D++[.slice wr 0 0],ω,by rw[yz,Hl.u];rfl,ξ,by rw[List.replicate_succ'];exact hP,(f4.trans (b5.mono f4.size)).trans g4⟩
  case measure=>simp[intOf];omega
 obtain rfl:k=16:=ω;go_wp2;go_ret;exact⟨_,D,rfl,hO,ay⟩
theorem ZU{b:Φ}(h:w.heap[g]?=some (.cells #[a,b,c,d] T (0,0))):Rd w (.slice g 1 1) 4 1 [a,b,c,d]:=by
 obtain⟨h0,h1,K,h3⟩:=AG h;refine⟨_,_,rfl,yF _,ζ,rfl,nofun,λ_=>⟨g,0,rfl,λj hj=>?_⟩⟩;rw[wT]
 match j,hj with
 |0,_=>exact h0
 |1,_=>exact h1
 |2,_=>exact K
 |3,_=>exact h3
 |_+4,hj=>exact absurd hj ω
theorem gK{c k:Nat}{xs:List Φ}(h:Rd w (.slice (some ⟨b,a5,none⟩) n c) sz n xs)(hk:k<=n):Rd w (.slice (some ⟨b,a5+k*sz,none⟩) (n - k) (c - k)) sz (n - k) (xs.drop (k*sz)):=by
 obtain⟨ao,c',hv,lf,f7,hl,hh,hc⟩:=h;simp only[xQ,true_and] at hv;obtain⟨rfl,rfl⟩:=hv;have p6:k*sz+(n - k)*sz=n*sz:=by rw[<-Nat.add_mul];congr 1;omega
 refine⟨_,_,rfl,ω,ω,by rw[xh];omega,(by intro e;cases e),λjr=>?_⟩;obtain⟨b',iK,e,el⟩:=hc ω;obtain⟨rfl,rfl⟩:b=b'/\a5=iK:=by simpa using e
 refine⟨_,_,rfl,λj hj=>?_⟩;rw[vq,el (k*sz+j) ω,tZ]
theorem dc{F:List Ag}(h:BK 4 AY w (.slice q F.length fm) F)(h1:1<=F.length):BK 4 AY w (.slice (some ⟨q,4,none⟩) (F.length - 1) (fm - 1)) (F.drop 1):=by
 have r:=gK h (k:=1) h1;cases F with
 |nil=>simp at h1
 |cons y F=>exact r
theorem Uk (v:Φ)(c:List Ag)(x:Ag)(w:Ω)(h:Do w v c)(hl:c.length<=4):
 Ξ prog 218 #[v,.agg #[x.e,x.p,x.f,x.w]] w λr w'=>∃v',r=.returned v'/\AQ w.heap.size 125 4 AY w' v' (Ju c x)/\Γ w w w':=by
 obtain⟨a,cp,rfl,hc,f7,x0⟩:=BK.open Cj ψ h;have qg:c.length<=1000:=ω;unfold maxLen at f7;have HH:=AA x0;obtain⟨N0,N1,al,gq⟩:=LG w (.cells #[x.e,x.p,x.f,x.w] 125) (.cells #[] 125);have o1:AQ (w.heap.size+1) 125 4 AY ((w.alloc (.cells #[x.e,x.p,x.f,x.w] 125)).alloc (.cells #[] 125)) (.slice (some ⟨w.heap.size+1,0,none⟩) 0 0) []:=by have:=Ci AY (w.alloc (.cells #[x.e,x.p,x.f,x.w] 125)) 125 4;simp only[xz] at this;exact this
 have py:=AA hl;have PE:Ju c x=(if(c.filter λy=>!BQ x.e x.p y).length=4 then(c.filter λy=>!BQ x.e x.p y).drop 1 else c.filter λy=>!BQ x.e x.p y)++[x]:=rfl;have lx:=AA PE;clear h x0 hl PE gq N1;go_in;go_wp2_with fail;generalize(w.alloc _).alloc _=wa at o1 al N0 ⊢;generalize(xG (some ⟨w.heap.size+1,0,none⟩) 0 0)=o at o1 ⊢;go_loopw [5,6] (λo ix wr=>∃k:Nat,k<=c.length/\ix=.int .i64 k/\AQ (w.heap.size+1) 125 4 AY wr o ((c.take k).filter λy=>!BQ x.e x.p y)/\Γ w w wr/\wr.heap[w.heap.size]?=some (.cells #[x.e,x.p,x.f,x.w] 125 (0,0))) (λ_ ix _=>c.length - (intOf ix).toNat)
 exact⟨0,yt _,rfl,o1,al,N0⟩
 clear o1 al N0;obtain⟨k,hk,rfl,b8,z,hN⟩:=hrel
 by_cases bf:k<c.length
 .have cg:(k:Int)<(c.length:Int):=ω
  obtain⟨b,a5,rfl,c7,D0,D1,D2,D3⟩:=(HH.below z).zV bf;have Nx:=AA (MP (p:=λy=>!BQ x.e x.p y) (Fq bf));have m8:=Jt (p:=λy=>!BQ x.e x.p y) (l:=c) (k:=k);generalize AV c k=y at D0 D1 D2 D3 Nx;generalize(c.take k).filter (λy=>!BQ x.e x.p y)=ys at b8 Nx m8;obtain⟨H,N,V,R⟩:=AG hN;have i7:=AU hN;have jU:=AA b8;have Y:=AA z;have HN:=AA hN;obtain⟨_,_,rfl,_⟩:=b8.rd.shape;clear b8 z hN
  by_cases e1:y.e=x.e
  .by_cases e2:y.p=x.p
   .skip
    have t1:(y.e !=x.e)=false:=by simp[e1]
    have t2:(y.p !=x.p)=false:=by simp[e2]
    have kR:=AA (show(c.take (k+1)).filter (λy=>!BQ x.e x.p y)=ys by rw[Nx.u];simp[BQ,e1,e2]);clear Nx e1 e2;go_wp2_with fail;refine Ac 17 50 [.v (.slice (some ⟨b,a5,none⟩) c.length cp),.i ((k:Int)),.p b (a5+k*4),.p b (a5+k*4),.i (y.e),.p w.heap.size 0,.i (x.e),.b false,.b false,.v (.slice (some ⟨b,a5,none⟩) c.length cp),.i ((k:Int)),.p b (a5+k*4),.p b (a5+k*4+1),.i (y.p),.p w.heap.size 1,.i (x.p),.b false] (λ_ _ _=>True) ?_ ?_
    .intro i hi o Z a E Y J L h2 A
     have bw:=bc L c7 D0;have bu:=bc L i7 H;have bE:=bc L c7 D1;have bL:=bc L i7 N
     match i,hi with
     |0,_|1,_|3,_|5,_|8,_|9,_|10,_|12,_|14,_=>exact sP Z A Y J
     |2,_|11,_=>exact sI Z A Y J (hr:=by clear J Y A;go_simp)
     |4,_|6,_|13,_|15,_=>exact sL Z A Y J (hl:=GO ‹_›)
     |7,_=>clear bw bu bE bL;obtain rfl:=yP Z;have d4:(a.tmps[18]?.getD Θ)=.int .i64 (y.e):=Bc J 4;have d6:(a.tmps[20]?.getD Θ)=.int .i64 (x.e):=Bc J 6;clear J Y;refine yO ?_;go_simp;exact A _ _ rfl (yN _ _)
     |16,_=>clear bw bu bE bL;obtain rfl:=yP Z;have o8:(a.tmps[27]?.getD Θ)=.int .i64 (y.p):=Bc J 13;have js:(a.tmps[29]?.getD Θ)=.int .i64 (x.p):=Bc J 15;have d8:(a.tmps[22]?.getD Θ)=.bool false:=Bc J 8;clear J Y;refine AZ.yes rfl rfl d8 ?_;go_simp;exact A _ _ rfl (yN _ _)
     |_+17,hq=>omega
    intro D E hR L
    have q8:(D 8)=.bool false:=Bh hR 8;have fs:(D 16)=.bool false:=Bh hR 16;clear hR;simp only[Ai,Ae,yL,yI,yJ,yH,q8,fs];simp;clear q8 fs;go_wp2;go_roundw;exact⟨k+1,ω,ξ,by rw[kR.u];exact AQ.below jU L,Y.trans (L.mono Y.size),AB HN L⟩;simp[intOf];omega
   skip
   have t1:(y.e !=x.e)=false:=by simp[e1]
   have t2:(y.p !=x.p)=true:=by simp[e2]
   have kR:=AA (show(c.take (k+1)).filter (λy=>!BQ x.e x.p y)=ys++[y] by rw[Nx.u];simp[BQ,e1,e2]);clear Nx e1 e2;go_wp2_with fail;refine Ac 17 50 [.v (.slice (some ⟨b,a5,none⟩) c.length cp),.i ((k:Int)),.p b (a5+k*4),.p b (a5+k*4),.i (y.e),.p w.heap.size 0,.i (x.e),.b false,.b false,.v (.slice (some ⟨b,a5,none⟩) c.length cp),.i ((k:Int)),.p b (a5+k*4),.p b (a5+k*4+1),.i (y.p),.p w.heap.size 1,.i (x.p),.b true] (λ_ _ _=>True) ?_ ?_
   .intro i hi o Z a E Y J L h2 A
    have bw:=bc L c7 D0;have bu:=bc L i7 H;have bE:=bc L c7 D1;have bL:=bc L i7 N
    match i,hi with
    |0,_|1,_|3,_|5,_|8,_|9,_|10,_|12,_|14,_=>exact sP Z A Y J
    |2,_|11,_=>exact sI Z A Y J (hr:=by clear J Y A;go_simp)
    |4,_|6,_|13,_|15,_=>exact sL Z A Y J (hl:=GO ‹_›)
    |7,_=>clear bw bu bE bL;obtain rfl:=yP Z;have d4:(a.tmps[18]?.getD Θ)=.int .i64 (y.e):=Bc J 4;have d6:(a.tmps[20]?.getD Θ)=.int .i64 (x.e):=Bc J 6;clear J Y;refine yO ?_;go_simp;exact A _ _ rfl (yN _ _)
    |16,_=>clear bw bu bE bL;obtain rfl:=yP Z;have o8:(a.tmps[27]?.getD Θ)=.int .i64 (y.p):=Bc J 13;have js:(a.tmps[29]?.getD Θ)=.int .i64 (x.p):=Bc J 15;have d8:(a.tmps[22]?.getD Θ)=.bool false:=Bc J 8;clear J Y;refine AZ.yes rfl rfl d8 ?_;go_simp;exact A _ _ rfl (yN _ _)
    |_+17,hq=>omega
   intro D E hR L
   have q8:(D 8)=.bool false:=Bh hR 8;have fs:(D 16)=.bool true:=Bh hR 16;clear hR;simp only[Ai,Ae,yL,yI,yJ,yH,q8,fs];simp;clear q8 fs;have nS:=(L.cell (p:=⟨b,a5+k*4,none⟩) c7).trans D0;have pE:=(L.cell (p:=⟨b,a5+k*4+1,none⟩) c7).trans D1;have nP:=(L.cell (p:=⟨b,a5+k*4+2,none⟩) c7).trans D2;have nO:=(L.cell (p:=⟨b,a5+k*4+3,none⟩) c7).trans D3;have cr:=Y.trans (L.mono Y.size);have kV:=AA (AQ.below jU L);have jR:=AB HN L;clear D0 D1 D2 D3;go_wp2_with (at_builtin;go_must (refine Bn (lo:=w.heap.size+1) (n:=ys.length) (xs:=Ce AY ys) (m:=1) (news:=[.int .i64 y.e,.int .i64 y.p,.int .i64 y.f,.bool y.w]) rfl rfl 125 (.agg #[θ,θ,θ,υ]) 4 32 underlying26 Tryz.zP rfl ψ rfl (A8 kV (AJ _ _)) rfl (Rd.zM _ #[.int .i64 y.e,.int .i64 y.p,.int .i64 y.f,.bool y.w] _ 4 1 _ rfl χ ζ) (by simp[xR]) μ ω (by have:=cr.size;have:=AU jR;simp;omega) ?_;intro o' w9 k1 k2 k3 k4));go_roundw;exact⟨k+1,ω,ξ,by rw[kR.u];unfold AQ;rw[Bq,Eo,yz];exact k1,(cr.alloc cr.size _).trans (k4.mono (vS _)),(k2.block w (by have:=AU jR;simp;omega) (λe=>by have:=(kV.lt _ e.symm).1;omega)).trans (AB jR (AJ _ _))⟩;simp[intOf];omega
  skip
  have t1:(y.e !=x.e)=true:=by simp[e1]
  have kR:=AA (show(c.take (k+1)).filter (λy=>!BQ x.e x.p y)=ys++[y] by rw[Nx.u];simp[BQ,e1]);clear Nx e1;go_wp2_with fail;refine Ac 17 50 [.v (.slice (some ⟨b,a5,none⟩) c.length cp),.i ((k:Int)),.p b (a5+k*4),.p b (a5+k*4),.i (y.e),.p w.heap.size 0,.i (x.e),.b true,.b true,.u,.u,.u,.u,.u,.u,.u,.u] (λ_ _ _=>True) ?_ ?_
  .intro i hi o Z a E Y J L h2 A
   have bw:=bc L c7 D0;have bu:=bc L i7 H
   match i,hi with
   |0,_|1,_|3,_|5,_|8,_=>exact sP Z A Y J
   |2,_=>exact sI Z A Y J (hr:=by clear J Y A;go_simp)
   |4,_|6,_=>exact sL Z A Y J (hl:=GO ‹_›)
   |9,_|10,_|11,_|12,_|13,_|14,_|15,_|16,_=>exact sB Z A J
   |7,_=>clear bw bu;obtain rfl:=yP Z;have d4:(a.tmps[18]?.getD Θ)=.int .i64 (y.e):=Bc J 4;have d6:(a.tmps[20]?.getD Θ)=.int .i64 (x.e):=Bc J 6;clear J Y;refine yO ?_;go_simp;exact A _ _ rfl (yN _ _)
   |_+17,hq=>omega
  intro D E hR L
  have q8:(D 8)=.bool true:=Bh hR 8;have fs:(D 16)=Θ:=Bh hR 16;clear hR;simp only[Ai,Ae,yL,yI,yJ,yH,q8,fs];simp;clear q8 fs;have nS:=(L.cell (p:=⟨b,a5+k*4,none⟩) c7).trans D0;have pE:=(L.cell (p:=⟨b,a5+k*4+1,none⟩) c7).trans D1;have nP:=(L.cell (p:=⟨b,a5+k*4+2,none⟩) c7).trans D2;have nO:=(L.cell (p:=⟨b,a5+k*4+3,none⟩) c7).trans D3;have cr:=Y.trans (L.mono Y.size);have kV:=AA (AQ.below jU L);have jR:=AB HN L;clear D0 D1 D2 D3;go_wp2_with (at_builtin;go_must (refine Bn (lo:=w.heap.size+1) (n:=ys.length) (xs:=Ce AY ys) (m:=1) (news:=[.int .i64 y.e,.int .i64 y.p,.int .i64 y.f,.bool y.w]) rfl rfl 125 (.agg #[θ,θ,θ,υ]) 4 32 underlying26 Tryz.zP rfl ψ rfl (A8 kV (AJ _ _)) rfl (Rd.zM _ #[.int .i64 y.e,.int .i64 y.p,.int .i64 y.f,.bool y.w] _ 4 1 _ rfl χ ζ) (by simp[xR]) μ ω (by have:=cr.size;have:=AU jR;simp;omega) ?_;intro o' w9 k1 k2 k3 k4));go_roundw;exact⟨k+1,ω,ξ,by rw[kR.u];unfold AQ;rw[Bq,Eo,yz];exact k1,(cr.alloc cr.size _).trans (k4.mono (vS _)),(k2.block w (by have:=AU jR;simp;omega) (λe=>by have:=(kV.lt _ e.symm).1;omega)).trans (AB jR (AJ _ _))⟩;simp[intOf];omega
 obtain rfl:k=c.length:=ω;rw[xE] at b8;have lU:(c.filter λy=>!BQ x.e x.p y).length<=c.length:=List.length_filter_le ..;have nj:=lx.u;generalize(c.filter λy=>!BQ x.e x.p y)=F at*;have lx:=AA nj;clear nj;have qi:F.length<=4:=by have:=py.u;omega
 obtain⟨H,N,V,R⟩:=AG hN;have i7:=AU hN;have HO:=AA b8
 by_cases h4:F.length=4
 focus
  have P:=AA (show Ju c x=F.drop 1++[x] by rw[lx.u,if_pos h4])
  obtain⟨q,fm,rfl,c1,c2,q1,q2,bA⟩:=b8.zW ω;unfold maxLen at c2;have l9:(4:Int)<=F.length:=ω;have H4:=AA h4;clear h4 b8;go_wp2_with fail;have RG:=AA (dc (AQ.rd HO.u) (by have:=H4.u;omega));have oW:(F.drop 1).length<=3:=by rw[xh];have:=H4.u;omega
  generalize F.drop 1=G at*;generalize(xG (some ⟨q,4,none⟩) (F.length - 1) (fm - 1))=u5 at RG ⊢;clear HO
 rotate_left
 focus
  have P:=AA (show Ju c x=F++[x] by rw[lx.u,if_neg h4])
  obtain⟨_,_,e5,_,_⟩:=b8.rd.shape;have ky:¬(4:Int)<=F.length:=ω;have RG:=AA b8.rd;have oW:F.length<=3:=ω;clear h4 HO;cases e5;clear b8;go_wp2_with fail;generalize F=G at*;generalize(xG _ G.length _)=u5 at RG ⊢
 rotate_left
 all_goals
  refine A9 5 50 [.z,.v u5,.z,.a #[.int .i64 (x.e),.int .i64 (x.p),.int .i64 (x.f),.bool (x.w)],.z] (λix vv ww=>match ix with
   |0=>∃g,vv=.slice (some ⟨g,0,none⟩) 0 0/\wr.heap.size<=g/\ww.heap[g]?=some (.cells #[] 125 (0,0))
   |2=>AQ wr.heap.size 125 4 AY ww vv G
   |4=>∃g,vv=.slice (some ⟨g,0,none⟩) 1 1/\wr.heap.size<=g/\ww.heap[g]?=some (.cells #[x.e,x.p,x.f,x.w] 125 (0,0))
   |_=>True) ?_ ?_ ?_
  .intro i hi o Z a E Y J L h2 A
   match i,hi with
   |1,_=>exact sP Z A Y J
   |3,_=>exact sL Z A Y J (hl:=XG (bc L i7 H) (bc L i7 N) (bc L i7 V) (bc L i7 R))
   |0,_=>obtain rfl:=yP Z;clear J Y;refine yO ?_;go_simp;exact A _ _ ⟨_,rfl,L.size,yx _ _⟩ (AJ _ _)
   |2,_=>
    obtain rfl:=yP Z;have d0:∃g,(a.tmps[44]?.getD Θ)=.slice (some ⟨g,0,none⟩) 0 0/\wr.heap.size<=g/\E.heap[g]?=some (.cells #[] 125 (0,0)):=Bc J 0
    have d1:(a.tmps[45]?.getD Θ)=u5:=Bc J 1;clear J Y;refine yO ?_;obtain⟨g,iV,iU,iT⟩:=d0;obtain⟨v7,w4,bP,r1,r2,_⟩:=EA (lo:=wr.heap.size) (w:=E) (t:=26) (ty:=26) 125 _ 4 32 underlying26 Tryz.zP rfl ψ iT iU (BK.below RG L) (Kk _) ω;refine Cc rfl (Br iV) (Br d1) bP ?_;exact A _ _ r1 r2
   |4,_=>obtain rfl:=yP Z;have d3:(a.tmps[47]?.getD Θ)=.agg #[.int .i64 (x.e),.int .i64 (x.p),.int .i64 (x.f),.bool (x.w)]:=Bc J 3;clear J Y;refine yO ?_;go_simp;exact A _ _ ⟨_,rfl,L.size,yx _ _⟩ (AJ _ _)
  .intro i hi vv wz fp bB hz
   match i,hi with
   |0,_|4,_=>exact(by obtain⟨g,h0,h1,K⟩:=hz;exact⟨g,h0,h1,AB K bB⟩)
   |2,_=>exact(AQ.below hz bB)
   |1,_|3,_=>exact hz
  intro D E hR L
  have q2:AQ wr.heap.size 125 4 AY E (D 2) G:=Bh hR 2;have q4:∃g,(D 4)=.slice (some ⟨g,0,none⟩) 1 1/\wr.heap.size<=g/\E.heap[g]?=some (.cells #[x.e,x.p,x.f,x.w] 125 (0,0)):=Bh hR 4
  clear hR;simp only[Ai,Ae,yL,yI,yJ,yH];simp;generalize D 2=z2 at q2 ⊢;generalize D 4=z4 at q4 ⊢;obtain⟨g4,rfl,_,q4⟩:=q4;have Q2:=AA q2;have Q4:=AA (ZU q4);have cr:=z.trans (L.mono z.size);have oA:=L.size;obtain⟨_,_,rfl,_⟩:=q2.rd.shape;clear q2 q4 H N V R;go_wp2_with (at_builtin;go_must (refine Bn (lo:=wr.heap.size) (n:=G.length) (xs:=Ce AY G) (m:=1) (news:=[.int .i64 x.e,.int .i64 x.p,.int .i64 x.f,.bool x.w]) rfl rfl 125 (.agg #[θ,θ,θ,υ]) 4 32 underlying26 Tryz.zP rfl ψ rfl Q2 rfl Q4 (by simp[xR]) μ ω oA ?_;intro o' w9 k1 k2 k3 k4));go_ret;exact⟨_,rfl,by rw[P.u];unfold AQ;rw[Bq,Eo,yz];exact Bb k1 z.size,cr.trans (k4.mono z.size)⟩
theorem IP{b f:Φ}(h:w.heap[g]?=some (.cells #[a,b,c,d,e,f] T (0,0))):w.cell? g=some a/\w.cell? (g,1)=some b/\w.cell? (g,2)=some c/\w.cell? (g,3)=some d/\w.cell? (g,4)=some e/\w.cell? (g,5)=some f:=
 ⟨yy _ _ 0 _ _ _ h,yy _ _ 1 _ _ _ h,yy _ _ 2 _ _ _ h,yy _ _ 3 _ _ _ h,yy _ _ 4 _ _ _ h,yy _ _ 5 _ _ _ h⟩
theorem Le (m iv ev cv:Φ)(k:AR)(kk e a b c:Int)(nm:ByteArray)(kind:Int)(w:Ω)(h:Ns w m iv ev cv k)(hk:DZ k)(he:0<=e/\e<3)(kC:kind=0∨kind=1):
 Ξ prog 234 #[.agg #[m,iv,ev,cv],.agg #[kk,e,a,b,c,nm],.int .i64 kind] w λr w'=>r=.returned (.int .i64 (Ch k ⟨kk,e,a,b,c,nm⟩ kind))/\Γ w w w':=by
 obtain⟨N0,N1,al,gq⟩:=LG w (.cells #[m,iv,ev,cv] 28) (.cells #[kk,e,a,b,c,nm] 34);obtain⟨H,N,V,R⟩:=AG N0;obtain⟨y0,y1,y2,y3,y4,y5⟩:=IP N1;have a7:=AU N0;have bs:=AU N1
 by_cases ha:Bj a 0 11=true
 .obtain⟨O,rfl⟩:∃O:Nat,a=(O:Int):=⟨a.toNat,by have:=(Aa.1 ha).1;omega⟩
  obtain⟨en,rfl⟩:∃en:Nat,e=(en:Int):=⟨e.toNat,ω⟩
  have cl:O<12:=by have:=(Aa.1 ha).2;omega
  have cC:en<3:=ω;have hl:=(A2.1 (Aq hk).2.1).1;have FC:=AA (show Ch k ⟨kk,(en:Int),(O:Int),b,c,nm⟩ kind=if(JR k.Zh O).k=0 then 3 else if Cd (AH k.Xr en).Pj (JR k.Zh O).g=false then 1
   else if(0<kind/\(JR k.Zh O).k≠kind)∨(kind=0/\Bp (JR k.Zh O).k=false) then 3 else 0 by unfold Ch;simp[ha])
  have kp:=Ca (Aq hk).2.1 _ (yv (Cg (ω:O<k.Zh.length)));have CM:=AA (λW (hW:Γ _ _ W)=>KS m iv ev cv k en (JR k.Zh O).g W ((h.2.2.1.below al).below hW) hk cC kp);obtain⟨ai,ci,rfl,_,_,HI⟩:=BK.open Az ψ (BK.below h.2.1 al);obtain⟨bi,bt,rfl,ft,D0,D1,_⟩:=HI.zZ (ω:O<k.Zh.length);have qh:(O:Int)<k.Zh.length:=ω;have HA:=AA ha;have ld:¬(O:Int)<0:=ω;clear h hk N0 N1 HI ha hl kp he;generalize hW0:(w.alloc _).alloc _=W0 at H N V R y0 y1 y2 y3 y4 y5 D0 D1 a7 bs ft CM al;generalize(JR k.Zh O).g=gd at D1 CM FC;generalize(JR k.Zh O).k=kd at D0 FC;generalize Cd (AH k.Xr en).Pj gd=mb at CM FC
  by_cases e0:kd=0
  .have t0:(kd==0)=true:=by simp[e0]
   have x3:=AA (show Ch k ⟨kk,(en:Int),(O:Int),b,c,nm⟩ kind=3 by rw[FC.u,if_pos e0]);clear e0;go_in;go_wp2_with (refine(EZ _ _).mono ?_;rintro r w2 ⟨rfl,rfl⟩;rw[HA.u]);go_ret;exact⟨Cy x3.symm,al⟩
  have t0:(kd==0)=false:=by simp[e0]
  have lA:=AA (show Ch k ⟨kk,(en:Int),(O:Int),b,c,nm⟩ kind=if mb=false then 1
   else if(0<kind/\kd≠kind)∨(kind=0/\Bp kd=false) then 3 else 0 by rw[FC.u,if_neg e0])
  clear e0 FC;go_in;go_wp2_with fail;refine(EZ _ _).mono ?_;rintro r w2 ⟨rfl,rfl⟩;rw[HA.u];go_wp2_with fail;refine Ac 11 64 [.a #[m,.slice (some ⟨bi,bt,none⟩) k.Zh.length ci,ev,cv],.p (w.heap.size+1) 1,.i ((en:Int)),.p w.heap.size 1,.v (.slice (some ⟨bi,bt,none⟩) k.Zh.length ci),.p (w.heap.size+1) 2,.i ((O:Int)),.p bi (bt+O*3),.p bi (bt+O*3+1),.t gd,.b mb] (λ_ _ _=>True) ?_ ?_
  .intro i hi o Z a E Y J L h2 A
   have bw:=bc L a7 H;have bu:=bc L a7 N;have bE:=bc L a7 V;have bL:=bc L a7 R;have cT:=bc L bs y1;have fl:=bc L bs y2;have jE:=bc L ft D1
   match i,hi with
   |0,_=>exact sL Z A Y J (hl:=P7 ‹_› ‹_› ‹_› ‹_›)
   |1,_|3,_|5,_|8,_=>exact sP Z A Y J
   |2,_|6,_=>exact sL Z A Y J (hl:=GO ‹_›)
   |4,_=>exact sL Z A Y J (hl:=Gt ‹_›)
   |7,_=>exact sI Z A Y J (hr:=by clear J Y A;go_simp)
   |9,_=>exact sL Z A Y J (hl:=aM ‹_›)
   |10,_=>exact sD Z A Y J (CM _ L)
  intro D E hR L
  have fd:(D 10)=.bool mb:=Bh hR 10;clear hR;simp only[Ai,Ae,yL,yI,yJ,yH,fd];simp;clear fd;have nS:=(L.cell (p:=⟨bi,bt+O*3,none⟩) ft).trans D0;have pG:=(L.cell (p:=⟨w,1,none⟩) a7).trans N;have mK:=(L.cell (p:=⟨w.heap.size+1,2,none⟩) bs).trans y2;have cr:=al.trans (L.mono al.size);clear D0 D1 H N V R y0 y1 y2 y3 y4 y5 L CM;cases mb
  .have x3:=AA (show Ch k ⟨kk,(en:Int),(O:Int),b,c,nm⟩ kind=1 by rw[lA.u];rfl)
   go_wp2;go_ret;exact⟨Cy x3.symm,cr⟩
  rcases kC with rfl|rfl
  .have x3:=AA (show Ch k ⟨kk,(en:Int),(O:Int),b,c,nm⟩ 0=if Bp kd=false then 3 else 0 by rw[lA.u];simp)
   go_wp2_with fail;refine(GY _ _).mono ?_;rintro r w2 ⟨rfl,rfl⟩;generalize Bp kd=tb at x3;cases tb
   .go_wp2
    go_ret;exact⟨Cy x3.symm,cr⟩
   go_wp2
   go_ret;exact⟨Cy x3.symm,cr⟩
  by_cases e1:kd=1
  .have t1:(kd !=1)=false:=by simp[e1]
   have x3:=AA (show Ch k ⟨kk,(en:Int),(O:Int),b,c,nm⟩ 1=0 by rw[lA.u];simp[e1]);clear e1;go_wp2;go_ret;exact⟨Cy x3.symm,cr⟩
  have t1:(kd !=1)=true:=by simp[e1]
  have x3:=AA (show Ch k ⟨kk,(en:Int),(O:Int),b,c,nm⟩ 1=3 by rw[lA.u];simp[e1]);clear e1;go_wp2;go_ret;exact⟨Cy x3.symm,cr⟩
 have l6:Bj a 0 11=false:=by simpa using ha
 have x3:=AA (show Ch k ⟨kk,e,a,b,c,nm⟩ kind=3 by unfold Ch;simp[l6]);have HA:=AA l6;clear ha l6 h hk;go_in;go_wp2_with (refine(EZ _ _).mono ?_;rintro r w2 ⟨rfl,rfl⟩;rw[HA.u]);go_ret;exact⟨Cy x3.symm,al⟩
def Nm(w0:Ω)(g:Nat)(m i e c:Φ)(k:AR)(qs:List (Φ×Int))(wr:Ω):Prop:=
 wr.heap[g]?=some (.cells #[m,i,e,c] 28 (0,0))/\(∃D,Ay w0 wr m D k.mem)/\AQ w0.heap.size 115 3 Av wr i k.Zh/\Da w0 wr e qs (k.Xr.take qs.length)/\AQ w0.heap.size 125 4 AY wr c k.Xo/\Γ w0 w0 wr/\w0.heap.size<=g
def L3(lo:Nat)(T:Nat)(W:Ω)(x2:Φ):Prop:=∃g,x2=.slice (some ⟨g,0,none⟩) 0 0/\lo<=g/\W.heap[g]?=some (.cells #[] T (0,0))
theorem L3.below (h:L3 lo T W x2)(z:Γ W W W'):L3 lo T W' x2:=by obtain⟨g,h0,h1,K⟩:=h;exact⟨g,h0,h1,AB K z⟩
def Xq(lo:Nat)(r:Int)(ts:List ByteArray)(W:Ω)(x2:Φ):Prop:=∃u,x2=.agg #[u,r]/\AQ lo 9 1 A0 W u ts
variable{ts:List ByteArray}
theorem Xq.below (h:Xq lo r ts W x2)(z:Γ W W W'):Xq lo r ts W' x2:=by obtain⟨u,h0,h1⟩:=h;exact⟨u,h0,h1.below z⟩
def Zf(lo:Nat)(r:Int)(ts:List ByteArray)(W:Ω)(x2:Φ):Prop:=∃g u,x2=.slice (some ⟨g,0,none⟩) 1 1/\lo<=g/\W.heap[g]?=some (.cells #[u,r] 81 (0,0))/\AQ lo 9 1 A0 W u ts
theorem Zf.below (h:Zf lo r ts W x2)(z:Γ W W W'):Zf lo r ts W' x2:=by obtain⟨g,u,h0,h1,K,h3⟩:=h;exact⟨g,u,h0,h1,AB K z,h3.below z⟩
theorem eu{b:Φ}(h:w.heap[g]?=some (.cells #[a,b] T (0,0))):Rd w (.slice g 1 1) 2 1 [a,b]:=by
 have h0:=yy _ _ 0 _ _ _ h;have h1:=yy _ _ 1 _ _ _ h;refine⟨_,_,rfl,yF _,ζ,rfl,nofun,λ_=>⟨g,0,rfl,λj hj=>?_⟩⟩;rw[wT]
 match j,hj with
 |0,_=>exact h0
 |1,_=>exact h1
 |_+2,hj=>exact absurd hj ω
def JE(lo:Nat)(w:Ω)(v:Φ)(k:AR):Prop:=∃m i e c,v=.agg #[m,i,e,c]/\(∃D,Ay lo w m D k.mem)/\AQ lo 115 3 Av w i k.Zh/\Da lo w e [] []/\AQ lo 125 4 AY w c k.Xo
theorem JE.below (h:JE lo w v k)(z:Γ w w w'):JE lo w' v k:=by obtain⟨m,i,e,c,h0,⟨D,h1⟩,K,h3,h4⟩:=h;exact⟨m,i,e,c,h0,⟨D,h1.below z⟩,K.below z,h3.below z,h4.below z⟩
def fY(w:Ω)(row:Option Nat):Prop:=∀q,row=some q->∃ln,w.heap[q]?=some (.cells ln 81 (0,0))
variable{row:Option Nat}
theorem gL{D:List Φ}{mL:List (List Int)}(o:Ay lo w1 v D mL)(K:w1.grownBy w2 row)(hr:fY w1 row):Ay lo w2 v D mL:=by
 cases row with
 |none=>exact o.below (Below.zE K)
 |some q=>obtain⟨ln,hc⟩:=hr q rfl;exact o.yV K hc
theorem fN{α:Type}{e:Nat}{cs:α->List Φ}{xs:List α}(o:AQ lo e sz cs w1 v xs)(K:w1.grownBy w2 row)(hr:fY w1 row)(he:e≠81):AQ lo e sz cs w2 v xs:=by
 cases row with
 |none=>exact o.below (Below.zE K)
 |some q=>obtain⟨ln,hc⟩:=hr q rfl;exact o.yV K hc he
theorem Nm.yU{qs:List (Φ×Int)}(h:Nm w0 g m i e c k qs wr)(z:Γ wr wr w1)(K:w1.grownBy w2 e.ownBlock):w2.heap[g]?=some (.cells #[m,i,e,c] 28 (0,0)):=by
 have l7:=AB h.1 z;exact(K.block g (AU l7) λe'=>DD (h.2.2.2.1.1.below z) l7 ψ e'.symm).trans l7
theorem Nm.step{qs:List (Φ×Int)}{e:Ez}(h:Nm w0 g m i ev c k qs wr)(z:Γ wr wr w1)(hu:AQ wr.heap.size 9 1 A0 w1 u e.Pj)(he:k.Xr[qs.length]?=some e)
 (h1:w2.ownsRow w0.heap.size 81 2 v' (qs.length+1) (Ce FM qs++[u,.int .i64 e.root]))(K:w1.grownBy w2 ev.ownBlock):Nm w0 g m i v' c k (qs++[(u,e.root)]) (w2.setCell (g,2) v'):=by
 have iy:=h.yU z K;obtain⟨hB,⟨D,o1⟩,o2,o3,o4,ip,hg⟩:=h;have P:=Da.push o3 z ip.size (yF _) hu h1 K;have hr:fY w1 ev.ownBlock:=λq hq=>A7 (o3.1.below z) q hq
 have bD:=Ak w2 g 2 v';have ht:k.Xr.take (qs++[(u,e.root)]).length=k.Xr.take qs.length++[⟨e.Pj,e.root⟩]:=by rw[yz,xP,DA he]
 refine⟨?_,⟨D,(gL (o1.below z) K hr).yV bD iy⟩,(fN (o2.below z) K hr ψ).yV bD iy,?_,(fN (o4.below z) K hr ψ).yV bD iy,?_,hg⟩
 .have:=yE w2 g 2 _ 28 v' iy
  simpa using this
 .rw[ht]
  exact P.yV bD iy
 exact((ip.trans (z.mono ip.size)).grown K (ip.trans (z.mono ip.size)).size (λq hq=>((o3.1.below z).lt q hq).1)).setCell hg _
theorem MR (m i e c:Φ)(k:AR)(w:Ω)(h:Ns w m i e c k)(hk:DZ k):Ξ prog 76 #[.agg #[m,i,e,c]] w (Qy w k):=by
 obtain⟨h1,K,h3,h4⟩:=h;have j3:=(Aj.1 (Aq hk).1).1;have jz:=(A2.1 (Aq hk).2.1).1;have kI:k.Xo.length<=4:=by have:=hk.Xo;simp only[Bk,yD,decide_eq_true_eq] at this;exact this.2
 have kv:∀f,f<k.mem.length->(AK k.mem f).length<=100:=λf hf=>by have:=(BB.1 ((Aj.1 (Aq hk).1).2 f ω)).1;omega
 obtain⟨N0,N1,al,gq⟩:=LG w (.cells #[m,i,e,c] 28) (.cells #[ι,ι,ι,ι] 28);obtain⟨H,N,V,R⟩:=AG N0;have im:=AU N0;have C1:=AA (λW (hW:Γ _ _ W)=>OD m k.mem W ((h1.below al).below hW) ω kv);have RI:=AA (BK.below K al);have RC:=AA (BK.below h4 al);obtain⟨am,cm,rfl,_⟩:=h1.open;obtain⟨ai,ci,rfl,_,_⟩:=K.shape;obtain⟨ae,ce,rfl,nb,jM,ii⟩:=(h3.below al).open;obtain⟨ac,cc,rfl,_,_⟩:=h4.shape;have HE:=AA ii;have Hk:=AA hk;have ig:=AA hk.zX;have oz:k.Zh.length<=100:=ω;generalize hW0:(w.alloc _).alloc _=W0 at*;clear h1 K h3 h4 hk j3 jz kv ii;go_in;go_wp2_with fail;refine A9 14 46 [.p w.heap.size 0,.v (.slice am k.mem.length cm),.z,.z,.p w.heap.size 1,.v (.slice ai k.Zh.length ci),.z,.z,.z,.p w.heap.size 3,.v (.slice ac k.Xo.length cc),.z,.z,.z] (λix vv ww=>match ix with
  |2=>∃iu,Ay W0 ww vv iu k.mem
  |3=>L3 W0.heap.size 115 ww vv
  |6=>AQ W0.heap.size 115 3 Av ww vv k.Zh
  |7=>Da W0 ww vv [] []
  |8=>L3 W0.heap.size 125 ww vv
  |11=>AQ W0.heap.size 125 4 AY ww vv k.Xo
  |12=>JE W0 ww vv k
  |13=>LS W0 ww vv
  |_=>True) ?_ ?_ ?_
 .intro i hi o Z a E Y J L h2 A
  match i,hi with
  |0,_|4,_|9,_=>exact sP Z A Y J
  |1,_=>exact sL Z A Y J (hl:=GZ (bc L im H))
  |2,_=>exact sC Z A Y J (C1 _ L) (by rintro e w_ ⟨v',iu,rfl,hO,a4⟩;exact⟨_,rfl,⟨iu,hO.lower L.size⟩,a4⟩)
  |5,_=>exact sL Z A Y J (hl:=Gt (bc L im N))
  |10,_=>exact sL Z A Y J (hl:=Yb (bc L im R))
  |3,_|8,_=>obtain rfl:=yP Z;clear J Y;refine yO ?_;go_simp;exact A _ _ ⟨_,rfl,L.size,yx _ _⟩ (AJ _ _)
  |6,_=>obtain rfl:=yP Z;have d3:L3 W0.heap.size 115 E (a.tmps[8]?.getD Θ):=Bc J 3;have d5:(a.tmps[10]?.getD Θ)=.slice ai k.Zh.length ci:=Bc J 5;clear J Y;refine yO ?_;obtain⟨g_,iV,iU,iT⟩:=d3;obtain⟨v7,w4,bP,r1,r2,_⟩:=EA (lo:=W0.heap.size) (w:=E) (t:=24) (ty:=24) 115 _ 3 32 underlying24 Tryz.zO rfl ψ iT iU (BK.below RI L) (F6 _) ω;refine Cc rfl (Br iV) (Br d5) bP ?_;exact A _ _ r1 r2
  |7,_=>obtain rfl:=yP Z;clear J Y;refine yO ?_;go_simp;exact A _ _ ⟨AQ.lower (Ci FM _ _ _) L.size,Gj.nil,Dh.nil⟩ (AJ _ _)
  |11,_=>obtain rfl:=yP Z;have d8:L3 W0.heap.size 125 E (a.tmps[13]?.getD Θ):=Bc J 8;have gk:(a.tmps[15]?.getD Θ)=.slice ac k.Xo.length cc:=Bc J 10;clear J Y;refine yO ?_;obtain⟨g_,iV,iU,iT⟩:=d8;obtain⟨v7,w4,bP,r1,r2,_⟩:=EA (lo:=W0.heap.size) (w:=E) (t:=26) (ty:=26) 125 _ 4 32 underlying26 Tryz.zP rfl ψ iT iU (BK.below RC L) (Kk _) ω;refine Cc rfl (Br iV) (Br gk) bP ?_;exact A _ _ r1 r2
  |12,_=>
   obtain rfl:=yP Z;have d2:∃iu,Ay W0 E (a.tmps[7]?.getD Θ) iu k.mem:=Bc J 2
   have d6:AQ W0.heap.size 115 3 Av E (a.tmps[11]?.getD Θ) k.Zh:=Bc J 6;have d7:Da W0 E (a.tmps[12]?.getD Θ) [] []:=Bc J 7;have jc:AQ W0.heap.size 125 4 AY E (a.tmps[16]?.getD Θ) k.Xo:=Bc J 11;clear J Y;generalize e7:a.tmps[7]?.getD Θ=m' at d2;generalize mg:a.tmps[11]?.getD Θ=i' at d6;generalize e12:a.tmps[12]?.getD Θ=e' at d7;generalize e16:a.tmps[16]?.getD Θ=c' at jc;have W:eh (JE W0 E (.agg #[m',i',e',c']) k):=AA ⟨m',i',e',c',rfl,d2,d6,d7,jc⟩;obtain⟨_,d2⟩:=d2;obtain⟨_,_,rfl,_,_⟩:=d2.1.rd.shape;obtain⟨_,_,rfl,_,_⟩:=d6.rd.shape;obtain⟨_,_,rfl,_,_⟩:=d7.1.rd.shape;obtain⟨_,_,rfl,_,_⟩:=jc.rd.shape;clear d2 d6 d7 jc;refine yO ?_;go_simp;exact A _ _ W (yN _ _)
  |13,_=>obtain rfl:=yP Z;clear J Y;refine yO ?_;go_simp;exact A _ _ ⟨_,rfl,L.size,yx _ _⟩ (AJ _ _)
 .intro i hi vv wz fp bB hz
  match i,hi with
  |2,_=>exact(by obtain⟨iu,h'⟩:=hz;exact⟨iu,h'.below bB⟩)
  |3,_|8,_=>exact(L3.below hz bB)
  |6,_|11,_=>exact(AQ.below hz bB)
  |7,_=>exact(Da.below hz bB)
  |12,_=>exact(JE.below hz bB)
  |13,_=>exact(LS.below hz bB)
  |0,_|1,_|4,_|5,_|9,_|10,_=>exact hz
 intro D E hR L
 have dg:JE W0 E (D 12) k:=Bh hR 12;have eL:LS W0 E (D 13):=Bh hR 13;obtain⟨g,eL,hg,hB⟩:=eL;clear hR;simp only[Ai,Ae,yL,yI,yJ,yH,eL];simp;generalize D 12=z12 at dg ⊢;clear eL;obtain⟨m',i',e',c',rfl,⟨iu,o1⟩,o2,o3,o4⟩:=dg;have bD:=As (As (As (Ak E g 0 m') 1 i') 2 e') 3 c';have St:Nm W0 g m' i' e' c' k [] ((((E.setCell g m').setCell (g,1) i').setCell (g,2) e').setCell (g,3) c'):=
  ⟨DF hB,⟨iu,o1.yV bD hB⟩,o2.yV bD hB,o3.yV bD hB,o4.yV bD hB,(((L.setCell hg _).setCell hg _).setCell hg _).setCell hg _,hg⟩
 obtain⟨pa,pc,rfl,_,_⟩:=o1.1.rd.shape;obtain⟨qa,qc,rfl,_,_⟩:=o2.rd.shape;obtain⟨ea,ec,nq,_,_⟩:=o3.1.rd.shape;rw[List.length_nil] at nq;subst nq;obtain⟨ra,rc,rfl,_,_⟩:=o4.rd.shape;obtain⟨b0,b1,b2,b3⟩:=AG hB;have bA:=AI hB;have px:=AA N0;have pw:=AA N1;have pp:=AA hW0;have pk:=AA gq;clear o1 o2 o3 o4 L hB bD H N V R N0 N1 hW0 gq RI RC C1;go_wp2_with fail;clear b0 b1 b2 b3 bA;go_loopw [4] (λix wr=>∃(qs:List (Φ×Int)) (ev:Φ),qs.length<=3/\ix=.int .i64 qs.length/\Nm W0 g (.slice pa iu.length pc) (.slice qa k.Zh.length qc) ev (.slice ra k.Xo.length rc) k qs wr) (λix _=>3 - (intOf ix).toNat)
 exact⟨[],_,χ,rfl,St⟩
 clear St;obtain⟨qs,ev,hq,rfl,St⟩:=hrel;have jV:=ig.u;have la:=(AG ((St.2.2.2.2.2.1.block _ im).trans px.u)).2.2.1;have kz:=yu im St.2.2.2.2.2.1.size;have y2:=(AG St.1).2.2.1;have jH:=AU St.1;obtain⟨ea,ec,rfl,qd,oK⟩:=St.2.2.2.1.1.rd.shape
 by_cases bf:qs.length<3
 .have m5:qs.length<k.Xr.length:=ω
  obtain⟨be,fa,ua,uc,rfl,jo,D0,D1,hR⟩:=(HE.below (St.2.2.2.2.2.1)) qs.length m5;have cg:(qs.length:Int)<k.Xr.length:=ω;have RS:=AA hR;have pT:=SU Hk bf;have lu:=AA St;have pq:=AA jV;have mM:=la;clear St hR jV la;go_wp2_with fail;refine A9 18 46 [.p g 2,.v (.slice ea qs.length ec),.z,.p w.heap.size 2,.v (.slice (some ⟨be,fa,none⟩) k.Xr.length ce),.i ((qs.length:Int)),.p be (fa+qs.length*2),.p be (fa+qs.length*2),.v (.slice ua (AH k.Xr qs.length).Pj.length uc),.z,.p w.heap.size 2,.v (.slice (some ⟨be,fa,none⟩) k.Xr.length ce),.i ((qs.length:Int)),.p be (fa+qs.length*2),.p be (fa+qs.length*2+1),.i ((AH k.Xr qs.length).root),.z,.z] (λix vv ww=>match ix with
   |2=>L3 wr.heap.size 9 ww vv
   |9=>AQ wr.heap.size 9 1 A0 ww vv (AH k.Xr qs.length).Pj
   |16=>Xq wr (AH k.Xr qs.length).root (AH k.Xr qs.length).Pj ww vv
   |17=>Zf wr (AH k.Xr qs.length).root (AH k.Xr qs.length).Pj ww vv
   |_=>True) ?_ ?_ ?_
  .intro i hi o Z a E Y J L h2 A
   have bw:=bc L jH y2;have bu:=bc L kz mM;have bE:=bc L jo D0;have bL:=bc L jo D1
   match i,hi with
   |0,_|3,_|5,_|7,_|10,_|12,_|14,_=>exact sP Z A Y J
   |1,_|4,_|11,_=>exact sL Z A Y J (hl:=P6 ‹_›)
   |6,_|13,_=>exact sI Z A Y J (hr:=by clear J Y A;go_simp)
   |8,_=>exact sL Z A Y J (hl:=Kt ‹_›)
   |15,_=>exact sL Z A Y J (hl:=GO ‹_›)
   |2,_=>clear bw bu bE bL;obtain rfl:=yP Z;clear J Y;refine yO ?_;go_simp;exact A _ _ ⟨_,rfl,L.size,yx _ _⟩ (AJ _ _)
   |9,_=>clear bw bu bE bL;obtain rfl:=yP Z;have d2:L3 wr.heap.size 9 E (a.tmps[27]?.getD Θ):=Bc J 2;have d8:(a.tmps[33]?.getD Θ)=.slice ua (AH k.Xr qs.length).Pj.length uc:=Bc J 8;clear J Y;refine yO ?_;obtain⟨g_,iV,iU,iT⟩:=d2;obtain⟨v7,w4,bP,r1,r2,_⟩:=EA (lo:=wr.heap.size) (w:=E) (t:=79) (ty:=79) 9 _ 1 16 underlying79 Tryz.zT rfl ψ iT iU (BK.below RS L) (Ie _) ω;refine Cc rfl (Br iV) (Br d8) bP ?_;exact A _ _ r1 r2
   |16,_=>clear bw bu bE bL;obtain rfl:=yP Z;have d9:AQ wr.heap.size 9 1 A0 E (a.tmps[34]?.getD Θ) (AH k.Xr qs.length).Pj:=Bc J 9;have js:(a.tmps[40]?.getD Θ)=.int .i64 ((AH k.Xr qs.length).root):=Bc J 15;clear J Y;generalize e34:a.tmps[34]?.getD Θ=u at d9;have W:eh (Xq wr (AH k.Xr qs.length).root (AH k.Xr qs.length).Pj E (.agg #[u,.int .i64 (AH k.Xr qs.length).root])):=AA ⟨u,rfl,d9⟩;obtain⟨_,_,rfl,_,_⟩:=d9.rd.shape;clear d9;refine yO ?_;go_simp;exact A _ _ W (yN _ _)
   |17,_=>clear bw bu bE bL;obtain rfl:=yP Z;have nu:Xq wr (AH k.Xr qs.length).root (AH k.Xr qs.length).Pj E (a.tmps[41]?.getD Θ):=Bc J 16;clear J Y;obtain⟨u,nu,d9⟩:=nu;have HD:=AA d9;obtain⟨_,_,rfl,_,_⟩:=d9.rd.shape;clear d9;refine yO ?_;go_simp;exact A _ _ ⟨_,_,rfl,L.size,yx _ _,HD.below (AJ _ _)⟩ (AJ _ _)
   |_+18,hq=>omega
  .intro i hi vv wz fp bB hz
   match i,hi with
   |2,_=>exact(L3.below hz bB)
   |9,_=>exact(AQ.below hz bB)
   |16,_=>exact(Xq.below hz bB)
   |17,_=>exact(Zf.below hz bB)
   |0,_|1,_|3,_|4,_|5,_|6,_|7,_|8,_|10,_|11,_|12,_|13,_|14,_|15,_=>exact hz
   |_+18,hq=>omega
  intro D E hR L
  have q1:(D 1)=.slice ea qs.length ec:=Bh hR 1;have ki:Zf wr (AH k.Xr qs.length).root (AH k.Xr qs.length).Pj E (D 17):=Bh hR 17;clear hR;simp only[Ai,Ae,yL,yI,yJ,yH,q1];simp;generalize D 17=z17 at ki ⊢;clear q1;obtain⟨gb,u,rfl,_,kE,hu⟩:=ki;have ip:=lu.2.2.2.2.2.1;have mK:=(L.cell (p:=⟨g,2,none⟩) jH).trans y2;have ou:=yu jH L.size;have Q:=AA (eu kE);have HU:=AA hu;have an:=AA (lu.2.2.2.1.1.below L);have HG:=AA L;have oQ:=(ip.trans (L.mono ip.size)).size;obtain⟨_,_,rfl,_,_⟩:=hu.rd.shape;clear kE hu L D0 D1 y2 ip;go_wp2_with (at_builtin;go_must (refine Bn (lo:=W0.heap.size) (n:=qs.length) (xs:=Ce FM qs) (m:=1) rfl rfl 81 (.agg #[ι,θ]) 2 32 underlying25 Tryz.zd rfl ψ rfl an rfl Q (by simp[xR]) μ ω oQ ?_;intro o' w9 k1 k2 k3 k4;have S:=AA (lu.step HG HU (show k.Xr[qs.length]?=some (AH k.Xr qs.length) by unfold AH;exact A6 m5) k1 k2);have ja:=lu.yU HG k2;have z2:=(AG ja).2.2.1;have ql:=AI ja;have lP:=AU ja;obtain⟨_,_,rfl,_,_⟩:=(Rd.of_owns k1).shape;clear k1 k2 k3 k4 ja mK));go_roundw;exact⟨_,_,by rw[yz,xP];omega,by rw[yz,xP];go_num,S.u⟩;simp[intOf];omega
 have e3:qs.length=3:=ω;obtain⟨hB,⟨mQ,o1⟩,o2,o3,o4,ay,_⟩:=St;have o5:Da W0 wr (.slice ea qs.length ec) qs k.Xr:=by have:=o3;rwa [List.take_of_length_le ω] at this
 have jC:=(ay.block _ (by have:=pk.u;omega)).trans pw.u;have S:=AA (show ∀w',wr.grownBy w' (some (w.heap.size+1))->Qy w k (.returned (.agg #[_,_,(.slice ea qs.length ec),_])) w' from λw' kF=>⟨_,_,_,_,rfl,⟨⟨mQ,(o1.yV kF jC).lower al.size⟩,(o2.yV kF jC).lower al.size,⟨qs,(o5.yV kF jC).lower al.size⟩,(o4.yV kF jC).lower al.size⟩,(al.trans (ay.mono al.size)).grown kF (al.trans (ay.mono al.size)).size (λk hk=>by cases hk;omega)⟩)
 obtain⟨E0,E1,E2,E3⟩:=AG (DF (m':=.slice pa iu.length pc) (i':=.slice qa k.Zh.length qc) (e':=.slice ea qs.length ec) (c':=.slice ra k.Xo.length rc) jC);have HE:=AA (yj E0 (yj E1 (yj E2 E3)));have bD:wr.grownBy ((((wr.setCell (w.heap.size+1,0) (.slice pa iu.length pc)).setCell (w.heap.size+1,1) (.slice qa k.Zh.length qc)).setCell (w.heap.size+1,2) (.slice ea qs.length ec)).setCell (w.heap.size+1,3) (.slice ra k.Xo.length rc)) (some (w.heap.size+1)):=As (As (As (Ak wr (w.heap.size+1) 0 _) 1 _) 2 _) 3 _;obtain⟨b0,b1,b2,b3⟩:=AG hB;obtain⟨c0,c1,c2,c3⟩:=AG jC;have bA:=AI jC;have jG:¬(qs.length:Int)<k.Xr.length:=ω;have mM:=la;clear hB jC o1 o2 o3 o4 o5 E0 E1 E2 E3 e3 la jV;go_wp2_with fail;exact yB (v:=.agg #[_,_,_,_]) (by simp[results,Tryz.results76,go_sem,HE.u]) rfl (S _ bD)
theorem UA (m iv ev cv:Φ)(k:AR)(kk b c:Int)(en O:Nat)(nm:ByteArray)(w:Ω)(h:Ns w m iv ev cv k)(hk:DZ k)(cC:en<3)(cl:O<12)(lR:kk=4->Bp b=true):
 Ξ prog 236 #[.agg #[m,iv,ev,cv],.agg #[kk,en,O,b,c,nm]] w (Nr (if kk=4 then Gc k.mem k.Zh O b (AH k.Xr en).Pj else DH k.mem k.Zh O) w):=by
 obtain⟨N0,N1,al,gq⟩:=LG w (.cells #[m,iv,ev,cv] 28) (.cells #[kk,en,O,b,c,nm] 34);obtain⟨H,N,V,R⟩:=AG N0;obtain⟨y0,y1,y2,y3,y4,y5⟩:=IP N1;have a7:=AU N0;have bs:=AU N1;have b9:=(Aq hk).1;have b6:=(Aq hk).2.1;have hm:=h.1.below al;have hi:=BK.below h.2.1 al;obtain⟨ae,ce,rfl,_,_,HE⟩:=(h.2.2.1.below al).open;have g9:en<k.Xr.length:=by rw[hk.zX];exact cC
 obtain⟨be,fa,ua,uc,rfl,jo,D0,_,hR⟩:=HE en g9;have oJ:(en:Int)<k.Xr.length:=ω;have ld:¬(en:Int)<0:=ω;have C1:=λ(h4:kk=4)=>λW (hW:Γ _ _ W)=>UM m iv _ k.mem k.Zh O b (AH k.Xr en).Pj W (hm.below hW) b9 (BK.below hi hW) b6 cl (lR h4) (BK.below hR hW) (JL hk cC) (hk.Pj en cC)
 have C2:=AA (λW (hW:Γ _ _ W)=>Qx m iv k.mem k.Zh O W (hm.below hW) b9 (BK.below hi hW) b6 cl);obtain⟨am,cm,rfl,_⟩:=hm.open;obtain⟨ai,ci,rfl,_,_⟩:=hi.shape;generalize hW0:(w.alloc _).alloc _=W0 at*
 by_cases h4:kk=4
 .rw[if_pos h4]
  have CP:=AA (C1 h4);subst h4;generalize Gc k.mem k.Zh O b (AH k.Xr en).Pj=res at*;clear h hk N0 N1 HE hm hi hR C1 C2 b9 b6 lR gq;go_in;go_wp2_with fail;refine A9 18 36 [.p w.heap.size 0,.v (.slice am k.mem.length cm),.p w.heap.size 1,.v (.slice ai k.Zh.length ci),.p (w.heap.size+1) 2,.i ((O:Int)),.p (w.heap.size+1) 3,.i b,.p w.heap.size 2,.v (.slice (some ⟨be,fa,none⟩) k.Xr.length ce),.p (w.heap.size+1) 1,.i ((en:Int)),.p be (fa+en*2),.p be (fa+en*2),.v (.slice ua (AH k.Xr en).Pj.length uc),.z,.z,.i (res.2)] (λix vv ww=>match ix with
   |15=>∃v',vv=.tuple #[v',res.2]/\AQ W0.heap.size 115 3 Av ww v' res.1
   |16=>AQ W0.heap.size 115 3 Av ww vv res.1
   |_=>True) ?_ ?_ ?_
  .intro i hi o Z a E Y J L h2 A
   have bE:=bc L bs y2;have bL:=bc L bs y3;have fl:=bc L bs y1
   match i,hi with
   |0,_|2,_|4,_|6,_|8,_|10,_|13,_=>exact sP Z A Y J
   |1,_=>exact sL Z A Y J (hl:=GZ (bc L a7 H))
   |3,_=>exact sL Z A Y J (hl:=Gt (bc L a7 N))
   |5,_|7,_|11,_=>exact sL Z A Y J (hl:=GO ‹_›)
   |9,_=>exact sL Z A Y J (hl:=P6 (bc L a7 V))
   |12,_=>exact sI Z A Y J (hr:=by clear J Y A;go_simp)
   |14,_=>exact sL Z A Y J (hl:=Kt (bc L jo D0))
   |15,_=>exact sC Z A Y J (CP _ L) (by rintro e w_ ⟨v',rfl,hO,a4⟩;exact⟨_,rfl,⟨_,rfl,hO.lower L.size⟩,a4⟩)
   |16,_=>
    clear bE bL fl;obtain rfl:=yP Z;have js:∃v',(a.tmps[24]?.getD Θ)=.tuple #[v',res.2]/\AQ W0.heap.size 115 3 Av E v' res.1:=Bc J 15
    clear J Y;obtain⟨v',js,hO⟩:=js;refine yO ?_;go_simp;exact A _ _ hO (yN _ _)
   |17,_=>
    clear bE bL fl;obtain rfl:=yP Z;have js:∃v',(a.tmps[24]?.getD Θ)=.tuple #[v',res.2]/\AQ W0.heap.size 115 3 Av E v' res.1:=Bc J 15
    clear J Y;obtain⟨v',js,hO⟩:=js;refine yO ?_;go_simp;exact A _ _ rfl (yN _ _)
   |_+18,hq=>omega
  .intro i hi vv wz fp bB hz
   match i,hi with
   |15,_=>exact(by obtain⟨v',h0,h1⟩:=hz;exact⟨v',h0,AQ.below h1 bB⟩)
   |16,_=>exact(AQ.below hz bB)
   |0,_|1,_|2,_|3,_|4,_|5,_|6,_|7,_|8,_|9,_|10,_|11,_|12,_|13,_|14,_|17,_=>exact hz
   |_+18,hq=>omega
  intro D E hR L
  have fs:AQ W0.heap.size 115 3 Av E (D 16) res.1:=Bh hR 16;have ki:(D 17)=.int .i64 (res.2):=Bh hR 17;clear hR;simp only[Ai,Ae,yL,yI,yJ,yH,ki];simp;generalize D 16=z16 at fs ⊢;clear ki;have Q:=AA fs;have cr:=al.trans (L.mono al.size);obtain⟨_,_,rfl,_,_⟩:=fs.rd.shape;clear fs L;go_wp2;go_ret2;exact⟨_,rfl,Q.lower al.size,cr⟩
 rw[if_neg h4]
 have t4:(kk==4)=false:=by simp[h4]
 generalize DH k.mem k.Zh O=res at*;clear h hk N0 N1 HE hm hi hR C1 b9 b6 lR gq h4;go_in;go_wp2_with (refine(C2 _ (yN _ _)).mono ?_;rintro r w2 ⟨v',rfl,hO,b2⟩;have HO:=AA hO;have cr:=al.trans (b2.mono al.size);obtain⟨_,_,rfl,_,_⟩:=hO.rd.shape;clear hO b2);go_ret2;exact⟨_,rfl,HO.lower al.size,cr⟩
theorem Kn (ty:TypeId)(e:TypeId)(hb:Φ)(sz bytes:Nat)(ht:prog.underlying t=some (.slice e))(hi:(prog.info? e).map (λi=>(i.zero,i.size,i.bytes))=some (some hb,sz,bytes))
 (oc:hb.cells.size=sz)(oh:0<sz){v:Φ}{n m:Nat}{xs news:List Φ}(b8:w.ownsRow lo e sz v n xs)(hr:Rd w u sz m news)(h1:∀u∈news,u.oneCell'=true)(np:n+m<=maxLen)(jN:(n+m)*bytes<=140737488355328)(av:lo<=w.heap.size):
 ∃v' w',(Builtin.append_ #[t,t] ty #[v,u]).run prog w=.ok v' w'/\w'.ownsRow lo e sz v' (n+m) (xs++news)/\w.grownBy w' v.ownBlock/\Γ lo w w':=by
 obtain⟨i0,kD,k9,k8,k7⟩:=info_parts hi;obtain⟨ao,c,rfl,lf,f7,hl,hh,hc⟩:=hr;have ay:∀w',w.grownBy w' v.ownBlock->Γ lo w w':=λw' hg=>(yN lo w).grown hg av (λk hk=>(b8.lt k hk).1)
 cases ao with
 |none=>
  have h9:=hh rfl;subst h9;obtain rfl:m=0:=ω;have kw:news=[]:=xY (by simpa using hl);subst kw;exact⟨v,w,run_append_owned_none (P:=prog) (w:=w) lo t ty e i0 sz ht kD v n xs b8,by simpa using b8,⟨rfl,rfl,rfl,yF _,λ_ _ _=>rfl⟩,yN _ _⟩
 |some ad=>
  obtain⟨v',w',K,h3,h4,_⟩:=run_append_own_at (P:=prog) w lo t ty e i0 hb sz bytes ht kD k9 k8 k7 oc oh v n xs b8 ad m c news hl (by
   intro j u hu
   rcases Nat.eq_zero_or_pos m with rfl|hm
   .simp at hl
    simp[hl] at hu
   obtain⟨b,a5,oT,el⟩:=hc hm
   obtain rfl:ad=⟨b,a5,none⟩:=by simpa using oT
   have hj:j<news.length:=(List.getElem?_eq_some_iff.1 hu).1;have l5:(⟨b,a5,none⟩:Addr).add j=⟨b,a5+j,none⟩:=by unfold Addr.add;split<;>simp_all
   rw[l5,el j ω,hu]) h1 np jN av
  exact⟨v',w',K,h3,h4,ay w' h4⟩
def IY(ss:List ByteArray)(s:ByteArray):List ByteArray×Bool:=if BW ss&&BR s then BV ss s else([],false)
def dz(w:Ω)(r:List ByteArray×Bool)(e:Ending)(w':Ω):Prop:=∃v',e=.returned (.tuple #[v',r.2])/\AQ w.heap.size 9 1 A0 w' v' r.1/\Γ w w w'
theorem VA{a:Option Addr}{c k:Nat}(h:BY w (.slice a n c) ss)(hn:n=ss.length)(hk:k<=n):BY w (.slice a k c) (ss.take k):=by
 obtain⟨ao,c',hv,lf,f7,hl,hh,hc⟩:=h;simp only[xQ] at hv;obtain⟨rfl,_,rfl⟩:=hv;have iM:(ss.take k).length=k:=by rw[ym];omega
 unfold BY BK;rw[iM];refine⟨_,_,rfl,ω,f7,by rw[FB,vm,iM,Nat.mul_one],hh,λjr=>?_⟩;obtain⟨b,a5,e,el⟩:=hc ω;refine⟨b,a5,e,λj hj=>?_⟩;have oy:j<k:=ω;rw[el j ω,FB,FB,List.map_take,List.getElem?_take,if_pos oy]
theorem bQ{c k:Nat}(h:BY w (.slice (some ⟨b,a5,none⟩) n c) ss)(hn:n=ss.length)(hk:k<=n)(b' iK:Nat)(he:k<n->b'=b/\iK=a5+k):BY w (.slice (some ⟨b',iK,none⟩) (n - k) (c - k)) (ss.drop k):=by
 obtain⟨ao,c',hv,lf,f7,hl,hh,hc⟩:=h;simp only[xQ] at hv;obtain⟨rfl,_,rfl⟩:=hv;have iM:(ss.drop k).length=n - k:=by rw[xh];omega
 unfold BY BK;rw[iM];refine⟨_,_,rfl,ω,ω,by rw[FB,vm,iM,Nat.mul_one],(by intro e;cases e),λjr=>?_⟩;obtain⟨b1,lG,e,el⟩:=hc ω;obtain⟨rfl,rfl⟩:b=b1/\a5=lG:=by simpa using e
 obtain⟨rfl,rfl⟩:=he ω;refine⟨_,_,rfl,λj hj=>?_⟩;rw[vq,el (k+j) ω,FB,FB,List.map_drop,tZ]
theorem SQ (hk:DZ k):k.Xo.length<=4:=by have:=hk.Xo;simp only[Bk,yD,decide_eq_true_eq] at this;exact this.2
variable{x3:List Nat}
theorem Em.newRow{cs:Array Φ}{gm:Nat}(h:Em T cs x3 lo g b0 w W (.slice gm n fm) i e c k)(hn:n=k.mem.length)(z:Γ W W W'){r:List Int}(K:AE W W' v' r){f:Nat}(hf:f<k.mem.length):
 Em T cs x3 lo g b0 w (W'.setCell (gm,f) v') (.slice gm n fm) i e c {k with mem:=k.mem.set f r}:=by
 have h':=h.below z;obtain⟨D,o1⟩:=h.yS.2.2.1;have pR:D.length=k.mem.length:=o1.2.1.1;have S:=Ay.set o1 z K (yF _) h.lo ω (ω:f<D.length);have mT:=o1.below z;obtain⟨ln,hc⟩:=A7 mT.1 gm rfl;obtain⟨hB,hg,_,o2,⟨ps,o3⟩,o4⟩:=h'.yS;exact⟨⟨LY hB S.2 hc ψ,hg,⟨_,S.1⟩,o2.yV S.2 hc,⟨ps,o3.yV S.2 hc⟩,o4.yV S.2 hc⟩,At h'.yU S.2 (Bz hc h'.yU h.ty.2.2.2.2),AM h'.bel S.2 (World.ownsRow.lt mT.1 gm rfl).1 h'.lo,yM h'.lo S.2.size,h.ty,h'.kf.row S.2 hc ψ,λb hr=>⟨(h.rs b hr).1,At (h'.rs b hr).2 S.2 (Bz hc (h'.rs b hr).2 ψ)⟩⟩
def AT.cs(c:AT):Array Φ:= #[.int .i64 c.k,.int .i64 c.e,.int .i64 c.a,.int .i64 c.b,.int .i64 c.c,.string c.nm]
abbrev SC(lo n:Nat)(call:AT)(w W:Ω)(m i e c:Φ)(k:AR):Prop:=Em 34 call.cs [n+2] lo n (n+1) w W m i e c k
theorem SC.start (h:Du lo w m i e c k)(av:lo<=w.heap.size)(call:AT):
 SC lo w.heap.size call w (((w.alloc (.cells #[m,i,e,c] 28)).alloc (.cells call.cs 34)).alloc (.cells #[ι,ι,ι,ι] 28)) m i e c k:=by
 obtain⟨N0,N1,al,gq⟩:=LG w (.cells #[m,i,e,c] 28) (.cells call.cs 34);generalize(w.alloc (.cells #[m,i,e,c] 28)).alloc (.cells call.cs 34)=W at*;obtain⟨N2,bX⟩:=EU W (.cells #[ι,ι,ι,ι] 28);have z:=al.trans (bX.mono al.size);rw[gq] at N2;refine⟨⟨AB N0 bX,av,h.below z⟩,AB N1 bX,z.mono av,yM av z.size,ψ,bg.below (λ_ _ _ _=>rfl) z,λb hr=>?_⟩;rw[xD] at hr;subst hr;exact⟨ω,N2⟩
def gx(m i e c:Φ):Prop:=∃am nm cm ai ni ci ae ne ce ac nc cc,m=.slice am nm cm/\i=.slice ai ni ci/\e=.slice ae ne ce/\c=.slice ac nc cc
def L7(lo:Nat)(w:Ω)(res:Nu)(r:Ending)(w':Ω):Prop:=∃m i e c,r=.returned (.tuple #[.agg #[m,i,e,c],res.2.1,res.2.2])/\gx m i e c/\(res.2.2=0->Du lo w' m i e c res.1)/\Γ lo w w'/\(∀(b:Nat)(cu:Array Φ),w.heap[b]?=some (.cells cu 28 (0,0))->w'.heap[b]?=w.heap[b]?)
section
variable {T:Nat} {cs:Array Φ} {x3:List Nat} {lo g b0 b:Nat} {w W W':Ω} {m i e c:Φ} {k:AR}
theorem Em.ys6{v0 v1 v2 v3 v4 v5:Φ}(h:Em T #[v0,v1,v2,v3,v4,v5] x3 lo g b0 w W m i e c k):W.cell? b0=some v0/\W.cell? (b0,1)=some v1/\W.cell? (b0,2)=some v2/\W.cell? (b0,3)=some v3/\W.cell? (b0,4)=some v4/\W.cell? (b0,5)=some v5:=IP h.yU
theorem Em.K(h:Em T cs x3 lo g b0 w W m i e c k):Ns W m i e c k:=h.yS.2.2.rd
theorem Em.Dq(h:Em T cs x3 lo g b0 w W m i e c k):gx m i e c:=by obtain⟨h1,K,h3,h4⟩:=h.K;obtain⟨am,cm,rfl,_⟩:=h1.open;obtain⟨ai,ci,rfl,_,_⟩:=K.shape;obtain⟨ae,ce,rfl,_⟩:=h3.open;obtain⟨ac,cc,rfl,_,_⟩:=h4.shape;exact⟨_,_,_,_,_,_,_,_,_,_,_,_,rfl,rfl,rfl,rfl⟩
theorem Em.ret(h:Em T cs [b] lo w.heap.size b0 w W m i e c k)(av:lo<=b)(kE:w.heap.size<=b){v code:Int}{res:Nu}(hr:res=(k,v,code)):
 ((((W.setCell b m).setCell (b,1) i).setCell (b,2) e).setCell (b,3) c).heap[b]?=some (.cells #[m,i,e,c] 28 (0,0))/\
 L7 lo w res (.returned (.tuple #[.agg #[m,i,e,c],v,code])) ((((W.setCell b m).setCell (b,1) i).setCell (b,2) e).setCell (b,3) c):=by
 obtain⟨i6,hB⟩:=h.rs b (xD.2 rfl);subst hr;have bD:=As (As (As (Ak W b 0 m) 1 i) 2 e) 3 c;obtain⟨⟨D,o1⟩,o2,⟨ps,o3⟩,o4⟩:=h.yS.2.2;exact⟨DF hB,m,i,e,c,rfl,h.Dq,λ_=>⟨⟨D,o1.yV bD hB⟩,o2.yV bD hB,⟨ps,o3.yV bD hB⟩,o4.yV bD hB⟩,(((h.bel.setCell av _).setCell av _).setCell av _).setCell av _,λq cu hq=>(At ((h.kf q cu (by have:=AU hq;omega) hq).trans hq) (As (As (As (Ak W b 0 m) 1 i) 2 e) 3 c) (by have:=AU hq;omega)).trans hq.symm⟩
theorem Em.bad(h:Em T cs [b] lo w.heap.size b0 w W m i e c k)(av:lo<=b)(kE:w.heap.size<=b){v code:Int}{res:Nu}{k':AR}(hr:res=(k',v,code))(hc:code≠0):
 ((((W.setCell b m).setCell (b,1) i).setCell (b,2) e).setCell (b,3) c).heap[b]?=some (.cells #[m,i,e,c] 28 (0,0))/\
 L7 lo w res (.returned (.tuple #[.agg #[m,i,e,c],v,code])) ((((W.setCell b m).setCell (b,1) i).setCell (b,2) e).setCell (b,3) c):=by
 obtain⟨i6,hB⟩:=h.rs b (xD.2 rfl);subst hr;exact⟨DF hB,m,i,e,c,rfl,h.Dq,λh=>absurd h hc,(((h.bel.setCell av _).setCell av _).setCell av _).setCell av _,λq cu hq=>(At ((h.kf q cu (by have:=AU hq;omega) hq).trans hq) (As (As (As (Ak W b 0 m) 1 i) 2 e) 3 c) (by have:=AU hq;omega)).trans hq.symm⟩
theorem Em.zs(h:Em T cs [b] lo g b0 w W m i e c k):(W.cell? b=some (.slice none 0 0)/\W.cell? (b,1)=some (.slice none 0 0)/\W.cell? (b,2)=some (.slice none 0 0)/\W.cell? (b,3)=some (.slice none 0 0))/\∀q,W.frozen? ⟨b,q,none⟩=false:=
 have hB:=(h.rs b (xD.2 rfl)).2
 ⟨AG hB,AI hB⟩
def gS(W:Ω)(lo g b:Nat)(m i e c:Φ)(w:Ω)(res:Nu)(v code:Int):Prop:=(W.cell? g=some m/\W.cell? (g,1)=some i/\W.cell? (g,2)=some e/\W.cell? (g,3)=some c)/\((W.cell? b=some (.slice none 0 0)/\W.cell? (b,1)=some (.slice none 0 0)/\W.cell? (b,2)=some (.slice none 0 0)/\W.cell? (b,3)=some (.slice none 0 0))/\∀q,W.frozen? ⟨b,q,none⟩=false)/\
 eh (((((W.setCell b m).setCell (b,1) i).setCell (b,2) e).setCell (b,3) c).cell? b=some m/\((((W.setCell b m).setCell (b,1) i).setCell (b,2) e).setCell (b,3) c).cell? (b,1)=some i/\((((W.setCell b m).setCell (b,1) i).setCell (b,2) e).setCell (b,3) c).cell? (b,2)=some e/\((((W.setCell b m).setCell (b,1) i).setCell (b,2) e).setCell (b,3) c).cell? (b,3)=some c)/\
 eh (L7 lo w res (.returned (.tuple #[.agg #[m,i,e,c],v,code])) ((((W.setCell b m).setCell (b,1) i).setCell (b,2) e).setCell (b,3) c))
theorem Em.fin(h:Em T cs [w.heap.size+2] lo w.heap.size b0 w W m i e c k)(av:lo<=w.heap.size){v code:Int}{res:Nu}(hr:res=(k,v,code)):gS W lo w.heap.size (w.heap.size+2) m i e c w res v code:=
 have⟨h1,K⟩:=h.ret (yM av (wG _ _)) (wG _ _) hr
 ⟨h.xs,h.zs,AA (AG h1),AA K⟩
theorem Em.yR(h:Em T cs [w.heap.size+2] lo w.heap.size b0 w W m i e c k)(av:lo<=w.heap.size){v code:Int}{res:Nu}{k':AR}(hr:res=(k',v,code))(hc:code≠0):gS W lo w.heap.size (w.heap.size+2) m i e c w res v code:=
 have⟨h1,K⟩:=h.bad (yM av (wG _ _)) (wG _ _) hr hc
 ⟨h.xs,h.zs,AA (AG h1),AA K⟩
end
theorem Wz (h:Du lo w m iv ev cv k)(av:lo<=w.heap.size)(hk:DZ k)(call:AT)(he:0<=call.e/\call.e<3)(K:call.k=2):
 Ξ prog 190 #[.agg #[m,iv,ev,cv],.agg call.cs] w (L7 lo w (Ad k call)):=by
 have bK:=SC.start h av call;have HP:=AA (X0 (k:=k) K);have FZ:=AA (λhz=>KQ (k:=k) (c:=call) (kind:=1) hz);obtain⟨am,fk,cm,ai,ni,ci,ae,f5,ce,ac,nc,cc,rfl,rfl,rfl,rfl⟩:=bK.Dq;have S0:=AA bK;obtain⟨kk,e,a,b,c,nm⟩:=call;simp only[AT.cs] at S0 HP FZ ⊢;have A:=AA hk;have CF:=AA (λW (h:Ns W (.slice am fk cm) (.slice ai ni ci) (.slice ae f5 ce) (.slice ac nc cc) k)=>Le _ _ _ _ k kk e a b c nm 1 W h hk he (.inr rfl));obtain⟨H,N,V,R⟩:=S0.xs;obtain⟨y0,y1,y2,y3,y4,y5⟩:=S0.ys6;generalize hfc:Ch k ⟨kk,e,a,b,c,nm⟩ 1=fc at*;have Hn:eh (w.heap.size=w.heap.size):=AA rfl;clear h K bK hfc he hk;generalize hW0:((w.alloc _).alloc _).alloc _=W0 at*;go_in;go_wp2_with fail;refine(CF _ S0.K).mono ?_;rintro r w1 ⟨rfl,bX⟩;have S1:=AA (S0.below bX);clear H N V R y0 y1 y2 y3 y4 y5 bX CF
 by_cases ef:fc=0
 .subst ef
  obtain⟨iw,jr,hm,jq,_⟩:=FZ rfl;have ab:=Aa.1 iw;obtain⟨O,rfl⟩:∃n:Nat,a=(n:Int):=⟨a.toNat,ω⟩
  have cl:O<12:=ω;have lh:(JR k.Zh O).k=1:=jq ψ;have b6:=(Aq A.u).2.1;have bC:=AA (show Ad k ⟨kk,e,(O:Int),b,c,nm⟩=if(JR k.Zh O).r≠0 then(k,0,2) else({k with Zh:=k.Zh.set O AX.zero},0,0) by rw[HP.u];rfl);obtain⟨H,N,V,R⟩:=S1.xs;obtain⟨y0,y1,y2,y3,y4,y5⟩:=S1.ys6
  by_cases er:(JR k.Zh O).r=0
  focus
   have CG:=AA (λW hi=>TR (.slice ai ni ci) k.Zh O W hi b6 cl lh er)
   have a6:=AA (show Ad k ⟨kk,e,(O:Int),b,c,nm⟩=({k with Zh:=k.Zh.set O AX.zero},0,0) by rw[bC.u,if_neg (by simp[er])]);clear iw jr hm jq lh er b6 FZ HP bC ab;go_wp2_with fail;refine(CG _ S1.K.2.1).mono ?_;rintro r w2 ⟨v',rfl,hO,a4⟩;clear H N V R y0 y1 y2 y3 y4 y5;have S2:=AA (S1.zy a4 hO);have kN:=AI (S1.below a4).yS.1;have mO:=(S1.below a4).xs.2.1;obtain⟨a9,c9,e9,_,_⟩:=hO.rd.shape;generalize wV _=n9 at e9;subst e9;clear hO a4;generalize hW9:w2.setCell _ _=W9 at S2;obtain⟨⟨H,N,V,R⟩,⟨⟨z0,z1,z2,z3⟩,bA⟩,HE,HR⟩:=S2.fin av (v:=0) (code:=0) (a6.u)
  rotate_left
  focus
   have CG:=AA (λW hi=>UK (.slice ai ni ci) k.Zh O W hi b6 cl lh er)
   have a6:=AA (show Ad k ⟨kk,e,(O:Int),b,c,nm⟩=(k,0,2) by rw[bC.u,if_pos er]);clear iw jr hm jq lh er b6 FZ HP bC ab;go_wp2_with fail;refine(CG _ S1.K.2.1).mono ?_;rintro r w2 ⟨v',rfl,a4⟩;have S2:=AA (S1.below a4);clear H N V R y0 y1 y2 y3 y4 y5 a4;obtain⟨⟨H,N,V,R⟩,⟨⟨z0,z1,z2,z3⟩,bA⟩,HE,HR⟩:=S2.yR av (v:=0) (code:=2) (a6.u) ψ
  rotate_left
  all_goals
   go_wp2_with ((try simp only[xS,Exit.then]);with_reducible refine yB ?_ rfl HR.u;obtain⟨E0,E1,E2,E3⟩:=HE.u;simp[results,rV,go_sem,E0,E1,E2,E3])
 have t1:(fc !=0)=true:=by simp[ef]
 have hc:=AA ef;have a6:=AA (show Ad k ⟨kk,e,a,b,c,nm⟩=(k,0,fc) by rw[HP.u,if_neg ef]);clear ef FZ HP;obtain⟨⟨H,N,V,R⟩,⟨⟨z0,z1,z2,z3⟩,bA⟩,HE,HR⟩:=S1.yR av (v:=0) (code:=fc) (a6.u) (hc.u);go_wp2_with ((try simp only[xS,Exit.then]);with_reducible refine yB ?_ rfl HR.u;obtain⟨E0,E1,E2,E3⟩:=HE.u;simp[results,rV,go_sem,E0,E1,E2,E3])
theorem XA (h:Du lo w m iv ev cv k)(av:lo<=w.heap.size)(hk:DZ k)(call:AT)(he:0<=call.e/\call.e<3)(K:call.k=3):
 Ξ prog 191 #[.agg #[m,iv,ev,cv],.agg call.cs] w (L7 lo w (Ad k call)):=by
 have bK:=SC.start h av call;have HP:=AA (X1 (k:=k) K);have FZ:=AA (λhz=>KQ (k:=k) (c:=call) (kind:=1) hz);have b9:=(Aq hk).1;obtain⟨gm,bk,rfl,_⟩:=Em.mems bK b9;obtain⟨am,fk,cm,ai,ni,ci,ae,f5,ce,ac,nc,cc,em,rfl,rfl,rfl⟩:=bK.Dq;clear em;have S0:=AA bK;obtain⟨kk,e,a,b,c,nm⟩:=call;simp only[AT.cs] at S0 HP FZ ⊢;have A:=AA hk;have CF:=AA (λW (h:Ns W (.slice gm 12 bk) (.slice ai ni ci) (.slice ae f5 ce) (.slice ac nc cc) k)=>Le _ _ _ _ k kk e a b c nm 1 W h hk he (.inr rfl));obtain⟨H,N,V,R⟩:=S0.xs;obtain⟨y0,y1,y2,y3,y4,y5⟩:=S0.ys6;generalize hfc:Ch k ⟨kk,e,a,b,c,nm⟩ 1=fc at*;have hH:=AA b9;clear h K bK hfc he hk b9;generalize hW0:((w.alloc _).alloc _).alloc _=W0 at*;go_in;go_wp2_with fail;refine(CF _ S0.K).mono ?_;rintro r w1 ⟨rfl,bX⟩;have S1:=AA (S0.below bX);clear H N V R y0 y1 y2 y3 y4 y5 bX CF
 by_cases ef:fc=0
 .subst ef
  obtain⟨iw,jr,hm,jq,_⟩:=FZ rfl;have ab:=Aa.1 iw;obtain⟨O,rfl⟩:∃n:Nat,a=(n:Int):=⟨a.toNat,ω⟩
  have cl:O<12:=ω;have iR:(O:Int)<12:=ω;have bC:=AA (show Ad k ⟨kk,e,(O:Int),b,c,nm⟩=if Bj b 0 3=false∨Dx c=false then(k,0,3) else({k with mem:=Cn k.mem O b.toNat c},0,0) by rw[HP.u];rfl);obtain⟨H,N,V,R⟩:=S1.xs;obtain⟨y0,y1,y2,y3,y4,y5⟩:=S1.ys6;clear iw jr hm jq ab FZ HP;cases b5:Bj b 0 3
  .have a6:=AA (show Ad k ⟨kk,e,(O:Int),b,c,nm⟩=(k,0,3) by rw[bC.u,if_pos (.inl b5)])
   have kT:=AA b5;clear b5 bC;go_wp2_with fail;refine(Cr _ _ _ _).mono ?_;rintro r w2 ⟨rfl,rfl⟩;rw[kT.u];clear H N V R y0 y1 y2 y3 y4 y5;obtain⟨⟨H,N,V,R⟩,⟨⟨z0,z1,z2,z3⟩,bA⟩,HE,HR⟩:=S1.yR av (v:=0) (code:=3) (a6.u) ψ;go_wp2_with ((try simp only[xS,Exit.then]);with_reducible refine yB ?_ rfl HR.u;obtain⟨E0,E1,E2,E3⟩:=HE.u;simp[results,uM,go_sem,E0,E1,E2,E3])
  cases j6:Dx c
  .have a6:=AA (show Ad k ⟨kk,e,(O:Int),b,c,nm⟩=(k,0,3) by rw[bC.u,if_pos (.inr j6)])
   have kT:=AA b5;have ms:=AA (show Bj c 0 9999=false from j6);clear b5 bC j6;go_wp2_with fail;refine(Cr _ _ _ _).mono ?_;rintro r w2 ⟨rfl,rfl⟩;rw[kT.u];go_wp2_with fail;refine(Cr _ _ _ _).mono ?_;rintro r w2 ⟨rfl,rfl⟩;rw[ms.u];clear H N V R y0 y1 y2 y3 y4 y5;obtain⟨⟨H,N,V,R⟩,⟨⟨z0,z1,z2,z3⟩,bA⟩,HE,HR⟩:=S1.yR av (v:=0) (code:=3) (a6.u) ψ;go_wp2_with ((try simp only[xS,Exit.then]);with_reducible refine yB ?_ rfl HR.u;obtain⟨E0,E1,E2,E3⟩:=HE.u;simp[results,uM,go_sem,E0,E1,E2,E3])
  have a6:=AA (show Ad k ⟨kk,e,(O:Int),b,c,nm⟩=({k with mem:=Cn k.mem O b.toNat c},0,0) by rw[bC.u,if_neg (by simp[b5,j6])])
  have bb:=Aa.1 b5;obtain⟨bn,rfl⟩:∃n:Nat,b=(n:Int):=⟨b.toNat,ω⟩
  have ie:bn<4:=ω;have l0:(bn:Int)<4:=ω;have kT:=AA b5;have ms:=AA (show Bj c 0 9999=true from j6);obtain⟨gw,cN,vs,jA,jL,_⟩:=Em.mrow S1 hH cl;obtain⟨bs,a7,_,_⟩:=S1.lts;have h7:gm<w1.heap.size:=yK _ _ vs;clear b5 j6 bb bC;go_wp2_with fail;refine(Cr _ _ _ _).mono ?_;rintro r w2 ⟨rfl,rfl⟩;rw[kT.u];go_wp2_with fail;refine(Cr _ _ _ _).mono ?_;rintro r w2 ⟨rfl,rfl⟩;rw[ms.u];go_wp2_with fail;refine Ac 10 40 [.p w.heap.size 0,.s gm 12 bk,.p (w.heap.size+1) 2,.i ((O:Int)),.p gm O,.s gw 4 cN,.p (w.heap.size+1) 3,.i ((bn:Int)),.p (w.heap.size+1) 4,.i c] (λ_ _ _=>True) ?_ ?_
  .intro i hi o Z a E Y J L h2 A
   have bu:=bc L bs y2;have bL:=bc L bs y3;have cT:=bc L bs y4
   match i,hi with
   |0,_|2,_|6,_|8,_=>exact sP Z A Y J
   |1,_=>exact sL Z A Y J (hl:=GZ (bc L a7 H))
   |3,_|7,_|9,_=>exact sL Z A Y J (hl:=GO ‹_›)
   |4,_=>exact sI Z A Y J (hr:=by clear J Y A;go_simp)
   |5,_=>exact sL Z A Y J (hl:=K5 (bc L h7 vs))
  intro D E hR L
  have q5:(D 5)=.slice gw 4 cN:=Bh hR 5;have q7:(D 7)=.int .i64 bn:=Bh hR 7;have q9:(D 9)=.int .i64 c:=Bh hR 9;clear hR;simp only[Ai,Ae,yL,yI,yJ,yH,q5,q7,q9];simp;clear q5 q7 q9;have S2:=AA (S1.below L);obtain⟨me,iW,D2,_,_,hC,Fr,_,_,_,hS⟩:=Em.mrow S2 hH cl;have eD:=D2.symm.trans ((L.cell (p:=⟨gm,O,none⟩) h7).trans vs);cases eD;have D3:=hC bn ie;have S3:=AA (hS bn c ie);generalize hW9:E.setCell _ _=W9 at S3;clear H N V R y0 y1 y2 y3 y4 y5 vs D2 hS L S1 hC;obtain⟨⟨H,N,V,R⟩,⟨⟨z0,z1,z2,z3⟩,bA⟩,HE,HR⟩:=S3.fin av (v:=0) (code:=0) (a6.u);go_wp2_with ((try simp only[xS,Exit.then]);with_reducible refine yB ?_ rfl HR.u;obtain⟨E0,E1,E2,E3⟩:=HE.u;simp[results,uM,go_sem,E0,E1,E2,E3])
 have t1:(fc !=0)=true:=by simp[ef]
 have hc:=AA ef;have a6:=AA (show Ad k ⟨kk,e,a,b,c,nm⟩=(k,0,fc) by rw[HP.u,if_neg ef]);clear ef FZ HP;obtain⟨⟨H,N,V,R⟩,⟨⟨z0,z1,z2,z3⟩,bA⟩,HE,HR⟩:=S1.yR av (v:=0) (code:=fc) (a6.u) (hc.u);go_wp2_with ((try simp only[xS,Exit.then]);with_reducible refine yB ?_ rfl HR.u;obtain⟨E0,E1,E2,E3⟩:=HE.u;simp[results,uM,go_sem,E0,E1,E2,E3])
def Fs(w:Ω)(b:Nat)(m i e c:Φ):Ω:=(((w.setCell b m).setCell (b,1) i).setCell (b,2) e).setCell (b,3) c
def GA(W:Ω)(b:Nat)(m i e c:Φ)(t:Bool)(ww:Ω):Prop:=match t with
 |false=>Γ W W ww
 |true=>∃wz,Γ W W wz/\Γ wz.heap.size (Fs wz b m i e c) ww
theorem GA.grow{t:Bool}{fp:Ω}(h:GA W b m i e c t ww)(z:Γ ww ww fp):GA W b m i e c t fp:=by
 cases t
 .exact Below.trans h (z.mono (Below.size h))
 obtain⟨wz,h1,K⟩:=h
 exact⟨wz,h1,K.trans (z.mono (by have:=K.size;simpa[Fs] using this))⟩
theorem GA.cell{t:Bool}(h:GA W b m i e c t ww){o:Nat}(hp:g<W.heap.size)(i6:g≠b):ww.cell? (g,o)=W.cell? (g,o):=by
 cases t
 .exact Below.cell (p:=⟨g,o,none⟩) h hp
 obtain⟨wz,h1,K⟩:=h
 have hz:g<wz.heap.size:=yu hp h1.size;have bD:wz.grownBy (Fs wz b m i e c) (some b):=As (As (As (Ak wz b 0 m) 1 i) 2 e) 3 c;exact(Below.cell (p:=⟨g,o,none⟩) K hz).trans ((Bt bD hz (λe=>i6 (yP e).symm)).trans (h1.cell (p:=⟨g,o,none⟩) hp))
theorem Gw{b:Φ}(h:w.heap[g]?=some (.cells #[a,b,c] T (0,0))):w.cell? g=some a/\w.cell? (g,1)=some b/\w.cell? (g,2)=some c:=
 ⟨yy _ _ 0 _ _ _ h,yy _ _ 1 _ _ _ h,yy _ _ 2 _ _ _ h⟩
theorem ZC{m:List (List Int)}{root a fr:Nat}{wb:Bool}(h:CU m root a=(0,fr,wb)):fr<12:=by
 unfold CU at h
 split at h
 .split at h
  .next K=>cases h;exact Ef K
  cases h
 cases h
variable{cu f3:Array Φ}
theorem Em.yV{cs:Array Φ}(h:Em T cs x3 lo g b0 w W m i e c k)(hT:T≠127)(hB:W.heap[q]?=some (.cells cu 127 (0,0)))(hq:lo<=q)(hg:W.grownBy W' (some q)):Em T cs x3 lo g b0 w W' m i e c k:=by
 obtain⟨hK,av,⟨D,o1⟩,o2,⟨ps,o3⟩,o4⟩:=h.yS;exact⟨⟨LY hK hg hB ψ,av,⟨D,o1.yV hg hB⟩,o2.yV hg hB,⟨ps,o3.yV hg hB⟩,o4.yV hg hB⟩,At h.yU hg (Bz hB h.yU hT.symm),AM h.bel hg hq h.lo,yM h.lo hg.size,h.ty,h.kf.row hg hB ψ,λb hr=>⟨(h.rs b hr).1,At (h.rs b hr).2 hg (Bz hB (h.rs b hr).2 ψ)⟩⟩
theorem Em.place{cs:Array Φ}{x y:Φ}(h:Em T cs x3 lo g b0 w W m i e c k)(hT:T≠127)(hB:W.heap[q]?=some (.cells #[x,y,hb] 127 (0,0)))(hq:lo<=q)(u v t:Φ):
 Em T cs x3 lo g b0 w (((W.setCell q u).setCell (q,1) v).setCell (q,2) t) m i e c k/\(((W.setCell q u).setCell (q,1) v).setCell (q,2) t).heap[q]?=some (.cells #[u,v,t] 127 (0,0)):=by
 refine⟨h.yV hT hB hq (As (As (Ak W q 0 u) 1 v) 2 t),?_⟩;have h1:=yE W q 0 _ 127 u hB;have K:=yE _ q 1 _ 127 v h1;have h3:=yE _ q 2 _ 127 t K;simpa using h3
theorem Em.place2{cs:Array Φ}{x y:Φ}(h:Em T cs x3 lo g b0 w W m i e c k)(hT:T≠127)(hB:W.heap[q]?=some (.cells #[x,y,hb] 127 (0,0)))(hq:lo<=q)(u t:Φ):
 Em T cs x3 lo g b0 w ((W.setCell q u).setCell (q,2) t) m i e c k/\((W.setCell q u).setCell (q,2) t).heap[q]?=some (.cells #[u,y,t] 127 (0,0)):=by
 refine⟨h.yV hT hB hq (As (Ak W q 0 u) 2 t),?_⟩;have h1:=yE W q 0 _ 127 u hB;have h3:=yE _ q 2 _ 127 t h1;simpa using h3
variable{res:Nu}
theorem L7.below{r:Ending}(h:L7 lo w res r W)(av:lo<=W.heap.size)(z:Γ W W W'):L7 lo w res r W':=by
 obtain⟨m,i,e,c,h1,hs,K,h3,h4⟩:=h;exact⟨m,i,e,c,h1,hs,λhc=>(K hc).below z,h3.trans (z.mono av),λb cu hB=>(z.block b (AU ((h4 b cu hB).trans hB))).trans (h4 b cu hB)⟩
theorem SY (v:Φ)(m:List (List Int))(root a:Nat)(w:Ω)(h:Bl w v m)(b9:By m=true)(hr:root<12)(ha:a<64):
 Ξ prog 150 #[v,.int .i64 root,.int .i64 a] w λe w'=>e=.returned (JC m root a)/\Γ w w w':=by
 obtain⟨q,c,rfl,hc,f7,H0⟩:=h.open;have hl:=(Aj.1 b9).1;unfold maxLen at f7;rw[hl] at hc ⊢;obtain⟨b,a5,b2,lF,c2,rfl,z,vs,a4,D2⟩:=H0.word b9 hr (ω:a/16<4);have D':=((AJ w (.cells #[θ,θ,υ] 127)).cell (p:=⟨b,a5+root,none⟩) z).trans vs;have qy:=((AJ w (.cells #[θ,θ,υ] 127)).cell (p:=⟨b2,lF+a/16,none⟩) a4).trans D2;have lH:=Hy b9 hr (ω:a/16<4);have E1:=AA (λW=>DP (Aw m root (a/16)) W ω);have hB:=AJ w (.cells #[θ,θ,υ] 127);cases iP:Bv (Aw m root (a/16))
 .have S:=AA (show JC m root a=.tuple #[FW,ϕ] by simp[JC,CU,iP])
  have V1:=AA (Et iP);clear H0 vs D2 iP lH z a4;go_in;go_wp2_with (refine(E1 _).mono ?_;rintro e w' ⟨rfl,rfl⟩;rw[V1.u]);exact yB (v:=.tuple #[FW,ϕ]) (by simp[results,uL,go_sem,FW]) rfl ⟨by rw[S.u],hB⟩
 have ht:BP (Aw m root (a/16))<12:=Ef iP
 have V1:=AA (En iP);obtain⟨b',iK,b3,lE,c3,e,nf,D3,b5,D4⟩:=H0.word b9 ht (ω:a/4%4<4);cases e;have qw:=((AJ w (.cells #[θ,θ,υ] 127)).cell (p:=⟨b,a5+BP (Aw m root (a/16)),none⟩) z).trans D3;have qu:=((AJ w (.cells #[θ,θ,υ] 127)).cell (p:=⟨b3,lE+a/4%4,none⟩) b5).trans D4;have mX:=Hy b9 ht (ω:a/4%4<4);have E2:=AA (λW=>DP (Aw m (BP (Aw m root (a/16))) (a/4%4)) W ω);cases j4:Bv (Aw m (BP (Aw m root (a/16))) (a/4%4))
 .have S:=AA (show JC m root a=.tuple #[FW,.int .i64 2] by simp[JC,CU,iP,j4])
  have V2:=AA (Et j4);clear H0 vs D2 D3 D4 iP j4 lH mX z a4 b5 nf;go_in;go_wp2_with fail;refine(E1 _).mono ?_;rintro e w' ⟨rfl,rfl⟩;rw[V1.u];go_wp2_with (refine(E2 _).mono ?_;rintro e w' ⟨rfl,rfl⟩;rw[V2.u]);exact yB (v:=.tuple #[FW,.int .i64 2]) (by simp[results,uL,go_sem,FW]) rfl ⟨by rw[S.u],hB⟩
 have S:=AA (show JC m root a=.tuple #[.agg #[.int .i64 ((BP (Aw m (BP (Aw m root (a/16))) (a/4%4)):Nat):Int),.int .i64 ((a:Int)%4),.bool (LZ (Aw m root (a/16))&&LZ (Aw m (BP (Aw m root (a/16))) (a/4%4)))],θ] by simp[JC,CU,iP,j4,Mb])
 have V2:=AA (En j4);generalize BP (Aw m (BP (Aw m root (a/16))) (a/4%4))=fr at S V2;generalize LZ (Aw m (BP (Aw m root (a/16))) (a/4%4))=wb at S V2;generalize LZ (Aw m root (a/16))=wa at S V1;cases wa
 all_goals
  clear H0 vs D2 D3 D4 iP j4 lH mX z a4 b5 nf;go_in;go_wp2_with fail;refine(E1 _).mono ?_;rintro e w' ⟨rfl,rfl⟩;rw[V1.u];go_wp2_with fail;refine(E2 _).mono ?_;rintro e w' ⟨rfl,rfl⟩;rw[V2.u];go_wp2_with fail
 .exact yB (v:=.tuple #[.agg #[fr,.int .i64 ((a:Int)%4),υ],θ]) (by simp[results,uL,go_sem]) rfl ⟨by rw[S.u,Bool.false_and],AJ _ _⟩
 exact yB (v:=.tuple #[.agg #[fr,.int .i64 ((a:Int)%4),wb],θ]) (by simp[results,uL,go_sem]) rfl ⟨by rw[S.u,wg],AJ _ _⟩
variable{P:Program}
theorem NX{f:FuncId}{v:Ending}(h:Ξ P f f3 w λe w'=>e=v/\∃n,w'=w.drewN n):Ξ P f f3 w λe w'=>e=v/\Γ w w w':=by refine h.mono ?_;rintro e w' ⟨h1,n,rfl⟩;exact⟨h1,Ap (yN _ _) n⟩
theorem QV (m i e c:Φ)(k:AR)(w:Ω)(h:Bl w m k.mem)(hm:By k.mem=true)(hI:Bf w i k.Zh)(b6:BG k.Zh=true)(hE:Gr w e k.Xr)(g9:k.Xr.length=3)(hr:∀j,j<3->(AH k.Xr j).root<12):
 Ξ prog 86 #[.agg #[m,i,e,c]] w λr w'=>r=.returned (.bool ((yL 12).all (If k)))/\Γ w w w':=by
 obtain⟨N0,al⟩:=EU w (.cells #[m,i,e,c] 28);replace h:=h.below al;replace hI:=BK.below hI al;obtain⟨ae,ce,rfl,_,_,ii⟩:=(hE.below al).open;have jz:=(A2.1 b6).1;have C:=AA (Vg _ _ k.mem k.Zh _ h hm hI jz);obtain⟨ai,ci,rfl,_,_,kY⟩:=BK.open Az ψ hI;obtain⟨H,N,_,_⟩:=AG N0;obtain⟨am,cm,rfl,_⟩:=h.open;have Hl:=AA jz;have ig:=AA g9;clear jz g9;go_in;go_wp2_with fail;generalize w.alloc _=W0 at*;have HN:=AA N0;have HH:=AA kY;have HE:=AA ii;have Hm:=AA hm;have Hr:=AA hr;have lg:=AU N0;have g7:=AA al;clear h hI hm b6 N0 kY ii hE hr;refine C.mono ?_;rintro r w1 ⟨v',rfl,hO,bX⟩;rw[<-U1] at hO;obtain⟨gr,fz,rfl,pU,oj⟩:=JM hO (by rw[EV];omega);have oV:eh (AE W0 w1 (.slice gr 12 fz) (FO k 0)):=AA (by have:=hO;rw[EV] at this;exact this);rw[EV];have pC:=AA bX;clear hO oj H N C bX al;go_wp2_with fail;go_loopw [4] (λs4 wr=>∃j:Nat,j<=3/\s4=.int .i64 j/\AE W0 wr (.slice gr 12 fz) (FO k j)/\Γ W0 W0 wr) (λs4 _=>3 - (intOf s4).toNat)
 exact⟨0,yt _,rfl,oV.u,pC.u⟩
 obtain⟨j,hj,rfl,hO,ay⟩:=hrel;have HO:=AA hO;have HB:=AA ay;obtain⟨_,N,V,_⟩:=AG (AB HN ay);have hy:w.heap.size<wr.heap.size:=yu lg ay.size
 by_cases bf:j<3
 .have ez:j<k.Xr.length:=by have:=ig.u;omega
  have f6:(j:Int)<k.Xr.length:=ω;obtain⟨b,a5,ua,uc,rfl,l2,D0,D1,RR⟩:=(HE.below ay) j ez;clear hO ay RR N l2 D0
  by_cases hn:(AH k.Xr j).root<0
  .have S:=AA (ZV ez hn)
   have t0:¬(0:Int)<=(AH k.Xr j).root:=ω;clear hn;go_wp2;go_roundw;exact⟨j+1,ω,ξ,by rw[S.u];exact HO.u,HB.u⟩;simp[intOf];omega
  obtain⟨rn,hrn⟩:∃n:Nat,(AH k.Xr j).root=(n:Int):=⟨(AH k.Xr j).root.toNat,ω⟩
  have cy:rn<12:=by have:=Hr j bf;omega
  have S:=AA (XU ez hrn cy);have qf:=TI Hm (j:=j) ig cy;have ik:wr.ownsRow W0.heap.size 3 1 (.slice gr 12 fz) 12 ((FO k j).map (yl .i64)):=by have:=HO.u;unfold AE at this;rwa [EV] at this
  have DC:=(ik.cellAt rn ω).trans (GX (xs:=FO k j) (by rw[EV];exact cy));have kW:=AA ik;rw[hrn] at D1;have t0:(0:Int)<=(rn:Int):=ω;have m3:(rn:Int)<12:=ω;generalize nth (FO k j) rn=cn at*;obtain⟨nc,hnc⟩:∃nc:Int,cn+1=nc:=⟨_,rfl⟩
  have nD:=AA hnc;have z:=yK _ _ D1;have bD:=yK _ _ DC;clear hn hrn ik hnc;go_wp2_with fail;refine Ac 17 58 [.s gr 12 fz,.p w.heap.size 2,.v (.slice (some ⟨b,a5,none⟩) k.Xr.length ce),.i ((j:Int)),.p b (a5+j*2),.p b (a5+j*2+1),.i ((rn:Int)),.s gr 12 fz,.p w.heap.size 2,.v (.slice (some ⟨b,a5,none⟩) k.Xr.length ce),.i ((j:Int)),.p b (a5+j*2),.p b (a5+j*2+1),.i ((rn:Int)),.p gr rn,.i cn,.i nc] (λ_ _ _=>True) ?_ ?_
  .intro i hi o Z a E Y J L h2 A
   have bw:=bc L hy V;have bu:=bc L z D1;have bE:=bc L bD DC
   match i,hi with
   |0,_|1,_|3,_|5,_|7,_|8,_|10,_|12,_=>exact sP Z A Y J
   |2,_|9,_=>exact sL Z A Y J (hl:=P6 ‹_›)
   |4,_|11,_|14,_=>exact sI Z A Y J (hr:=by clear J Y A;go_simp)
   |6,_|13,_|15,_=>exact sL Z A Y J (hl:=GO ‹_›)
   |16,_=>clear bw bu bE;obtain rfl:=yP Z;have js:(a.tmps[40]?.getD Θ)=.int .i64 cn:=Bc J 15;clear J Y;refine yO ?_;go_simp;exact A _ _ (by show yl .i64 (wX.wrap (cn+1))=.int .i64 nc;rw[xJ _ ω,nD.u]) (yN _ _)
   |_+17,hq=>omega
  intro D E hR L
  have q0:(D 0)=.slice gr 12 fz:=Bh hR 0;have q6:(D 6)=.int .i64 rn:=Bh hR 6;have fs:(D 16)=.int .i64 nc:=Bh hR 16;clear hR;simp only[Ai,Ae,yL,yI,yJ,yH,q0,q6,fs];simp;clear q0 q6 fs;have O3:=A8 kW L;have Fr:=O3.frozenAt rn;have C2:=(L.cell (p:=⟨gr,rn,none⟩) bD).trans DC;have S2:=AA (O3.stored rn (.int .i64 nc));have oC:=AA (World.ownsRow.lt O3 gr rfl).1;have nN:=AA (HB.trans (L.mono HB.size));clear D1 DC L O3 V;go_wp2;go_roundw
  case rel=>refine⟨j+1,ω,ξ,?_,AM nN S2.2 oC nN.size⟩;rw[S.u,nD.u];unfold AE;rw[List.length_set,EV,List.map_set];exact S2.1
  case measure=>simp[intOf];omega
 obtain rfl:j=3:=ω;have f6:¬((3:Nat):Int)<k.Xr.length:=by have:=ig.u;omega
 have ox:¬(3:Int)<k.Xr.length:=by have:=ig.u;omega
 obtain⟨w2,rfl⟩:∃w2:Ω,w2=wr:=⟨_,rfl⟩
 clear hO ay N;go_wp2_with fail;clear V;go_loopw [5] (λs5 wr=>∃f:Nat,f<=12/\s5=.int .i64 f/\(∀j,j<f->If k j=true)/\AE W0 wr (.slice gr 12 fz) (FO k 3)/\Γ W0 W0 wr) (λs5 _=>12 - (intOf s5).toNat)
 exact⟨0,yt _,rfl,λj hj=>absurd hj (xV _),HO.u,HB.u⟩
 clear HO HB;obtain⟨f,hf,rfl,a0,hO,ay⟩:=hrel;have br:=AA a0;have HO:=AA hO;have HB:=AA ay;clear a0
 by_cases jn:f<12
 .have oH:(f:Int)<12:=ω
  have lU:(f:Int)<k.Zh.length:=by have:=Hl.u;omega
  obtain⟨_,N,_,_⟩:=AG (AB HN ay);have iP:w.heap.size<wr.heap.size:=yu lg ay.size;obtain⟨bi,bt,rfl,jO,_,_,D2⟩:=(HH.below ay).zZ (show f<k.Zh.length by rw[Hl.u];exact jn);have ft:=yK _ _ D2;have ik:wr.ownsRow W0.heap.size 3 1 (.slice gr 12 fz) 12 ((FO k 3).map (yl .i64)):=by have:=hO;unfold AE at this;rwa [EV] at this
  have DC:=(ik.cellAt f ω).trans (GX (xs:=FO k 3) (by rw[EV];exact jn));have bD:=yK _ _ DC;have RL:=TH (k:=k) ig jn;clear hO ay ik jO hy;have hy:=iP;go_wp2_with fail;refine Ac 10 58 [.p w.heap.size 1,.v (.slice (some ⟨bi,bt,none⟩) k.Zh.length ci),.i ((f:Int)),.p bi (bt+f*3),.p bi (bt+f*3+2),.i ((JR k.Zh f).r),.s gr 12 fz,.i ((f:Int)),.p gr f,.i (nth (FO k 3) f)] (λ_ _ _=>True) ?_ ?_
  .intro i hi o Z a E Y J L h2 A
   have bu:=bc L ft D2;have bE:=bc L bD DC
   match i,hi with
   |0,_|2,_|4,_|6,_|7,_=>exact sP Z A Y J
   |1,_=>exact sL Z A Y J (hl:=Gt (bc L hy N))
   |3,_|8,_=>exact sI Z A Y J (hr:=by clear J Y A;go_simp)
   |5,_|9,_=>exact sL Z A Y J (hl:=GO ‹_›)
  intro D E hR L
  have q5:(D 5)=.int .i64 ((JR k.Zh f).r):=Bh hR 5;have q9:(D 9)=.int .i64 (nth (FO k 3) f):=Bh hR 9;clear hR;simp only[Ai,Ae,yL,yI,yJ,yH,q5,q9];simp;clear q5 q9;have fv:=HB.trans (L.mono HB.size);have pv:=AA (AE.below HO L);clear L N D2 DC;cases i6:((JR k.Zh f).r !=nth (FO k 3) f)
  .have S:=AA (show If k f=true by rw[RL];simpa using i6)
   clear RL;go_wp2;go_roundw;exact⟨f+1,ω,ξ,Am br S.u,pv.u,fv⟩;simp[intOf];omega
  have S:=AA (show(yL 12).all (If k)=false from xj.2 ⟨f,yi.2 jn,by rw[RL];simpa using i6⟩)
  clear RL;go_wp2;go_ret;exact⟨AF S.symm,g7.trans (fv.mono g7.size)⟩
 have ek:f=12:=ω;have a0:=br.u;rw[ek] at a0;have S:=AA (show(yL 12).all (If k)=true from yr.2 λj hj=>a0 j (yi.1 hj));clear br a0;go_wp2;go_ret;exact⟨AF S.symm,g7.trans (ay.mono g7.size)⟩
theorem La{l:List Ez}(h:j<l.length):l[j]?=some (AH l j):=by unfold AH;exact A6 h
theorem QU (m i e c:Φ)(k:AR)(w:Ω)(h:Bl w m k.mem)(hm:By k.mem=true)(hI:Bf w i k.Zh)(b6:BG k.Zh=true)(hE:Gr w e k.Xr)(kq:∀j,j<k.Xr.length->DQ (AH k.Xr j).Pj):
 Ξ prog 84 #[.agg #[m,i,e,c]] w λr w'=>r=.returned (.bool (Js k))/\Γ w w w':=by
 obtain⟨N0,al⟩:=EU w (.cells #[m,i,e,c] 28);replace h:=h.below al;replace hI:=BK.below hI al;obtain⟨ae,ce,rfl,nb,jM,ii⟩:=(hE.below al).open;unfold maxLen at jM;have jz:=(A2.1 b6).1;have mZ:=Ca b6;have HI:=AA hI;have HR:=AA h;obtain⟨ai,ci,rfl,_,_,kY⟩:=BK.open Az ψ hI;obtain⟨am,cm,rfl,_⟩:=h.open;have ES:Js k=(k.Xr.all (EW k)&&decide (k.Xr.length=3)):=rfl;rw[ES];have Hl:=AA jz;clear jz;go_in;go_wp2_with fail;generalize w.alloc _=W0 at*;have HN:=AA N0;have HH:=AA kY;have HE:=AA ii;have Hm:=AA hm;have Hs:=AA kq;have nB:=AA mZ;have lg:=AU N0;have g7:=AA al;clear h hI hm b6 N0 kY ii hE kq mZ al ES;go_loopw [3] (λs3 wr=>∃j:Nat,j<=k.Xr.length/\s3=.int .i64 j/\(∀j',j'<j->EW k (AH k.Xr j')=true)/\Γ W0 W0 wr) (λs3 _=>k.Xr.length - (intOf s3).toNat)
 exact⟨0,yt _,rfl,λj hj=>absurd hj (xV _),yN _ _⟩
 obtain⟨j,hj,rfl,a0,ay⟩:=hrel;have br:=AA a0;clear a0;obtain⟨_,_,V,_⟩:=AG (AB HN ay)
 by_cases bf:j<k.Xr.length
 .have f6:(j:Int)<k.Xr.length:=ω
  obtain⟨b,a5,ua,uc,rfl,c7,D0,D1,RR⟩:=(HE.below ay) j bf;obtain⟨x1,ie⟩:=EU wr (.cells #[.slice ua (AH k.Xr j).Pj.length uc,.int .i64 (AH k.Xr j).root] 81);go_wp2_with fail;generalize wr.alloc _=wa at*;have i9:=ay.trans (ie.mono ay.size);have y0:wa.cell? wr=some (.slice ua (AH k.Xr j).Pj.length uc):=yy _ _ 0 _ _ _ x1;have y1:wa.cell? (wr,1)=some (.int .i64 (AH k.Xr j).root):=yy _ _ 1 _ _ _ x1;have jp:=AU x1;have hy:=yu lg i9.size;obtain⟨H,N,_,_⟩:=AG (AB HN i9);have ex:=AA i9;have mu:=AA (BK.below RR ie);clear D0 D1 x1 ie ay i9 RR V c7;have ke:=λW (hW:Γ wa wa W)=>NX (H6 _ (AH k.Xr j).Pj W (BK.below mu hW) (Hs j bf))
  have hQ:EW k (AH k.Xr j)=(BW (AH k.Xr j).Pj&&(decide ((AH k.Xr j).root= -1)||(Bj (AH k.Xr j).root 0 11&&decide ((JR k.Zh (AH k.Xr j).root.toNat).k=3)))&&BM k.Zh (Bg k.mem (AH k.Xr j).root) (AH k.Xr j).Pj):=rfl;cases e5:BW (AH k.Xr j).Pj
  .rw[e5] at ke hQ
   have CR:=AA ke;have cF:EW k (AH k.Xr j)=false:=by rw[hQ];rfl
   clear ke e5 hQ;have S:=AA (show k.Xr.all (EW k)=false from Jr (La bf) (cF));go_wp2_with fail;refine Ac 36 59 [.p wr.heap.size 0,.v (.slice ua (AH k.Xr j).Pj.length uc),.b false,.b true,.b true,.u,.u,.u,.u,.b true,.b true,.u,.u,.u,.u,.u,.u,.u,.u,.u,.u,.u,.u,.u,.b true,.b true,.u,.u,.u,.u,.u,.u,.u,.u,.u,.u] (λ_ _ _=>True) ?_ ?_
   .intro i hi o Z a E Y J L h2 A
    match i,hi with
    |0,_|3,_|4,_|9,_|10,_|24,_|25,_=>exact sP Z A Y J
    |1,_=>exact sL Z A Y J (hl:=Kt (bc L jp y0))
    |2,_=>exact sD Z A Y J (CR _ L)
    |5,_|6,_|7,_|8,_|11,_|12,_|13,_|14,_|15,_|16,_|17,_|18,_|19,_|20,_|21,_|22,_|23,_|26,_|27,_|28,_|29,_|30,_|31,_|32,_|33,_|34,_|35,_=>exact sB Z A J
    |_+36,hq=>omega
   intro D E hR L
   have hY:(D 25)=.bool true:=Bh hR 25;clear hR;simp only[Ai,Ae,yL,yI,yJ,yH,hY];simp;clear hY;have fv:=ex.trans (L.mono ex.size);clear L H N y0 y1;go_wp2;go_ret;exact⟨AF (by rw[S.u];rfl),g7.trans (fv.mono g7.size)⟩
  rw[e5] at ke hQ
  have CR:=AA ke;clear ke e5;have je:=λW (hW:Γ wa wa W)=>A4 (Cr (AH k.Xr j).root (-1) 11 W)
  cases e6:Bj (AH k.Xr j).root (-1) 11
  .rw[e6] at je
   have CF:=AA je;have cF:EW k (AH k.Xr j)=false:=by
    rw[hQ];have:¬(-1<=(AH k.Xr j).root/\(AH k.Xr j).root<=11):=λh=>by rw[Aa.2 h] at e6;cases e6
    have h1:decide ((AH k.Xr j).root= -1)=false:=decide_eq_false ω;have K:Bj (AH k.Xr j).root 0 11=false:=by cases hx:Bj (AH k.Xr j).root 0 11;rfl;exact absurd (Aa.1 hx) ω
    rw[h1,K];rfl
   clear je e6 hQ;have S:=AA (show k.Xr.all (EW k)=false from Jr (La bf) (cF));go_wp2_with fail;refine Ac 36 59 [.p wr.heap.size 0,.v (.slice ua (AH k.Xr j).Pj.length uc),.b true,.b false,.b false,.p wr.heap.size 1,.i ((AH k.Xr j).root),.b false,.b true,.b true,.b true,.u,.u,.u,.u,.u,.u,.u,.u,.u,.u,.u,.u,.u,.b true,.b true,.u,.u,.u,.u,.u,.u,.u,.u,.u,.u] (λ_ _ _=>True) ?_ ?_
   .intro i hi o Z a E Y J L h2 A
    match i,hi with
    |0,_|3,_|4,_|5,_|8,_|9,_|10,_|24,_|25,_=>exact sP Z A Y J
    |1,_=>exact sL Z A Y J (hl:=Kt (bc L jp y0))
    |2,_=>exact sD Z A Y J (CR _ L)
    |6,_=>exact sL Z A Y J (hl:=GO (bc L jp y1))
    |7,_=>exact sD Z A Y J (CF _ L)
    |11,_|12,_|13,_|14,_|15,_|16,_|17,_|18,_|19,_|20,_|21,_|22,_|23,_|26,_|27,_|28,_|29,_|30,_|31,_|32,_|33,_|34,_|35,_=>exact sB Z A J
    |_+36,hq=>omega
   intro D E hR L
   have hY:(D 25)=.bool true:=Bh hR 25;clear hR;simp only[Ai,Ae,yL,yI,yJ,yH,hY];simp;clear hY;have fv:=ex.trans (L.mono ex.size);clear L H N y0 y1;go_wp2;go_ret;exact⟨AF (by rw[S.u];rfl),g7.trans (fv.mono g7.size)⟩
  have nt:=Aa.1 e6
  rw[e6] at je;clear e6
  by_cases e7:(AH k.Xr j).root= -1
  .rw[e7] at je y1 hQ
   have CF:=AA je;have RI:=HI.u;have CX:=AA (λW (hW:Γ wa wa W)=>J6 _ k.mem (-1) W ((HR.below ex.u).below hW) Hm ψ);have jv:=λW (hW:Γ wa wa W) v2 (K:A1 W v2 (A5 (FN k.mem (-1))))=>G0 _ v2 _ k.Zh (FN k.mem (-1)) (AH k.Xr j).Pj W (BK.below (BK.below HI ex.u) hW) K (BK.below mu hW) (λf hf=>by have:=zG (root:= -1) ψ f ((HZ ψ f).1 hf);rw[Hl.u];exact this) nB (Hs j bf)
   rw[Fp (HZ ψ)] at jv;have j0:EW k (AH k.Xr j)=BM k.Zh (Bg k.mem (-1)) (AH k.Xr j).Pj:=by rw[hQ];simp
   generalize BM k.Zh (Bg k.mem (-1)) (AH k.Xr j).Pj=bb at jv j0;have CA:=AA jv;have EO:=AA j0;clear je jv hQ j0 nt e7 RI;go_wp2_with fail;refine A9 36 59 [.p wr.heap.size 0,.v (.slice ua (AH k.Xr j).Pj.length uc),.b true,.b false,.b false,.p wr.heap.size 1,.i (-1),.b true,.b false,.b false,.b false,.p wr.heap.size 1,.i (-1),.b false,.b false,.u,.u,.u,.u,.u,.u,.u,.u,.b false,.b false,.b false,.p w.heap.size 1,.v (.slice ai k.Zh.length ci),.p w.heap.size 0,.v (.slice am k.mem.length cm),.p wr.heap.size 1,.i (-1),.z,.p wr.heap.size 0,.v (.slice ua (AH k.Xr j).Pj.length uc),.b bb] (λix vv ww=>match ix with
    |32=>AE wa ww vv (A5 (FN k.mem (-1)))
    |_=>True) ?_ ?_ ?_
   .intro i hi o Z a E Y J L h2 A
    have bw:=bc L jp y0;have bu:=bc L jp y1;have bE:=bc L hy N;have bL:=bc L hy H
    match i,hi with
    |0,_|3,_|4,_|5,_|8,_|9,_|10,_|11,_|14,_|23,_|24,_|25,_|26,_|28,_|30,_|33,_=>exact sP Z A Y J
    |1,_|34,_=>exact sL Z A Y J (hl:=Kt ‹_›)
    |2,_=>exact sD Z A Y J (CR _ L)
    |6,_|12,_|31,_=>exact sL Z A Y J (hl:=GO ‹_›)
    |7,_=>exact sD Z A Y J (CF _ L)
    |15,_|16,_|17,_|18,_|19,_|20,_|21,_|22,_=>exact sB Z A J
    |27,_=>exact sL Z A Y J (hl:=Gt ‹_›)
    |29,_=>exact sL Z A Y J (hl:=GZ ‹_›)
    |32,_=>exact sC Z A Y J (CX _ L) (by rintro e w_ ⟨v',rfl,hO,a4⟩;exact⟨_,rfl,(Bb hO L.size),a4⟩)
    |13,_=>clear bw bu bE bL;obtain rfl:=yP Z;have jb:(a.tmps[29]?.getD Θ)=.int .i64 (-1):=Bc J 12;have gk:(a.tmps[27]?.getD Θ)=.bool false:=Bc J 10;clear J Y;refine AZ.yes rfl rfl gk ?_;go_simp;exact A _ _ rfl (yN _ _)
    |35,_=>clear bw bu bE bL;obtain rfl:=yP Z;have oZ:(a.tmps[44]?.getD Θ)=.slice ai k.Zh.length ci:=Bc J 27;have kO:AE wa E (a.tmps[49]?.getD Θ) (A5 (FN k.mem (-1))):=Bc J 32;have oY:(a.tmps[51]?.getD Θ)=.slice ua (AH k.Xr j).Pj.length uc:=Bc J 34;have kP:(a.tmps[42]?.getD Θ)=.bool false:=Bc J 25;clear J Y;generalize e49:a.tmps[49]?.getD Θ=v2 at kO;have mI:=CA E L v2 (AE.rd kO);refine AZ.yes rfl rfl kP ?_;go_simp;refine mI.mono ?_;rintro e w_ ⟨rfl,a4⟩;exact A _ _ rfl a4
    |_+36,hq=>omega
   .intro i hi vv wz fp bB hz
    match i,hi with
    |32,_=>exact(AE.below hz bB)
    |0,_|1,_|2,_|3,_|4,_|5,_|6,_|7,_|8,_|9,_|10,_|11,_|12,_|13,_|14,_|15,_|16,_|17,_|18,_|19,_|20,_|21,_|22,_|23,_|24,_|25,_|26,_|27,_|28,_|29,_|30,_|31,_|33,_|34,_|35,_=>exact hz
    |_+36,hq=>omega
   intro D E hR L
   have hY:(D 25)=.bool false:=Bh hR 25;have kh:(D 35)=.bool bb:=Bh hR 35;clear hR;simp only[Ai,Ae,yL,yI,yJ,yH,hY,kh];simp;clear hY kh;have fv:=ex.trans (L.mono ex.size);clear L H N y0 y1;cases bb
   .have S:=AA (show k.Xr.all (EW k)=false from Jr (La bf) (EO.u))
    go_wp2;go_ret;exact⟨AF (by rw[S.u];rfl),g7.trans (fv.mono g7.size)⟩
   go_wp2
   go_roundw;exact⟨j+1,ω,ξ,Am br EO.u,fv⟩;simp[intOf];omega
  obtain⟨r,hr⟩:∃n:Nat,(AH k.Xr j).root=(n:Int):=⟨(AH k.Xr j).root.toNat,ω⟩
  have cy:r<12:=ω;have lb:(r:Int)<12:=ω;have oi:(r:Int)<k.Zh.length:=by have:=Hl.u;omega
  have jx:(0:Int)<=(r:Int):=ω;rw[hr] at je y1 hQ;have CF:=AA je;obtain⟨bi,bt,rfl,jO,mf,_,_⟩:=(HH.below ex.u).zZ (show r<k.Zh.length by rw[Hl.u];exact cy);have ft:=yK _ _ mf;have iw:Bj (r:Int) 0 11=true:=Aa.2 ω;have kx:decide ((r:Int)= -1)=false:=decide_eq_false ω;rw[iw,kx,yq] at hQ;clear je nt e7 jO iw kx
  by_cases e8:(JR k.Zh r).k=3
  .have t8:((JR k.Zh r).k !=3)=false:=by simp[e8]
   have CX:=AA (λW (hW:Γ wa wa W)=>J6 _ k.mem (r:Int) W ((HR.below ex.u).below hW) Hm lb);have jv:=λW (hW:Γ wa wa W) v2 (K:A1 W v2 (A5 (FN k.mem (r:Int))))=>G0 _ v2 _ k.Zh (FN k.mem (r:Int)) (AH k.Xr j).Pj W (BK.below (BK.below HI ex.u) hW) K (BK.below mu hW) (λf hf=>by have:=zG (root:=(r:Int)) lb f ((HZ lb f).1 hf);rw[Hl.u];exact this) nB (Hs j bf)
   rw[Fp (HZ lb)] at jv;have j0:EW k (AH k.Xr j)=BM k.Zh (Bg k.mem (r:Int)) (AH k.Xr j).Pj:=by rw[hQ,e8];simp
   generalize BM k.Zh (Bg k.mem (r:Int)) (AH k.Xr j).Pj=bb at jv j0;have CA:=AA jv;have EO:=AA j0;clear jv hQ j0 e8 hr;go_wp2_with fail;refine A9 36 59 [.p wr.heap.size 0,.v (.slice ua (AH k.Xr j).Pj.length uc),.b true,.b false,.b false,.p wr.heap.size 1,.i ((r:Int)),.b true,.b false,.b false,.b false,.p wr.heap.size 1,.i ((r:Int)),.b true,.b true,.p w.heap.size 1,.v (.slice (some ⟨bi,bt,none⟩) k.Zh.length ci),.p wr.heap.size 1,.i ((r:Int)),.p bi (bt+r*3),.p bi (bt+r*3),.i ((JR k.Zh r).k),.b false,.b false,.b false,.b false,.p w.heap.size 1,.v (.slice (some ⟨bi,bt,none⟩) k.Zh.length ci),.p w.heap.size 0,.v (.slice am k.mem.length cm),.p wr.heap.size 1,.i ((r:Int)),.z,.p wr.heap.size 0,.v (.slice ua (AH k.Xr j).Pj.length uc),.b bb] (λix vv ww=>match ix with
    |32=>AE wa ww vv (A5 (FN k.mem ((r:Int))))
    |_=>True) ?_ ?_ ?_
   .intro i hi o Z a E Y J L h2 A
    have bw:=bc L jp y0;have bu:=bc L jp y1;have bE:=bc L hy N;have bL:=bc L ft mf;have cT:=bc L hy H
    match i,hi with
    |0,_|3,_|4,_|5,_|8,_|9,_|10,_|11,_|14,_|15,_|17,_|20,_|23,_|24,_|25,_|26,_|28,_|30,_|33,_=>exact sP Z A Y J
    |1,_|34,_=>exact sL Z A Y J (hl:=Kt ‹_›)
    |2,_=>exact sD Z A Y J (CR _ L)
    |6,_|12,_|18,_|21,_|31,_=>exact sL Z A Y J (hl:=GO ‹_›)
    |7,_=>exact sD Z A Y J (CF _ L)
    |16,_|27,_=>exact sL Z A Y J (hl:=Gt ‹_›)
    |19,_=>exact sI Z A Y J (hr:=by clear J Y A;go_simp)
    |29,_=>exact sL Z A Y J (hl:=GZ ‹_›)
    |32,_=>exact sC Z A Y J (CX _ L) (by rintro e w_ ⟨v',rfl,hO,a4⟩;exact⟨_,rfl,(Bb hO L.size),a4⟩)
    |13,_=>clear bw bu bE bL cT;obtain rfl:=yP Z;have jb:(a.tmps[29]?.getD Θ)=.int .i64 r:=Bc J 12;have gk:(a.tmps[27]?.getD Θ)=.bool false:=Bc J 10;clear J Y;refine AZ.yes rfl rfl gk ?_;go_simp;exact A _ _ rfl (yN _ _)
    |22,_=>clear bw bu bE bL cT;obtain rfl:=yP Z;have o6:(a.tmps[38]?.getD Θ)=.int .i64 ((JR k.Zh r).k):=Bc J 21;have mh:(a.tmps[31]?.getD Θ)=.bool true:=Bc J 14;clear J Y;refine AZ.yes rfl rfl mh ?_;go_simp;exact A _ _ rfl (yN _ _)
    |35,_=>clear bw bu bE bL cT;obtain rfl:=yP Z;have oZ:(a.tmps[44]?.getD Θ)=.slice (some ⟨bi,bt,none⟩) k.Zh.length ci:=Bc J 27;have kO:AE wa E (a.tmps[49]?.getD Θ) (A5 (FN k.mem ((r:Int)))):=Bc J 32;have oY:(a.tmps[51]?.getD Θ)=.slice ua (AH k.Xr j).Pj.length uc:=Bc J 34;have kP:(a.tmps[42]?.getD Θ)=.bool false:=Bc J 25;clear J Y;generalize e49:a.tmps[49]?.getD Θ=v2 at kO;have mI:=CA E L v2 (AE.rd kO);refine AZ.yes rfl rfl kP ?_;go_simp;refine mI.mono ?_;rintro e w_ ⟨rfl,a4⟩;exact A _ _ rfl a4
    |_+36,hq=>omega
   .intro i hi vv wz fp bB hz
    match i,hi with
    |32,_=>exact(AE.below hz bB)
    |0,_|1,_|2,_|3,_|4,_|5,_|6,_|7,_|8,_|9,_|10,_|11,_|12,_|13,_|14,_|15,_|16,_|17,_|18,_|19,_|20,_|21,_|22,_|23,_|24,_|25,_|26,_|27,_|28,_|29,_|30,_|31,_|33,_|34,_|35,_=>exact hz
    |_+36,hq=>omega
   intro D E hR L
   have hY:(D 25)=.bool false:=Bh hR 25;have kh:(D 35)=.bool bb:=Bh hR 35;clear hR;simp only[Ai,Ae,yL,yI,yJ,yH,hY,kh];simp;clear hY kh;have fv:=ex.trans (L.mono ex.size);clear L H N y0 y1;cases bb
   .have S:=AA (show k.Xr.all (EW k)=false from Jr (La bf) (EO.u))
    go_wp2;go_ret;exact⟨AF (by rw[S.u];rfl),g7.trans (fv.mono g7.size)⟩
   go_wp2
   go_roundw;exact⟨j+1,ω,ξ,Am br EO.u,fv⟩;simp[intOf];omega
  have t8:((JR k.Zh r).k !=3)=true:=by simp[e8]
  have cF:EW k (AH k.Xr j)=false:=by rw[hQ];simp[e8]
  clear hQ e8 hr;have S:=AA (show k.Xr.all (EW k)=false from Jr (La bf) (cF));go_wp2_with fail;refine Ac 36 59 [.p wr.heap.size 0,.v (.slice ua (AH k.Xr j).Pj.length uc),.b true,.b false,.b false,.p wr.heap.size 1,.i ((r:Int)),.b true,.b false,.b false,.b false,.p wr.heap.size 1,.i ((r:Int)),.b true,.b true,.p w.heap.size 1,.v (.slice (some ⟨bi,bt,none⟩) k.Zh.length ci),.p wr.heap.size 1,.i ((r:Int)),.p bi (bt+r*3),.p bi (bt+r*3),.i ((JR k.Zh r).k),.b true,.b true,.b true,.b true,.u,.u,.u,.u,.u,.u,.u,.u,.u,.u] (λ_ _ _=>True) ?_ ?_
  .intro i hi o Z a E Y J L h2 A
   have bw:=bc L jp y0;have bu:=bc L jp y1;have bE:=bc L hy N;have bL:=bc L ft mf
   match i,hi with
   |0,_|3,_|4,_|5,_|8,_|9,_|10,_|11,_|14,_|15,_|17,_|20,_|23,_|24,_|25,_=>exact sP Z A Y J
   |1,_=>exact sL Z A Y J (hl:=Kt ‹_›)
   |2,_=>exact sD Z A Y J (CR _ L)
   |6,_|12,_|18,_|21,_=>exact sL Z A Y J (hl:=GO ‹_›)
   |7,_=>exact sD Z A Y J (CF _ L)
   |16,_=>exact sL Z A Y J (hl:=Gt ‹_›)
   |19,_=>exact sI Z A Y J (hr:=by clear J Y A;go_simp)
   |26,_|27,_|28,_|29,_|30,_|31,_|32,_|33,_|34,_|35,_=>exact sB Z A J
   |13,_=>clear bw bu bE bL;obtain rfl:=yP Z;have jb:(a.tmps[29]?.getD Θ)=.int .i64 r:=Bc J 12;have gk:(a.tmps[27]?.getD Θ)=.bool false:=Bc J 10;clear J Y;refine AZ.yes rfl rfl gk ?_;go_simp;exact A _ _ rfl (yN _ _)
   |22,_=>clear bw bu bE bL;obtain rfl:=yP Z;have o6:(a.tmps[38]?.getD Θ)=.int .i64 ((JR k.Zh r).k):=Bc J 21;have mh:(a.tmps[31]?.getD Θ)=.bool true:=Bc J 14;clear J Y;refine AZ.yes rfl rfl mh ?_;go_simp;exact A _ _ rfl (yN _ _)
   |_+36,hq=>omega
  intro D E hR L
  have hY:(D 25)=.bool true:=Bh hR 25;clear hR;simp only[Ai,Ae,yL,yI,yJ,yH,hY];simp;clear hY;have fv:=ex.trans (L.mono ex.size);clear L H N y0 y1;go_wp2;go_ret;exact⟨AF (by rw[S.u];rfl),g7.trans (fv.mono g7.size)⟩
 have ek:j=k.Xr.length:=ω;have a0:=br.u;rw[ek] at a0;have S:=AA (show k.Xr.all (EW k)=true from Kg (f:=AH k.Xr) (λk hk=>La hk) a0);have f6:¬(j:Int)<k.Xr.length:=ω;clear br a0;go_wp2;go_ret;exact⟨AF (by rw[S.u,wg];by_cases h3:k.Xr.length=3<;>simp[h3]<;>omega),g7.trans (ay.mono g7.size)⟩
theorem Vi (m i e c:Φ)(k:AR)(w:Ω)(h:Bl w m k.mem)(hm:By k.mem=true)(hE:Gr w e k.Xr)(g9:k.Xr.length=3)(hC:Do w c k.Xo)(j5:Bk k.Xo=true)(hr:∀j,j<3->(AH k.Xr j).root<12):
 Ξ prog 87 #[.agg #[m,i,e,c]] w λr w'=>r=.returned (.bool (k.Xo.all (Cz k)))/\Γ w w w':=by
 obtain⟨N0,al⟩:=EU w (.cells #[m,i,e,c] 28);replace h:=h.below al;replace hC:=BK.below hC al;obtain⟨ae,ce,rfl,nb,jM,ii⟩:=(hE.below al).open;obtain⟨ac,cc,rfl,lZ,oO,nL⟩:=BK.open Cj ψ hC;have H1:=AA h;obtain⟨am,cm,rfl,_⟩:=h.open;have T1:=AA hm;have T3:=AA j5;have T4:=AA g9;have Hr:=AA hr;have KT:=AA (λj (hj:j<k.Xo.length) (hx:Cz k (AV k.Xo j)=false)=>show k.Xo.all (Cz k)=false from Jr (Fq hj) hx);clear hm j5 g9 hr hE hC h;go_in;go_wp2_with fail;generalize w.alloc _=W0 at*;have HN:=AA N0;have HE:=AA ii;have H4:=AA nL;have qr:=AA (AU N0);have bY:=AA al;clear N0 ii nL al;go_loopw [3] (λi wr=>∃j:Nat,j<=k.Xo.length/\i=.int .i64 j/\(∀j',j'<j->Cz k (AV k.Xo j')=true)/\Γ W0 W0 wr) (λi _=>k.Xo.length - (intOf i).toNat)
 exact⟨0,yt _,rfl,λj hj=>absurd hj (xV _),yN _ _⟩
 obtain⟨j,hj,rfl,a0,ay⟩:=hrel;have br:=AA a0;clear a0;obtain⟨H,_,V,R⟩:=AG (AB HN ay)
 by_cases bf:j<k.Xo.length
 .obtain⟨bi,bt,rfl,ft,D0,D1,D2,D3⟩:=(H4.below ay).zV bf
  have j5:CQ (AV k.Xo j)=true:=by have h1:=T3.u;unfold Bk at h1;simp only[yD,yr] at h1;have K:=h1.1 j (yi.2 bf);unfold DJ at K;simp only[yD] at K;exact K.1
  unfold CQ at j5;simp only[yD,Aa] at j5;obtain⟨⟨⟨e0,e2⟩,p0,p2⟩,f0,f2⟩:=j5;obtain⟨en,cC⟩:∃n:Nat,(AV k.Xo j).e=(n:Int):=⟨(AV k.Xo j).e.toNat,ω⟩
  obtain⟨pn,hpn⟩:∃n:Nat,(AV k.Xo j).p=(n:Int):=⟨(AV k.Xo j).p.toNat,ω⟩
  obtain⟨fn,jB⟩:∃n:Nat,(AV k.Xo j).f=(n:Int):=⟨(AV k.Xo j).f.toNat,ω⟩
  have TO:=AA (show Cz k (AV k.Xo j)=(decide (0<=(AH k.Xr en).root)&&decide (CU k.mem (AH k.Xr en).root.toNat (4*pn)=(0,fn,(AV k.Xo j).w))) by unfold Cz;rw[cC,hpn,jB];rfl);have lW:en<3:=ω;have m6:pn<16:=ω;rw[cC] at D0;rw[hpn] at D1;rw[jB] at D2;generalize jL:(AV k.Xo j).w=cw at*;obtain⟨x1,ie⟩:=EU wr (.cells #[en,pn,fn,cw] 125);have ot:(j:Int)<k.Xo.length:=ω;have kI:k.Xo.length<=4:=by have h1:=T3.u;unfold Bk at h1;simp only[yD,decide_eq_true_eq] at h1;exact h1.2
  have p7:(j:Int)<4:=ω;have i9:=ay.trans (ie.mono ay.size);obtain⟨b,a5,ua,uc,rfl,c7,E0,E1,RR⟩:=HE en (by have:=T4.u;omega);replace E1:=(i9.cell (p:=⟨b,a5+en*2+1,none⟩) c7).trans E1;have mP:=(AG (AB HN i9)).1;have mN:=(AG (AB HN i9)).2.2.1;obtain⟨y0,y1,y2,y3⟩:=AG x1;have oX:(en:Int)<k.Xr.length:=by have:=T4.u;omega
  have ex:=AA i9;have il:=Hr en lW;clear E0 RR ie ay i9 x1 e0 e2 p0 p2 f0 f2 cC hpn jB
  by_cases iL:(AH k.Xr en).root<0
  .have S:=AA (KT j bf (by rw[TO.u];simp;omega))
   have fv:=ex.u;go_wp2;go_ret;exact⟨AF S.symm,bY.trans (fv.mono bY.size)⟩
  obtain⟨rn,hrn⟩:∃n:Nat,(AH k.Xr en).root=(n:Int):=⟨(AH k.Xr en).root.toNat,ω⟩
  have ku:rn<12:=ω;have iJ:=λW (hW:Γ W0 W0 W)=>SY _ k.mem rn (4*pn) W (H1.below hW) T1 ku ω
  have lP:wr.heap.size<(wr.alloc (.cells #[en,pn,fn,cw] 125)).heap.size:=χ;rw[hrn] at E1 TO iL;unfold JC at iJ;rw[(ω:((4*pn:Nat):Int)=4*(pn:Int))] at iJ;simp only[yq] at TO;obtain⟨code,fr,wb,hwp⟩:∃code fr wb,CU k.mem rn (4*pn)=(code,fr,wb):=⟨_,_,_,rfl⟩
  simp only[hwp] at iJ TO;clear hwp hrn il;have lp:=AA (show Cz k (AV k.Xo j)=(decide (code=0)&&(decide (fr=fn)&&decide (wb=cw))) by
   rw[TO.u];have:(0:Int)<=(rn:Int):=ω;simp[this])
  by_cases h9:code=0
  .subst h9
   rw[if_pos rfl] at iJ;unfold Mb at iJ;rw[(ω:((4*pn%4:Nat):Int)=0)] at iJ;have CW:=AA iJ;clear iJ;go_wp2_with fail;refine(CW _ ex.u).mono ?_;rintro e w2 ⟨rfl,a4⟩;have hA:=ex.trans (a4.mono ex.size);replace y2:=(a4.cell (p:=⟨wr,2,none⟩) lP).trans y2;replace y3:=(a4.cell (p:=⟨wr,3,none⟩) lP).trans y3;clear H V R mP mN E1 y0 y1 a4;have fv:=hA.trans ((AJ w2 (.cells #[fr,θ,wb] 127)).mono hA.size);replace y2:=((AJ w2 (.cells #[fr,θ,wb] 127)).cell (yK w2 _ y2)).trans y2;replace y3:=((AJ w2 (.cells #[fr,θ,wb] 127)).cell (yK w2 _ y3)).trans y3;have HG:=AA fv;clear hA fv iL
   by_cases h8:fr=fn
   .have t1:((fr:Int) !=(fn:Int))=false:=by simp[h8]
    by_cases kn:wb=cw
    .have S:=AA (show Cz k (AV k.Xo j)=true by rw[lp.u];simp[h8,kn])
     subst kn;clear h8;cases wb
     all_goals
      go_wp2;go_roundw;exact⟨j+1,ω,ξ,Am br S.u,HG.u⟩;simp[intOf];omega
    have S:=AA (KT j bf (by rw[lp.u];simp[kn]))
    have hq:=AA kn;clear h8 kn;cases wb<;>cases cw
    .exact absurd rfl hq.u
    .go_wp2
     go_ret;exact⟨AF S.symm,bY.trans (HG.mono bY.size)⟩
    .go_wp2
     go_ret;exact⟨AF S.symm,bY.trans (HG.mono bY.size)⟩
    exact absurd rfl hq.u
   have t1:((fr:Int) !=(fn:Int))=true:=η;have S:=AA (KT j bf (by rw[lp.u];simp[h8]));clear h8 y3;go_wp2;go_ret;exact⟨AF S.symm,bY.trans (HG.mono bY.size)⟩
  rw[if_neg h9] at iJ
  unfold FW at iJ;have CW:=AA iJ;have t1:(code !=0)=true:=by simp[h9]
  have S:=AA (KT j bf (by rw[lp.u];simp[h9]));clear iJ h9;go_wp2_with (refine(CW _ ex.u).mono ?_;rintro e w2 ⟨rfl,a4⟩;have hA:=ex.trans (a4.mono ex.size);have HG:=AA (hA.trans ((AJ w2 (.cells #[θ,θ,υ] 127)).mono hA.size));clear H V R mP mN E1 y0 y1 y2 y3 a4 hA iL);go_ret;exact⟨AF S.symm,bY.trans (HG.mono bY.size)⟩
 have ek:j=k.Xo.length:=ω;have a0:=br.u;rw[ek] at a0;have S:=AA (show k.Xo.all (Cz k)=true from Kg (f:=AV k.Xo) (λk hk=>Fq hk) a0);have ot:¬(j:Int)<k.Xo.length:=ω;clear br a0;go_wp2;go_ret;exact⟨AF S.symm,bY.trans (ay.mono bY.size)⟩
theorem LF (m i e c:Φ)(k:AR)(w:Ω)(h:Ns w m i e c k)(hs:Gs k):
 Ξ prog 40 #[.agg #[m,i,e,c]] w λr w'=>r=.returned (.bool (Cx k))/\Γ w w w':=by
 obtain⟨N0,al⟩:=EU w (.cells #[m,i,e,c] 28);replace h:=h.below al;have A:=AA h;have Hs:=AA hs;obtain⟨H,N,V,R⟩:=AG N0;have KO:=AA (show Cx k=(By k.mem&&BG k.Zh&&Bk k.Xo&&Js k&&(yL 12).all (EC k)&&(yL 12).all (If k)&&k.Xo.all (Cz k)) from rfl);clear h hs;go_in;go_wp2_with fail;generalize w.alloc _=W0 at*;have HN:=AA N0;have bY:=AA al;have z:Γ W0 W0 W0:=yN _ _;clear N0 al;cases e1:By k.mem
 .have S:=AA (show Cx k=false by rw[KO.u];simp[e1])
  have C:=JN m k.mem _ (A.1.below z);rw[e1] at C;clear e1;go_wp2_with (refine C.mono ?_;rintro r w_ ⟨rfl,bp⟩;clear H N V R);go_ret;exact⟨AF S.symm,bY.trans ((z.trans (bp.mono z.size)).mono bY.size)⟩
 have C:=JN m k.mem _ (A.1.below z);rw[e1] at C;have T1:=AA e1;rw[e1] at KO;clear e1;go_wp2_with fail;refine C.mono ?_;rintro r w_ ⟨rfl,bp⟩;replace z:=z.trans (bp.mono z.size);clear bp C H N V R;obtain⟨H,N,V,R⟩:=AG (AB HN z);cases e2:BG k.Zh
 .have S:=AA (show Cx k=false by rw[KO.u];simp[e2])
  have C:=Dt i k.Zh _ (BK.below A.2.1 z) Hs.1;rw[e2] at C;clear e2;go_wp2_with (refine C.mono ?_;rintro r w_ ⟨rfl,bp⟩;clear H N V R);go_ret;exact⟨AF S.symm,bY.trans ((z.trans (bp.mono z.size)).mono bY.size)⟩
 have C:=Dt i k.Zh _ (BK.below A.2.1 z) Hs.1;rw[e2] at C;have T2:=AA e2;rw[e2] at KO;clear e2;go_wp2_with fail;refine C.mono ?_;rintro r w_ ⟨rfl,bp⟩;replace z:=z.trans (bp.mono z.size);clear bp C H N V R;obtain⟨H,N,V,R⟩:=AG (AB HN z);cases e3:Bk k.Xo
 .have S:=AA (show Cx k=false by rw[KO.u];simp[e3])
  have C:=Jv c k.Xo _ (BK.below A.2.2.2 z);rw[e3] at C;clear e3;go_wp2_with (refine C.mono ?_;rintro r w_ ⟨rfl,bp⟩;clear H N V R);go_ret;exact⟨AF S.symm,bY.trans ((z.trans (bp.mono z.size)).mono bY.size)⟩
 have C:=Jv c k.Xo _ (BK.below A.2.2.2 z);rw[e3] at C;have T3:=AA e3;rw[e3] at KO;clear e3;go_wp2_with fail;refine C.mono ?_;rintro r w_ ⟨rfl,bp⟩;replace z:=z.trans (bp.mono z.size);clear bp C H N V R;obtain⟨H,N,V,R⟩:=AG (AB HN z);cases e4:Js k
 .have S:=AA (show Cx k=false by rw[KO.u];simp[e4])
  have C:=QU m i e c k _ (A.1.below z) T1 (BK.below A.2.1 z) T2 (A.2.2.1.below z) Hs.2;rw[e4] at C;clear e4;go_wp2_with (refine C.mono ?_;rintro r w_ ⟨rfl,bp⟩;clear H N V R);go_ret;exact⟨AF S.symm,bY.trans ((z.trans (bp.mono z.size)).mono bY.size)⟩
 have C:=QU m i e c k _ (A.1.below z) T1 (BK.below A.2.1 z) T2 (A.2.2.1.below z) Hs.2;rw[e4] at C;have T4:=AA e4;rw[e4] at KO;clear e4;go_wp2_with fail;refine C.mono ?_;rintro r w_ ⟨rfl,bp⟩;replace z:=z.trans (bp.mono z.size);clear bp C H N V R;obtain⟨H,N,V,R⟩:=AG (AB HN z);have g9:eh (k.Xr.length=3):=AA (by have:=T4.u;unfold Js at this;rw[yD,decide_eq_true_eq] at this;exact this.2);have il:eh (∀j,j<3->(AH k.Xr j).root<12):=AA (by
  intro j hj;have h4:=T4.u;unfold Js at h4;rw[yD,yr] at h4;have h5:=h4.1 _ (yv (La (show j<k.Xr.length by have:=g9.u;omega)));unfold EW at h5;simp only[yD,xM,decide_eq_true_eq,Aa] at h5
  rcases h5.1.2 with h|h<;>omega)
 cases e5:(yL 12).all (EC k)
 .have S:=AA (show Cx k=false by rw[KO.u];simp[e5])
  have C:=Nc m i e c k _ (A.1.below z) T1 (BK.below A.2.1 z) T2.u;rw[e5] at C;clear e5;go_wp2_with (refine C.mono ?_;rintro r w_ ⟨rfl,bp⟩;clear H N V R);go_ret;exact⟨AF S.symm,bY.trans ((z.trans (bp.mono z.size)).mono bY.size)⟩
 have C:=Nc m i e c k _ (A.1.below z) T1 (BK.below A.2.1 z) T2.u;rw[e5] at C;have T5:=AA e5;rw[e5] at KO;clear e5;go_wp2_with fail;refine C.mono ?_;rintro r w_ ⟨rfl,bp⟩;replace z:=z.trans (bp.mono z.size);clear bp C H N V R;obtain⟨H,N,V,R⟩:=AG (AB HN z);cases e6:(yL 12).all (If k)
 .have S:=AA (show Cx k=false by rw[KO.u];simp[e6])
  have C:=QV m i e c k _ (A.1.below z) T1 (BK.below A.2.1 z) T2 (A.2.2.1.below z) g9 il.u;rw[e6] at C;clear e6;go_wp2_with (refine C.mono ?_;rintro r w_ ⟨rfl,bp⟩;clear H N V R);go_ret;exact⟨AF S.symm,bY.trans ((z.trans (bp.mono z.size)).mono bY.size)⟩
 have C:=QV m i e c k _ (A.1.below z) T1 (BK.below A.2.1 z) T2 (A.2.2.1.below z) g9 il.u;rw[e6] at C;have T6:=AA e6;rw[e6] at KO;clear e6;go_wp2_with fail;refine C.mono ?_;rintro r w_ ⟨rfl,bp⟩;replace z:=z.trans (bp.mono z.size);clear bp C H N V R;obtain⟨H,N,V,R⟩:=AG (AB HN z);have C:=Vi m i e c k _ (A.1.below z) T1 (A.2.2.1.below z) g9 (BK.below A.2.2.2 z) T3 il.u;have S:=AA (show Cx k=k.Xo.all (Cz k) by rw[KO.u];simp);go_wp2_with (refine C.mono ?_;rintro r w_ ⟨rfl,bp⟩);go_ret;exact⟨AF S.symm,bY.trans ((z.trans (bp.mono z.size)).mono bY.size)⟩
theorem UQ (v1 v2:Φ)(xs:List ByteArray)(w:Ω)(h1:BY w v1 xs)(K:BY w v2 xs):
 Ξ prog 134 #[v1,v2] w λe w'=>e=.returned (.bool true)/\∃n,w'=w.drewN n:=by
 obtain⟨a1,c1,rfl,kK,ed,H1⟩:=BK.open Fi ψ h1;obtain⟨a2,c2,rfl,kJ,dr,H2⟩:=BK.open Fi ψ K;unfold maxLen at ed dr;clear h1 K;have z:((xs.length:Int) !=xs.length)=false:=χ;go_in;go_wp2_with fail;go_loopw [5] (λi wr=>∃k:Nat,k<=xs.length/\i=.int .i64 k/\∃n,wr=w.drewN n) (λi _=>xs.length - (intOf i).toNat)
 exact⟨0,yt _,rfl,0,rfl⟩
 obtain⟨k,hk,rfl,n,rfl⟩:=hrel
 by_cases bf:k<xs.length
 .have cg:(k:Int)<(xs.length:Int):=ω
  obtain⟨b1,o1,rfl,D1⟩:=H1.str bf;obtain⟨b2,o2,rfl,D2⟩:=H2.str bf;clear H1 H2;go_wp2_with fail;go_quiet (fail);go_wp2;go_roundw;exact⟨k+1,ω,ξ,_,rfl⟩;simp[intOf];omega
 have cg:¬(k:Int)<(xs.length:Int):=ω;go_wp2;go_ret;exact⟨rfl,_,rfl⟩
theorem UO (v1 v2:Φ)(xs:List AX)(w:Ω)(h1:Bf w v1 xs)(K:Bf w v2 xs):
 Ξ prog 66 #[v1,v2] w λe w'=>e=.returned (.bool true)/\∃n,w'=w.drewN n:=by
 obtain⟨a1,c1,rfl,kK,ed,H1⟩:=BK.open Az ψ h1;obtain⟨a2,c2,rfl,kJ,dr,H2⟩:=BK.open Az ψ K;unfold maxLen at ed dr;clear h1 K;have z:((xs.length:Int) !=xs.length)=false:=χ;go_in;go_wp2_with fail;go_loopw [5] (λi wr=>∃k:Nat,k<=xs.length/\i=.int .i64 k/\∃n,wr=w.drewN n) (λi _=>xs.length - (intOf i).toNat)
 exact⟨0,yt _,rfl,0,rfl⟩
 obtain⟨k,hk,rfl,n,rfl⟩:=hrel
 by_cases bf:k<xs.length
 .have cg:(k:Int)<(xs.length:Int):=ω
  obtain⟨b1,o1,rfl,_,mF,mE,nR⟩:=H1.zZ bf;obtain⟨b2,o2,rfl,_,mD,mC,nQ⟩:=H2.zZ bf;clear H1 H2;go_wp2_with fail;go_quiet (fail);go_wp2;go_roundw;exact⟨k+1,ω,ξ,_,rfl⟩;simp[intOf];omega
 have cg:¬(k:Int)<(xs.length:Int):=ω;go_wp2;go_ret;exact⟨rfl,_,rfl⟩
theorem UN (v1 v2:Φ)(xs:List Ag)(w:Ω)(h1:Do w v1 xs)(K:Do w v2 xs):
 Ξ prog 68 #[v1,v2] w λe w'=>e=.returned (.bool true)/\∃n,w'=w.drewN n:=by
 obtain⟨a1,c1,rfl,kK,ed,H1⟩:=BK.open Cj ψ h1;obtain⟨a2,c2,rfl,kJ,dr,H2⟩:=BK.open Cj ψ K;unfold maxLen at ed dr;clear h1 K;have z:((xs.length:Int) !=xs.length)=false:=χ;go_in;go_wp2_with fail;go_loopw [5] (λi wr=>∃k:Nat,k<=xs.length/\i=.int .i64 k/\∃n,wr=w.drewN n) (λi _=>xs.length - (intOf i).toNat)
 exact⟨0,yt _,rfl,0,rfl⟩
 obtain⟨k,hk,rfl,n,rfl⟩:=hrel
 by_cases bf:k<xs.length
 .have cg:(k:Int)<(xs.length:Int):=ω
  obtain⟨b1,o1,rfl,_,mF,mE,nR,qz⟩:=H1.zV bf;obtain⟨b2,o2,rfl,_,mD,mC,nQ,qx⟩:=H2.zV bf;clear H1 H2;go_wp2_with fail;go_quiet (fail);go_wp2;go_roundw;exact⟨k+1,ω,ξ,_,rfl⟩;simp[intOf];omega
 have cg:¬(k:Int)<(xs.length:Int):=ω;go_wp2;go_ret;exact⟨rfl,_,rfl⟩
theorem VE.zB{a:Option Addr}{xs:List Bx}(h:VE 3 DT w a xs){k:Nat}(hk:k<xs.length):∃b a5,a=some ⟨b,a5,none⟩/\b<w.heap.size/\w.cell? ⟨b,a5+k*3,none⟩=some (.int .i64 (AD xs k).w)/\w.cell? ⟨b,a5+k*3+1,none⟩=some (.int .i64 (AD xs k).a)/\w.cell? ⟨b,a5+k*3+2,none⟩=some (.bool (AD xs k).u):=by obtain⟨b,a5,rfl,c7,hc⟩:=h k _ (show xs[k]?=some (AD xs k) from A6 hk);exact⟨b,a5,rfl,c7,by simpa using hc 0 _ rfl,hc 1 _ rfl,hc 2 _ rfl⟩
theorem UP (v1 v2:Φ)(xs:List Bx)(w:Ω)(h1:BK 3 DT w v1 xs)(K:BK 3 DT w v2 xs):
 Ξ prog 31 #[v1,v2] w λe w'=>e=.returned (.bool true)/\∃n,w'=w.drewN n:=by
 obtain⟨a1,c1,rfl,kK,ed,H1⟩:=BK.open F7 ψ h1;obtain⟨a2,c2,rfl,kJ,dr,H2⟩:=BK.open F7 ψ K;unfold maxLen at ed dr;clear h1 K;have z:((xs.length:Int) !=xs.length)=false:=χ;go_in;go_wp2_with fail;go_loopw [5] (λi wr=>∃k:Nat,k<=xs.length/\i=.int .i64 k/\∃n,wr=w.drewN n) (λi _=>xs.length - (intOf i).toNat)
 exact⟨0,yt _,rfl,0,rfl⟩
 obtain⟨k,hk,rfl,n,rfl⟩:=hrel
 by_cases bf:k<xs.length
 .have cg:(k:Int)<(xs.length:Int):=ω
  obtain⟨b1,o1,rfl,_,mF,mE,nR⟩:=H1.zB bf;obtain⟨b2,o2,rfl,_,mD,mC,nQ⟩:=H2.zB bf;clear H1 H2;go_wp2_with fail;go_quiet (fail);go_wp2;go_roundw;exact⟨k+1,ω,ξ,_,rfl⟩;simp[intOf];omega
 have cg:¬(k:Int)<(xs.length:Int):=ω;go_wp2;go_ret;exact⟨rfl,_,rfl⟩
theorem TE{f:FuncId}(h:∀m,Ξ P f f3 (w.drewN m) λe w'=>e=.returned (.bool true)/\∃j,w'=(w.drewN m).drewN j):∀x,Ξ P f f3 (w.drewN (n+x)) λe nW=>e=.returned (.bool true)/\∃j,nW=w.drewN (n+j):=by intro x;refine(h (n+x)).mono ?_;rintro e w' ⟨rfl,j,rfl⟩;exact⟨rfl,x+j,by rw[MO,vq]⟩
theorem Nj (v1 v2:Φ)(xs:List Int)(w:Ω)(h1:A1 w v1 xs)(K:A1 w v2 xs):
 Ξ prog 15 #[v1,v2] w λe w'=>e=.returned (.bool true)/\∃n,w'=w.drewN n:=by
 refine(Gd v1 v2 xs xs w h1 K).mono ?_;rintro e w' ⟨rfl,h⟩;exact⟨χ,h⟩
theorem Mf (v1 v2:Φ)(xs:List (List Int))(w:Ω)(h1:Bl w v1 xs)(K:Bl w v2 xs):
 Ξ prog 30 #[v1,v2] w λe w'=>e=.returned (.bool true)/\∃n,w'=w.drewN n:=by
 obtain⟨a1,c1,rfl,kK,ed,H1⟩:=h1.open;obtain⟨a2,c2,rfl,kJ,dr,H2⟩:=K.open;unfold maxLen at ed dr;clear h1 K;have z:((xs.length:Int) !=xs.length)=false:=χ;go_in;go_wp2_with fail;go_loopw [5] (λi wr=>∃k:Nat,k<=xs.length/\i=.int .i64 k/\∃n,wr=w.drewN n) (λi _=>xs.length - (intOf i).toNat)
 exact⟨0,yt _,rfl,0,rfl⟩
 obtain⟨k,hk,rfl,n,rfl⟩:=hrel
 by_cases bf:k<xs.length
 .have cg:(k:Int)<(xs.length:Int):=ω
  obtain⟨b1,o1,u1,rfl,_,D1,R1⟩:=H1 k bf;obtain⟨b2,o2,u2,rfl,_,D2,R2⟩:=H2 k bf;have HQ:=AA (TE (w:=w) (n:=n) λm=>Nj u1 u2 (AK xs k) (w.drewN m) (R1.below (Ap (yN _ _) m)) (R2.below (Ap (yN _ _) m)));clear H1 H2 R1 R2;go_wp2_with fail;go_quiet ((go_at_call 15;exact HQ _));go_wp2;go_roundw;exact⟨k+1,ω,ξ,_,rfl⟩;simp[intOf];omega
 have cg:¬(k:Int)<(xs.length:Int):=ω;go_wp2;go_ret;exact⟨rfl,_,rfl⟩
theorem WB (v1 v2:Φ)(xs:List Ez)(w:Ω)(h1:Gr w v1 xs)(K:Gr w v2 xs):
 Ξ prog 67 #[v1,v2] w λe w'=>e=.returned (.bool true)/\∃n,w'=w.drewN n:=by
 obtain⟨a1,c1,rfl,kK,ed,H1⟩:=h1.open;obtain⟨a2,c2,rfl,kJ,dr,H2⟩:=K.open;unfold maxLen at ed dr;clear h1 K;have z:((xs.length:Int) !=xs.length)=false:=χ;go_in;go_wp2_with fail;go_loopw [5] (λi wr=>∃k:Nat,k<=xs.length/\i=.int .i64 k/\∃n,wr=w.drewN n) (λi _=>xs.length - (intOf i).toNat)
 exact⟨0,yt _,rfl,0,rfl⟩
 obtain⟨k,hk,rfl,n,rfl⟩:=hrel
 by_cases bf:k<xs.length
 .have cg:(k:Int)<(xs.length:Int):=ω
  obtain⟨b1,o1,pK,pI,rfl,_,mF,mE,R1⟩:=H1 k bf;obtain⟨b2,o2,pJ,pH,rfl,_,mD,mC,R2⟩:=H2 k bf;have HQ:=AA (TE (w:=w) (n:=n) λm=>UQ _ _ (AH xs k).Pj (w.drewN m) (BK.below R1 (Ap (yN _ _) m)) (BK.below R2 (Ap (yN _ _) m)));clear H1 H2 R1 R2;go_wp2_with fail;go_quiet ((go_at_call 134;exact HQ _));go_wp2;go_roundw;exact⟨k+1,ω,ξ,_,rfl⟩;simp[intOf];omega
 have cg:¬(k:Int)<(xs.length:Int):=ω;go_wp2;go_ret;exact⟨rfl,_,rfl⟩
theorem IS{f:FuncId}{v:Ending}(h:Ξ P f f3 w λe w'=>e=v/\∃n,w'=w.drewN n):Ξ P f f3 w λe w'=>e=v/\Γ w w w':=NX h
theorem TW (m i e c m' i' e' c':Φ)(k:AR)(w:Ω)(h1:Ns w m i e c k)(K:Ns w m' i' e' c' k):
 Ξ prog 29 #[.agg #[m,i,e,c],.agg #[m',i',e',c']] w λr w'=>r=.returned (.bool true)/\Γ w w w':=by
 obtain⟨N0,N1,al,gq⟩:=LG w (.cells #[m,i,e,c] 28) (.cells #[m',i',e',c'] 28);have H1:=AA (h1.below al);have H2:=AA (K.below al);clear h1 K;go_in;go_wp2_with fail;generalize(w.alloc _).alloc _=W0 at*;have HN:=AA (yj N0 N1);have bY:=AA al;obtain⟨H,N,V,R⟩:=AG N0;obtain⟨y0,y1,y2,y3⟩:=AG N1;clear N0 N1 al gq;have z:Γ W0 W0 W0:=yN _ _;go_wp2_with fail;refine(IS (Mf m m' k.mem _ (H1.1.below z) (H2.1.below z))).mono ?_;rintro r w_ ⟨rfl,bp⟩;replace z:=z.trans (bp.mono z.size);clear bp H N V R y0 y1 y2 y3;obtain⟨H,N,V,R⟩:=AG (AB HN.1 z);obtain⟨y0,y1,y2,y3⟩:=AG (AB HN.2 z);go_wp2_with fail;refine(IS (UO i i' k.Zh _ (BK.below H1.2.1 z) (BK.below H2.2.1 z))).mono ?_;rintro r w_ ⟨rfl,bp⟩;replace z:=z.trans (bp.mono z.size);clear bp H N V R y0 y1 y2 y3;obtain⟨H,N,V,R⟩:=AG (AB HN.1 z);obtain⟨y0,y1,y2,y3⟩:=AG (AB HN.2 z);go_wp2_with fail;refine(IS (WB e e' k.Xr _ (H1.2.2.1.below z) (H2.2.2.1.below z))).mono ?_;rintro r w_ ⟨rfl,bp⟩;replace z:=z.trans (bp.mono z.size);clear bp H N V R y0 y1 y2 y3;obtain⟨H,N,V,R⟩:=AG (AB HN.1 z);obtain⟨y0,y1,y2,y3⟩:=AG (AB HN.2 z);go_wp2_with (refine(IS (UN c c' k.Xo _ (BK.below H1.2.2.2 z) (BK.below H2.2.2.2 z))).mono ?_;rintro r w_ ⟨rfl,bp⟩;replace z:=z.trans (bp.mono z.size);clear bp H N V R y0 y1 y2 y3;obtain⟨H,N,V,R⟩:=AG (AB HN.1 z);obtain⟨y0,y1,y2,y3⟩:=AG (AB HN.2 z));go_ret;exact⟨rfl,bY.trans (z.mono bY.size)⟩
theorem F8 (m i e c s l q m' i' e' c' s' l' q':Φ)(P:AP)(w:Ω)(h1:JA w m i e c s l q P)(K:JA w m' i' e' c' s' l' q' P):
 Ξ prog 10 #[AN m i e c s l q P.FU P.VO,AN m' i' e' c' s' l' q' P.FU P.VO] w λr w'=>r=.returned (.bool true)/\Γ w w w':=by
 unfold AN;obtain⟨N0,N1,al,gq⟩:=LG w (.cells #[m,i,e,c,s,l,q,P.FU,P.VO] 32) (.cells #[m',i',e',c',s',l',q',P.FU,P.VO] 32);have H1:=AA (h1.below al);have H2:=AA (K.below al);clear h1 K;go_in;go_wp2_with fail;generalize(w.alloc _).alloc _=W0 at*;have HN:=AA (yj N0 N1);have bY:=AA al;obtain⟨H,N,V,R,x4,x5,x6,x7,x8⟩:=AC N0;obtain⟨y0,y1,y2,y3,y4,y5,y6,y7,y8⟩:=AC N1;clear N0 N1 al gq;have z:Γ W0 W0 W0:=yN _ _;go_wp2_with fail;refine(TW m i e c m' i' e' c' P.V0 _ (H1.1.below z) (H2.1.below z)).mono ?_;rintro r w_ ⟨rfl,bp⟩;replace z:=z.trans (bp.mono z.size);clear bp H N V R x4 x5 x6 x7 x8 y0 y1 y2 y3 y4 y5 y6 y7 y8;obtain⟨H,N,V,R,x4,x5,x6,x7,x8⟩:=AC (AB HN.1 z);obtain⟨y0,y1,y2,y3,y4,y5,y6,y7,y8⟩:=AC (AB HN.2 z);go_wp2_with fail;refine(IS (Mf s s' P.swap _ (H1.2.1.below z) (H2.2.1.below z))).mono ?_;rintro r w_ ⟨rfl,bp⟩;replace z:=z.trans (bp.mono z.size);clear bp H N V R x4 x5 x6 x7 x8 y0 y1 y2 y3 y4 y5 y6 y7 y8;obtain⟨H,N,V,R,x4,x5,x6,x7,x8⟩:=AC (AB HN.1 z);obtain⟨y0,y1,y2,y3,y4,y5,y6,y7,y8⟩:=AC (AB HN.2 z);go_wp2_with fail;refine(IS (Nj l l' P.low _ (H1.2.2.1.below z) (H2.2.2.1.below z))).mono ?_;rintro r w_ ⟨rfl,bp⟩;replace z:=z.trans (bp.mono z.size);clear bp H N V R x4 x5 x6 x7 x8 y0 y1 y2 y3 y4 y5 y6 y7 y8;obtain⟨H,N,V,R,x4,x5,x6,x7,x8⟩:=AC (AB HN.1 z);obtain⟨y0,y1,y2,y3,y4,y5,y6,y7,y8⟩:=AC (AB HN.2 z);go_wp2_with (refine(IS (UP q q' P.Xs _ (BK.below H1.2.2.2 z) (BK.below H2.2.2.2 z))).mono ?_;rintro r w_ ⟨rfl,bp⟩;replace z:=z.trans (bp.mono z.size);clear bp H N V R x4 x5 x6 x7 x8 y0 y1 y2 y3 y4 y5 y6 y7 y8;obtain⟨H,N,V,R,x4,x5,x6,x7,x8⟩:=AC (AB HN.1 z);obtain⟨y0,y1,y2,y3,y4,y5,y6,y7,y8⟩:=AC (AB HN.2 z));go_ret;exact⟨rfl,bY.trans (z.mono bY.size)⟩
def Ug(p:AP):Bool:=decide (p.VO<=(Al p.Xs 1:Int))||decide (An p.V0.Zh<0)
theorem YI:An Zh<0↔Zh.countP (λx=>decide (x.k=0))=0:=by
 unfold An;rw[List.countP_eq_zero];constructor
 .intro h x hx hk
  rw[if_pos (vP.2 ⟨x,hx,hk⟩)] at h;omega
 intro h
 rw[if_neg]
 .decide
 intro ha
 obtain⟨x,hx,hk⟩:=vP.1 ha;exact h x hx hk
def NG(r:List Int):Bool:=r.isEmpty||EP r
variable{s:List (List Int)}
theorem VB:F9 s=(s.all NG&&decide (s.length=16)):=rfl
theorem Iv (v:Φ)(s:List (List Int))(w:Ω)(h:Bl w v s):Ξ prog 41 #[v] w λe w'=>e=.returned (.bool (F9 s))/\Γ w w w':=by
 obtain⟨ao,c,rfl,hc,f7,x0⟩:=h.open;unfold maxLen at f7;have HH:=AA x0;clear h x0;go_in;go_wp2_with fail;go_loopw [3] (λix wr=>∃k:Nat,k<=s.length/\ix=.int .i64 k/\(∀j,j<k->NG (AK s j)=true)/\Γ w w wr) (λix _=>s.length - (intOf ix).toNat)
 exact⟨0,yt _,rfl,λj hj=>absurd hj (xV _),yN _ _⟩
 obtain⟨k,hk,rfl,a0,z⟩:=hrel;have br:=AA a0;clear a0
 by_cases bf:k<s.length
 .have cg:(k:Int)<(s.length:Int):=ω
  obtain⟨b,a5,u,rfl,c7,vs,hr⟩:=(HH.below z) k bf;have C:=MT u _ wr hr;obtain⟨au,cu,rfl,_,_,_⟩:=hr.open
  by_cases he:(AK s k).length=0
  .have t0:¬(0:Int)<(AK s k).length:=ω
   have S:=AA (show NG (AK s k)=true by unfold NG;rw[List.isEmpty_iff.2 (xY he)];rfl);clear C hr he;go_wp2;go_roundw;exact⟨k+1,ω,ξ,Am br S.u,z⟩;simp[intOf];omega
  have t0:(0:Int)<(AK s k).length:=ω;have wx:NG (AK s k)=EP (AK s k):=by
   unfold NG;have:(AK s k).isEmpty=false:=by cases hx:AK s k;rw[hx] at he;exact absurd rfl he;rfl
   rw[this,Bool.false_or]
  have C:=AA C;cases K:EP (AK s k)
  .have S:=AA (show F9 s=false by rw[VB,Jr (Km bf) (wx.trans K)];rfl)
   have T:=AA K;clear hr he wx K;go_wp2_with (refine C.mono ?_;rintro e w2 ⟨rfl,b2⟩;rw[T.u]);go_ret;exact⟨AF S.symm,z.trans (b2.mono z.size)⟩
  have S:=AA (wx.trans K)
  have T:=AA K;clear hr he wx K;go_wp2_with fail;refine C.mono ?_;rintro e w2 ⟨rfl,b2⟩;rw[T.u];go_wp2;go_roundw;exact⟨k+1,ω,ξ,Am br S.u,z.trans (b2.mono z.size)⟩;simp[intOf];omega
 have ek:k=s.length:=ω;have a0:=br.u;rw[ek] at a0;have S:=AA (show F9 s=((s.length:Int)==16) by
  rw[VB,Kg (λk hk=>Km hk) a0,wg]
  by_cases h3:s.length=16<;>simp[h3]<;>omega)
 have cg:¬(k:Int)<(s.length:Int):=ω;clear br a0;go_wp2;go_ret;exact⟨AF S.symm,z⟩
theorem Oj (m i e c:Φ)(k:AR)(w:Ω)(hE:Gr w e k.Xr)(g9:k.Xr.length=3)(kq:∀j,j<k.Xr.length->DQ (AH k.Xr j).Pj):
 Ξ prog 42 #[.agg #[m,i,e,c]] w λr w'=>r=.returned (.bool (IN k))/\Γ w w w':=by
 obtain⟨N0,al⟩:=EU w (.cells #[m,i,e,c] 28);obtain⟨ae,ce,rfl,_,_,ii⟩:=(hE.below al).open;have AL:IN k=(Cd (AH k.Xr 0).Pj gA&&!Cd (AH k.Xr 1).Pj gA&&!Cd (AH k.Xr 2).Pj gA):=rfl;have CM:=AA (λv j (hj:j<3) W (hW:BY W v (AH k.Xr j).Pj)=>Ld v (AH k.Xr j).Pj gA W hW (kq j ω) ψ);unfold gA at CM;have ig:=AA g9;clear g9 kq hE;go_in;go_wp2_with fail;generalize w.alloc _=W0 at*;have HN:=AA N0;have HE:=AA ii;have bY:=AA al;have HA:=AA AL;clear N0 ii al AL;go_loopw [3] (λix wr=>∃j:Nat,1<=j/\j<=3/\ix=.int .i64 j/\(∀j',1<=j'->j'<j->Cd (AH k.Xr j').Pj gA=false)/\Γ W0 W0 wr) (λix _=>3 - (intOf ix).toNat)
 exact⟨1,ω,ω,rfl,λj h1 K=>ω,yN _ _⟩
 obtain⟨j,p8,hj,rfl,a0,z⟩:=hrel;have br:=AA a0;clear a0;obtain⟨_,_,V,_⟩:=AG (AB HN z)
 by_cases bf:j<3
 .have ez:(j:Int)<k.Xr.length:=by have:=ig.u;omega
  obtain⟨b,a5,ua,uc,rfl,c7,D0,_,RR⟩:=(HE.below z) j (by have:=ig.u;omega);have C:=CM _ j bf wr RR;cases hm:Cd (AH k.Xr j).Pj ⟨#[97]⟩
  .rw[hm] at C
   have S:=AA (show Cd (AH k.Xr j).Pj gA=false from hm);clear hm RR;go_wp2_with fail;refine C.mono ?_;rintro r w2 ⟨rfl,b2⟩;go_wp2;go_roundw
   case rel=>exact⟨j+1,ω,ω,ξ,λj' h1 K=>by
    rcases Nat.lt_succ_iff_lt_or_eq.1 K with h|rfl
    .exact br j' h1 h
    exact S.u,z.trans (b2.mono z.size)⟩
   case measure=>simp[intOf];omega
  rw[hm] at C
  have S:=AA (show IN k=false by
   have os:Cd (AH k.Xr j).Pj gA=true:=hm;rw[HA.u];have:j=1∨j=2:=ω;rcases this with rfl|rfl<;>rw[os]<;>simp)
  clear hm RR;go_wp2_with (refine C.mono ?_;rintro r w2 ⟨rfl,b2⟩);go_ret;exact⟨AF S.symm,bY.trans ((z.trans (b2.mono z.size)).mono bY.size)⟩
 obtain rfl:j=3:=ω;obtain⟨b,a5,ua,uc,rfl,c7,D0,_,RR⟩:=(HE.below z) 0 (by have:=ig.u;omega);have C:=CM _ 0 ω wr RR;have ez:¬((3:Nat):Int)<k.Xr.length:=by have:=ig.u;omega
 have ow:¬(3:Int)<k.Xr.length:=by have:=ig.u;omega
 have qj:(0:Int)<k.Xr.length:=by have:=ig.u;omega
 have S:=AA (show IN k=Cd (AH k.Xr 0).Pj ⟨#[97]⟩ by rw[HA.u,br 1 ω ω,br 2 ω ω];simp[gA])
 have e0:a5+0*2=a5:=ω;rw[e0] at D0;clear RR br;go_wp2_with (refine C.mono ?_;rintro r w2 ⟨rfl,b2⟩);go_ret;exact⟨AF S.symm,bY.trans ((z.trans (b2.mono z.size)).mono bY.size)⟩
variable{l:List Bx}
theorem Wc{k:Nat}(hk:k<l.length):Al (l.take (k+1)) wh=Al (l.take k) wh+(if(AD l k).w=wh then 1 else 0):=by
 unfold Al;rw[DA (x:=AD l k) (A6 hk),sF]
 congr 1
 simp only[xt,rU,Pz,decide_eq_true_eq,wT]
theorem Zr:Al l wh<=l.length:=by unfold Al;exact vX
theorem Ol (mv iv ev cv sv lv qv:Φ)(P:AP)(wh:Int)(w:Ω)(h:BK 3 DT w qv P.Xs)(hl:P.Xs.length<=1048576):
 Ξ prog 46 #[AN mv iv ev cv sv lv qv P.FU P.VO,.int .i64 wh] w λr w'=>r=.returned (.int .i64 (Al P.Xs wh:Nat))/\Γ w w w':=by
 unfold AN;obtain⟨N0,al⟩:=EU w (.cells #[mv,iv,ev,cv,sv,lv,qv,P.FU,P.VO] 32);obtain⟨aq,cq,rfl,_,_,nJ⟩:=BK.open F7 ψ (BK.below h al);obtain⟨_,_,_,_,_,_,x6,_,_⟩:=AC N0;clear h;go_in;go_wp2_with fail;generalize w.alloc _=W0 at*;have HQ:=AA nJ;clear nJ N0;go_loopw [5,6] (λn ix wr=>∃k:Nat,k<=P.Xs.length/\ix=.int .i64 k/\n=.int .i64 (Al (P.Xs.take k) wh:Nat)/\W0=wr) (λn ix _=>P.Xs.length - (intOf ix).toNat)
 exact⟨0,yt _,rfl,rfl,rfl⟩
 obtain⟨k,hk,rfl,rfl,rfl⟩:=hrel
 by_cases bf:k<P.Xs.length
 .have lS:(k:Int)<P.Xs.length:=ω
  obtain⟨b,a5,rfl,_,D0,_,_⟩:=HQ.zB bf;have S:=Wc (wh:=wh) bf;have kI:=Zr (l:=P.Xs.take k) (wh:=wh);rw[ym] at kI
  by_cases hw:(AD P.Xs k).w=wh
  .rw[if_pos hw] at S
   have t0:((AD P.Xs k).w==wh)=true:=by simp[hw]
   have S:=AA S;generalize Al (P.Xs.take k) wh=n0 at*;clear hw;go_wp2;go_roundw;exact⟨k+1,ω,ξ,by rw[S.u];go_num,by first|rfl|trivial⟩;simp[intOf];omega
  rw[if_neg hw] at S
  have t0:((AD P.Xs k).w==wh)=false:=by simp[hw]
  have S:=AA S;clear hw;go_wp2;go_roundw;exact⟨k+1,ω,ξ,by rw[S.u,xT],by first|rfl|trivial⟩;simp[intOf];omega
 obtain rfl:k=P.Xs.length:=ω;have lS:¬(P.Xs.length:Int)<P.Xs.length:=ω;rw[xE];go_wp2;go_ret;exact⟨rfl,al⟩
theorem YH{l:List AX}{k:Nat}(hk:k<l.length):(l.take (k+1)).countP (λx=>decide (x.k=0))=(l.take k).countP (λx=>decide (x.k=0))+(if(JR l k).k=0 then 1 else 0):=by
 rw[DA (Cg hk),sF]
 congr 1
 simp only[xt,rU,decide_eq_true_eq,wT]
theorem TQ (v:Φ)(l:List AX)(w:Ω)(h:Bf w v l)(b6:BG l=true):
 Ξ prog 201 #[v] w λr w'=>r=.returned (.int .i64 (l.countP (λx=>decide (x.k=0)):Nat))/\Γ w w w':=by
 have CV:=Dt v l w h (Ca b6);rw[b6] at CV;obtain⟨ai,ci,rfl,_,_,H0⟩:=BK.open Az ψ h;have lQ:=(A2.1 b6).1;have p4:(l.length:Int)<=12:=ω;have HH:=AA H0;have CV:=AA CV;clear h H0 b6 lQ;go_in;go_wp2_with fail;go_loopw [3,4] (λn ix wr=>∃k:Nat,k<=l.length/\ix=.int .i64 k/\n=.int .i64 ((l.take k).countP (λx=>decide (x.k=0)):Nat)/\w=wr) (λn ix _=>l.length - (intOf ix).toNat)
 exact⟨0,yt _,rfl,rfl,rfl⟩
 obtain⟨k,hk,rfl,rfl,rfl⟩:=hrel
 by_cases bf:k<l.length
 .have lS:(k:Int)<l.length:=ω
  obtain⟨b,a5,rfl,_,D0,_,_⟩:=HH.zZ bf;have S:=YH bf;have kI:=vX (p:=λx:AX=>decide (x.k=0)) (l:=l.take k);rw[ym] at kI
  by_cases hw:(JR l k).k=0
  .rw[if_pos hw] at S
   have t0:((JR l k).k==0)=true:=by simp[hw]
   have S:=AA S;generalize List.countP _ (l.take k)=n0 at*;clear hw;go_wp2;go_roundw;exact⟨k+1,ω,ξ,by rw[S.u];go_num,by first|rfl|trivial⟩;simp[intOf];omega
  rw[if_neg hw] at S
  have t0:((JR l k).k==0)=false:=by simp[hw]
  have S:=AA S;clear hw;go_wp2;go_roundw;exact⟨k+1,ω,ξ,by rw[S.u,xT],by first|rfl|trivial⟩;simp[intOf];omega
 obtain rfl:k=l.length:=ω;have lS:¬(l.length:Int)<l.length:=ω;rw[xE];go_wp2_with (refine CV.mono ?_;rintro r w2 ⟨rfl,b2⟩);go_ret;exact⟨rfl,b2⟩
theorem Wn{k:Nat}(hk:k<s.length)(h:∀j,j<k->(AK s j).isEmpty=false)(hp:(AK s k).isEmpty=true):Bs s=(k:Int):=by
 have g:∀j (hj:j<s.length),s[j]=AK s j:=λj hj=>by have:=Km hj;rw[List.getElem?_eq_getElem hj] at this;exact yP this
 unfold Bs;rw[if_pos (Pr (Km hk) hp)];have:s.findIdx List.isEmpty=k:=by
  rw[List.findIdx_eq hk];exact⟨by rw[g k hk];exact hp,λj hj=>by rw[g j ω];exact h j hj⟩
 rw[this]
theorem Vb (h:∀j,j<s.length->(AK s j).isEmpty=false):Bs s= -1:=by
 unfold Bs;rw[if_neg];rw[ML (λk hk=>Km hk) h];simp
theorem XD (v:Φ)(s:List (List Int))(w:Ω)(h:Bl w v s):Ξ prog 270 #[v] w λe w'=>e=.returned (.int .i64 (Bs s))/\Γ w w w':=by
 obtain⟨ao,c,rfl,hc,f7,x0⟩:=h.open;unfold maxLen at f7;have HH:=AA x0;clear h x0;go_in;go_wp2_with fail;go_loopw [3] (λix wr=>∃k:Nat,k<=s.length/\ix=.int .i64 k/\(∀j,j<k->(AK s j).isEmpty=false)/\Γ w w wr) (λix _=>s.length - (intOf ix).toNat)
 exact⟨0,yt _,rfl,λj hj=>absurd hj (xV _),yN _ _⟩
 obtain⟨k,hk,rfl,a0,z⟩:=hrel;have br:=AA a0;clear a0
 by_cases bf:k<s.length
 .have cg:(k:Int)<(s.length:Int):=ω
  obtain⟨b,a5,u,rfl,c7,vs,hr⟩:=(HH.below z) k bf;obtain⟨au,cu,rfl,_,_,_⟩:=hr.open;cases hp:(AK s k).isEmpty
  .have t0:(((AK s k).length:Int)==0)=false:=by rw[<-hp];cases hx:AK s k<;>simp<;>omega
   have Hp:=AA hp;clear hp;go_wp2;go_roundw;exact⟨k+1,ω,ξ,Am br Hp.u,z⟩;simp[intOf];omega
  have t0:(((AK s k).length:Int)==0)=true:=by rw[<-hp];cases hx:AK s k<;>simp<;>omega
  have S:=AA (Wn bf br hp);have Hp:=AA hp;clear hp;go_wp2;go_ret;exact⟨Cy S.symm,z⟩
 have ek:k=s.length:=ω;have a0:=br.u;rw[ek] at a0;have S:=AA (Vb a0);clear br a0;go_wp2;go_ret;exact⟨Cy S.symm,z⟩
theorem X3{c:AT}(h:c.k=1):Ad k c=J0 k c:=by unfold Ad;rw[if_pos h]
theorem XC (h:Du lo w m iv ev cv k)(av:lo<=w.heap.size)(hk:DZ k)(call:AT)(he:0<=call.e/\call.e<3)(K:call.k=1)(g8:call.nm.size<=maxLen):
 Ξ prog 189 #[.agg #[m,iv,ev,cv],.agg call.cs] w (L7 lo w (Ad k call)):=by
 have bK:=SC.start h av call;have P0:Ad k call=if BR call.nm=false then(k,0,3) else if Cd (AH k.Xr call.e.toNat).Pj call.nm=false then(k,0,1) else if An k.Zh<0 then(k,0,4) else({k with Zh:=k.Zh.set (An k.Zh).toNat ⟨1,call.nm,0⟩,mem:=k.mem.set (An k.Zh).toNat [0,0,0,0]},An k.Zh,0):=X3 K
 have b9:=(Aq hk).1;have b6:=(Aq hk).2.1;obtain⟨gm,bk,rfl,_⟩:=Em.mems bK b9;obtain⟨am,fk,cm,ai,ni,ci,ae,f5,ce,ac,nc,cc,em,rfl,rfl,rfl⟩:=bK.Dq;clear em;have S0:=AA bK;obtain⟨kk,e,a,b,c,nm⟩:=call;simp only at he g8;obtain⟨en,rfl⟩:∃n:Nat,e=(n:Int):=⟨e.toNat,ω⟩
 simp only[AT.cs,yq] at S0 P0 ⊢;have HP:=AA P0;have A:=AA hk;have CR:=AA (λW=>A4 (El nm W g8));have CM:=AA (λW (h:Gr W (.slice ae f5 ce) k.Xr)=>KS (.slice gm 12 bk) (.slice ai ni ci) (.slice ae f5 ce) (.slice ac nc cc) k en nm W h hk ω g8);have CF:=AA (λW (h:Bf W (.slice ai ni ci) k.Zh)=>QS (.slice ai ni ci) k.Zh W h);obtain⟨H,N,V,R⟩:=S0.xs;obtain⟨y0,y1,y2,y3,y4,y5⟩:=S0.ys6;have hH:=AA b9;have po:=AA b6;generalize hrv:BR nm=rv at CR HP;generalize hmb:Cd (AH k.Xr en).Pj nm=mb at CM HP;have pl:=AA hrv;clear h K bK he hk b9 b6 g8 P0 hrv hmb;generalize hW0:((w.alloc _).alloc _).alloc _=W0 at*;go_in;go_wp2_with fail;refine(CR _).mono ?_;rintro r w0 ⟨rfl,al⟩;have S0:=AA (S0.below al);clear H N V R y0 y1 y2 y3 y4 y5 al hW0;cases rv
 .have a6:=AA (show Ad k ⟨kk,(en:Int),a,b,c,nm⟩=(k,0,3) by rw[HP.u];rfl)
  clear HP CR CM CF;obtain⟨⟨H,N,V,R⟩,⟨⟨z0,z1,z2,z3⟩,bA⟩,HE,HR⟩:=S0.yR av (v:=0) (code:=3) (a6.u) ψ;go_wp2_with ((try simp only[xS,Exit.then]);with_reducible refine yB ?_ rfl HR.u;obtain⟨E0,E1,E2,E3⟩:=HE.u;simp[results,uK,go_sem,E0,E1,E2,E3])
 obtain⟨H,N,V,R⟩:=S0.xs
 obtain⟨y0,y1,y2,y3,y4,y5⟩:=S0.ys6;go_wp2_with fail;refine(CM _ S0.K.2.2.1).mono ?_;rintro r w1 ⟨rfl,bX⟩;have S1:=AA (S0.below bX);clear H N V R y0 y1 y2 y3 y4 y5 bX;cases mb
 .have a6:=AA (show Ad k ⟨kk,(en:Int),a,b,c,nm⟩=(k,0,1) by rw[HP.u];rfl)
  obtain⟨⟨H,N,V,R⟩,⟨⟨z0,z1,z2,z3⟩,bA⟩,HE,HR⟩:=S1.yR av (v:=0) (code:=1) (a6.u) ψ;go_wp2_with ((try simp only[xS,Exit.then]);with_reducible refine yB ?_ rfl HR.u;obtain⟨E0,E1,E2,E3⟩:=HE.u;simp[results,uK,go_sem,E0,E1,E2,E3])
 have bC:=AA (show Ad k ⟨kk,(en:Int),a,b,c,nm⟩=if An k.Zh<0 then(k,0,4) else({k with Zh:=k.Zh.set (An k.Zh).toNat ⟨1,nm,0⟩,mem:=k.mem.set (An k.Zh).toNat [0,0,0,0]},An k.Zh,0) by rw[HP.u];rfl)
 obtain⟨H,N,V,R⟩:=S1.xs;clear HP;go_wp2_with fail;refine(CF _ S1.K.2.1).mono ?_;rintro r w2 ⟨rfl,a4⟩;have S2:=AA (S1.below a4);clear H N V R a4
 by_cases lV:An k.Zh<0
 .have a6:=AA (show Ad k ⟨kk,(en:Int),a,b,c,nm⟩=(k,0,4) by rw[bC.u,if_pos lV])
  clear bC;obtain⟨⟨H,N,V,R⟩,⟨⟨z0,z1,z2,z3⟩,bA⟩,HE,HR⟩:=S2.yR av (v:=0) (code:=4) (a6.u) ψ;go_wp2_with ((try simp only[xS,Exit.then]);with_reducible refine yB ?_ rfl HR.u;obtain⟨E0,E1,E2,E3⟩:=HE.u;simp[results,uK,go_sem,E0,E1,E2,E3])
 obtain⟨oI,_,_⟩:=GW (Zh:=k.Zh) ω;obtain⟨f,hf⟩:∃f:Nat,An k.Zh=(f:Int):=⟨(An k.Zh).toNat,ω⟩
 have jJ:f<12:=by have:=A.len;omega
 have a6:=AA (show Ad k ⟨kk,(en:Int),a,b,c,nm⟩=({k with Zh:=k.Zh.set f ⟨1,nm,0⟩,mem:=k.mem.set f [0,0,0,0]},(f:Int),0) by rw[bC.u,if_neg lV,hf];rfl);have CT:=AA (λW hi=>TS (.slice ai ni ci) k.Zh nm f W hi po pl hf jJ);obtain⟨H,N,V,R⟩:=S2.xs;obtain⟨y0,y1,y2,y3,y4,y5⟩:=S2.ys6;rw[hf];clear bC hf lV oI;go_wp2_with fail;refine(CT _ S2.K.2.1).mono ?_;rintro r w3 ⟨v',rfl,hO,b5⟩;clear H N V R y0 y1 y2 y3 y4 y5;have S3:=AA (S2.zy b5 hO);have kN:=AI (S2.below b5).yS.1;have mO:=(S2.below b5).xs.2.1;obtain⟨a9,c9,e9,_,_⟩:=hO.rd.shape;generalize wV _=n9 at e9;subst e9;clear hO b5;generalize hW9:w3.setCell _ _=W9 at S3;obtain⟨H,N,V,R⟩:=S3.xs;have a7:=S3.lts.2.1;have oH:(f:Int)<12:=ω;have j3:=(Aj.1 hH.u).1;go_wp2_with fail;refine A9 4 49 [.p w.heap.size 0,.s gm 12 bk,.i ((f:Int)),.z] (λix vv ww=>match ix with
  |3=>AE W9 ww vv [0,0,0,0]
  |_=>True) ?_ ?_ ?_
 .intro i hi o Z a E Y J L h2 A
  match i,hi with
  |0,_|2,_=>exact sP Z A Y J
  |1,_=>exact sL Z A Y J (hl:=GZ (bc L a7 H))
  |3,_=>obtain rfl:=yP Z;clear J Y;obtain⟨i0,kD,k9,k8,k7⟩:=info_parts Tryz.zS;obtain⟨w9,bP,h3,h4⟩:=run_make_full (P:=prog) E E.heap.size 29 3 i0 _ 1 underlying29 kD k9 k8 .i64 .i64 4 (by rw[k7];decide) ψ (yF _);have h5:=Below.zE h4;rw[XI (.int .i64 0) rfl 4] at h3;have m0:(Instr.makeSlice 29 (.int .i64 4) (.int .i64 4)).run prog E=.ok (.slice E 4 4) w9:=bP;clear kD k9 k8 k7 bP;refine yO ?_;go_simp;exact A _ _ (Bb h3 L.size) h5
 .intro i hi vv wz fp bB hz
  match i,hi with
  |3,_=>exact(AE.below hz bB)
  |0,_|1,_|2,_=>exact hz
 intro D E hR L
 have q1:(D 1)=.slice gm 12 bk:=Bh hR 1;have q2:(D 2)=.int .i64 f:=Bh hR 2;have q3:AE W9 E (D 3) [0,0,0,0]:=Bh hR 3;clear hR;simp only[Ai,Ae,yL,yI,yJ,yH,q1,q2];simp;generalize D 3=z3 at q3 ⊢;clear q1 q2;have S4:=AA (S3.newRow j3.symm L q3 (by rw[j3];exact jJ));obtain⟨qk,nv,me,iW,mQ,e2,_,_,D2,_⟩:=(S3.below L).yS.zo hH jJ;cases e2;have Fr:=AI (A7 ((S3.below L).yS.2.2.1.choose_spec.1) gm rfl).choose_spec;obtain⟨a9,c9,e9,_,_⟩:=q3.rd.open;rw[show([0,0,0,0]:List Int).length=4 from rfl] at e9;subst e9;generalize hW10:E.setCell _ _=W10 at S4;clear H N V R q3 L a7;obtain⟨⟨H,N,V,R⟩,⟨⟨z0,z1,z2,z3⟩,bA⟩,HE,HR⟩:=S4.fin av (v:=(f:Int)) (code:=0) (a6.u);go_wp2_with ((try simp only[xS,Exit.then]);with_reducible refine yB ?_ rfl HR.u;obtain⟨E0,E1,E2,E3⟩:=HE.u;simp[results,uK,go_sem,E0,E1,E2,E3])
theorem aa{m:List (List Int)}:(Gc m xs f kind ss).2=0∨(Gc m xs f kind ss).2=1∨(Gc m xs f kind ss).2=2:=by
 unfold Gc
 repeat' split
 all_goals simp
theorem Xc{m:List (List Int)}:(DH m xs f).2=0∨(DH m xs f).2=1∨(DH m xs f).2=2:=by
 unfold DH
 repeat' split
 all_goals simp
theorem YW (h:Du lo w mv iv ev cv k)(av:lo<=w.heap.size)(hk:DZ k)(call:AT)(he:0<=call.e/\call.e<3)(K:call.k=4∨call.k=5):
 Ξ prog 192 #[.agg #[mv,iv,ev,cv],.agg call.cs] w (L7 lo w (Ad k call)):=by
 have bK:=SC.start h av call;have P0:=Zo (k:=k) K;obtain⟨gi,ar,e8,gs,_⟩:=bK.Zh (by rw[hk.len];omega);rw[hk.len] at e8;obtain⟨am,fk,cm,ai,ni,ci,ae,f5,ce,ac,nc,cc,em,ei,ee,ec⟩:=bK.Dq;subst e8;clear ei;have S0:=AA bK;obtain⟨kk,e,a,b,c,nm⟩:=call;simp only at he K;obtain⟨en,rfl⟩:∃n:Nat,e=(n:Int):=⟨e.toNat,ω⟩
 have cC:en<3:=ω;simp only[AT.cs] at S0 P0 ⊢;obtain⟨rfl,rfl,rfl⟩:=yj em (yj ee ec);have HP:=AA P0;have A:=AA hk;have Hl:=AA hk.len;obtain⟨bad,cF⟩:∃b',decide (Bj a 0 11=false∨(JR k.Zh a.toNat).k=0∨(kk=4/\Bp b=false))=b':=⟨_,rfl⟩
 have HB:=AA cF;obtain⟨H,N,V,R⟩:=S0.xs;obtain⟨y0,y1,y2,y3,y4,y5⟩:=S0.ys6;clear h bK he hk P0 K cF;go_in;go_upto_region 1 with fail;go_cut [33] (λn3 E=>n3=.bool bad/\SC lo w.heap.size ⟨kk,(en:Int),a,b,c,nm⟩ w E (.slice am fk cm) (.slice gi 12 ar) (.slice ae f5 ce) (.slice ac nc cc) k)
 case first=>
  go_wp2_with fail;refine(A4 (EZ _ _)).mono ?_;rintro r w1 ⟨rfl,bX⟩;have S1:=AA (S0.below bX);clear H N V R y0 y1 y2 y3 y4 y5 bX;cases e1:Bj a 0 11
  .have E1:=AA e1
   clear e1;go_wp2_with fail;go_meet
   case rel=>exact⟨by rw[<-HB.u];simp[E1.u],S1.u⟩
  have ab:=Aa.1 e1;have E1:=AA e1;clear e1;obtain⟨O,rfl⟩:∃n:Nat,a=(n:Int):=⟨a.toNat,ω⟩
  have iR:(O:Int)<12:=ω;obtain⟨H,N,V,R⟩:=S1.xs;obtain⟨y0,y1,y2,y3,y4,y5⟩:=S1.ys6;obtain⟨D0,_,_⟩:=S1.JR (f:=O) (by rw[Hl.u];omega);have HB:=AA (show decide (Bj (O:Int) 0 11=false∨(JR k.Zh O).k=0∨(kk=4/\Bp b=false))=bad from HB.u);generalize(JR k.Zh O).k=kd at*
  by_cases e0:kd=0
  .subst e0
   go_wp2_with fail;go_meet
   case rel=>exact⟨by rw[<-HB.u];simp,S1.u⟩
  have t0:(kd==0)=false:=by simp[e0]
  have E0:=AA e0;clear e0;cases tk:(kk==4)
  .have TK:=AA (show kk≠4 by simpa using tk)
   go_wp2_with fail;go_meet
   case rel=>exact⟨by rw[<-HB.u];simp[E1.u,E0.u,TK.u],S1.u⟩
  have TK:=AA (show kk=4 by simpa using tk);go_wp2_with fail;refine(A4 (GY _ _)).mono ?_;rintro r w2 ⟨rfl,a4⟩;have S2:=AA (S1.below a4);clear H N V R y0 y1 y2 y3 y4 y5 D0 a4;go_wp2_with fail;go_meet
  case rel=>exact⟨by rw[<-HB.u];cases hw:Bp b<;>simp[E1.u,E0.u,TK.u],S2.u⟩
 case rest=>
 obtain⟨rfl,hS⟩:=hcut;have S2:=AA hS;obtain⟨w2,rfl⟩:∃w2,w2=wc:=⟨_,rfl⟩
 clear H N V R y0 y1 y2 y3 y4 y5 hS S0;cases bad
 rotate_left
 .have a6:=AA (HP.trans (if_pos (of_decide_eq_true HB.u)))
  clear HP HB;obtain⟨⟨H,N,V,R⟩,⟨⟨z0,z1,z2,z3⟩,bA⟩,HE,HR⟩:=S2.yR av (v:=0) (code:=3) (a6.u) ψ;go_wp2_with ((try simp only[xS,Exit.then]);with_reducible refine yB ?_ rfl HR.u;obtain⟨E0,E1,E2,E3⟩:=HE.u;simp[results,uJ,go_sem,E0,E1,E2,E3])
 have jy:=of_decide_eq_false HB.u;have lc:=HP.trans (if_neg jy);have ab:=Aa.1 (show Bj a 0 11=true by cases e1:Bj a 0 11;(· exact absurd (.inl e1) jy);(· rfl));obtain⟨O,rfl⟩:∃n:Nat,a=(n:Int):=⟨a.toNat,ω⟩
 have cl:O<12:=ω;have iR:(O:Int)<12:=ω;have jI:kk=4->Bp b=true:=λx=>by cases e:Bp b;(· exact absurd (.inr (.inr ⟨x,e⟩)) jy);(· rfl)
 have HG:=AA (Ca (Aq A.u).2.1 _ (yv (Cg (show O<k.Zh.length by rw[Hl.u];exact cl))));have CP:=AA (λW (h:Ns W (.slice am fk cm) (.slice gi 12 ar) (.slice ae f5 ce) (.slice ac nc cc) k)=>UA _ _ _ _ k kk b c en O nm W h A cC cl jI);replace lc:Ad k ⟨kk,(en:Int),(O:Int),b,c,nm⟩=if Cd (AH k.Xr en).Pj (JR k.Zh O).g=false then(k,0,1) else EB k (if kk=4 then Gc k.mem k.Zh O b (AH k.Xr en).Pj else DH k.mem k.Zh O):=lc
 have bC:=AA lc;have HC:=AA (show(if kk=4 then Gc k.mem k.Zh O b (AH k.Xr en).Pj else DH k.mem k.Zh O).2=0∨(if kk=4 then Gc k.mem k.Zh O b (AH k.Xr en).Pj else DH k.mem k.Zh O).2=1∨(if kk=4 then Gc k.mem k.Zh O b (AH k.Xr en).Pj else DH k.mem k.Zh O).2=2 by
  split
  .exact aa
  exact Xc)
 generalize(if kk=4 then Gc k.mem k.Zh O b (AH k.Xr en).Pj else DH k.mem k.Zh O)=res at CP bC HC;clear HP HB jy ab jI lc;obtain⟨H,N,V,R⟩:=S2.xs;obtain⟨y0,y1,y2,y3,y4,y5⟩:=S2.ys6;obtain⟨_,D1,_⟩:=S2.JR (f:=O) (by rw[Hl.u];exact cl);obtain⟨bs,a7,_,_⟩:=S2.lts;have lT:=S2.zx;have CM:=AA (λW (h:Gr W (.slice ae f5 ce) k.Xr)=>KS (.slice am fk cm) (.slice gi 12 ar) (.slice ae f5 ce) (.slice ac nc cc) k en (JR k.Zh O).g W h A cC HG.u);generalize(JR k.Zh O).g=gd at D1 CM bC;generalize Cd (AH k.Xr en).Pj gd=mb at CM bC;go_wp2_with fail;refine Ac 10 64 [.a #[.slice am fk cm,.slice gi 12 ar,.slice ae f5 ce,.slice ac nc cc],.p (w.heap.size+1) 1,.i ((en:Int)),.p w.heap.size 1,.s gi 12 ar,.p (w.heap.size+1) 2,.i ((O:Int)),.p gi (O*3),.p gi (O*3+1),.t gd] (λ_ _ _=>True) ?_ ?_
 .intro i hi o Z a E Y J L h2 A
  have bw:=bc L a7 H;have bu:=bc L a7 N;have bE:=bc L a7 V;have bL:=bc L a7 R;have cT:=bc L bs y1;have fl:=bc L bs y2;have jE:=bc L lT D1
  match i,hi with
  |0,_=>exact sL Z A Y J (hl:=P7 ‹_› ‹_› ‹_› ‹_›)
  |1,_|3,_|5,_|8,_=>exact sP Z A Y J
  |2,_|6,_=>exact sL Z A Y J (hl:=GO ‹_›)
  |4,_=>exact sL Z A Y J (hl:=Gt ‹_›)
  |7,_=>exact sI Z A Y J (hr:=by clear J Y A;go_simp)
  |9,_=>exact sL Z A Y J (hl:=aM ‹_›)
 intro D E hR L
 have q0:(D 0)=.agg #[.slice am fk cm,.slice gi 12 ar,.slice ae f5 ce,.slice ac nc cc]:=Bh hR 0;have q2:(D 2)=.int .i64 en:=Bh hR 2;have q9:(D 9)=.string gd:=Bh hR 9;clear hR;simp only[Ai,Ae,yL,yI,yJ,yH,q0,q2,q9];simp;clear q0 q2 q9;have S3:=AA (S2.below L);clear H N V R y0 y1 y2 y3 y4 y5 D1 L;go_wp2_with fail;refine(CM _ S3.K.2.2.1).mono ?_;rintro r w4 ⟨rfl,hD⟩;have S4:=AA (S3.below hD);clear hD;cases mb
 .have a6:=AA (show Ad k ⟨kk,(en:Int),(O:Int),b,c,nm⟩=(k,0,1) by rw[bC.u];rfl)
  obtain⟨⟨H,N,V,R⟩,⟨⟨z0,z1,z2,z3⟩,bA⟩,HE,HR⟩:=S4.yR av (v:=0) (code:=1) (a6.u) ψ;go_wp2_with ((try simp only[xS,Exit.then]);with_reducible refine yB ?_ rfl HR.u;obtain⟨E0,E1,E2,E3⟩:=HE.u;simp[results,uJ,go_sem,E0,E1,E2,E3])
 obtain⟨H,N,V,R⟩:=S4.xs
 obtain⟨y0,y1,y2,y3,y4,y5⟩:=S4.ys6;obtain⟨ri,rc⟩:=res;have a6:=AA (show Ad k ⟨kk,(en:Int),(O:Int),b,c,nm⟩=EB k (ri,rc) by rw[bC.u];rfl);go_wp2_with fail;refine(CP _ S4.K).mono ?_;rintro r w5 ⟨v',rfl,hO,f8⟩;simp only at hO ⊢;clear H N V R y0 y1 y2 y3 y4 y5 bC
 rcases HC.u with e|e|e<;>subst e
 .have S5:=AA (S4.zy f8 hO)
  have kN:=AI (S4.below f8).yS.1;have mO:=(S4.below f8).xs.2.1;obtain⟨a9,c9,e9,_,_⟩:=hO.rd.shape;generalize wV _=n9 at e9;subst e9;clear hO f8;generalize hW9:w5.setCell _ _=W9 at S5;obtain⟨⟨H,N,V,R⟩,⟨⟨z0,z1,z2,z3⟩,bA⟩,HE,HR⟩:=S5.fin av (v:=0) (code:=0) (a6.u);go_wp2_with ((try simp only[xS,Exit.then]);with_reducible refine yB ?_ rfl HR.u;obtain⟨E0,E1,E2,E3⟩:=HE.u;simp[results,uJ,go_sem,E0,E1,E2,E3])
 all_goals
  have S5:=AA (S4.below f8);obtain⟨a9,c9,e9,_,_⟩:=hO.rd.shape;generalize wV _=n9 at e9;subst e9;clear hO f8;obtain⟨⟨H,N,V,R⟩,⟨⟨z0,z1,z2,z3⟩,bA⟩,HE,HR⟩:=S5.yR av (v:=0) (code:=_) (a6.u) (by first|exact(ψ:IJ 1≠0)|exact(ψ:IJ 2≠0));go_wp2_with ((try simp only[xS,Exit.then]);with_reducible refine yB ?_ rfl HR.u;obtain⟨E0,E1,E2,E3⟩:=HE.u;simp[results,uJ,IJ,go_sem,E0,E1,E2,E3])
theorem fD (h:DZ k){o:Int}:(GM k.Zh o).length=12/\∀n<12,0 - 1<=(JR (GM k.Zh o) n).r/\(JR (GM k.Zh o) n).r<=47:=by
 unfold GM
 split
 .refine⟨DI.trans h.len,λn hn=>?_⟩
  have r1:=h.yZ hn;rw[Fy]
  split
  .next hx=>
   rw[hx.1] at r1
   show 0 - 1<=(JR k.Zh _).r+ -1/\(JR k.Zh _).r+ -1<=47
   omega
  omega
 exact⟨h.len,λn hn=>by have r1:=h.yZ hn;omega⟩
theorem XB (h:Du lo w mv iv ev cv k)(av:lo<=w.heap.size)(hk:DZ k)(call:AT)(he:0<=call.e/\call.e<3)(K:call.k=7):
 Ξ prog 194 #[.agg #[mv,iv,ev,cv],.agg call.cs] w (L7 lo w (Ad k call)):=by
 have bK:=SC.start h av call;have P0:=(X2 (k:=k) K).trans XX;obtain⟨ge,bl,e9,_,_⟩:=bK.Xr (by rw[hk.zX];omega);rw[hk.zX] at e9;obtain⟨gi,ar,e8,_,_⟩:=bK.Zh (by rw[hk.len];omega);rw[hk.len] at e8;obtain⟨am,fk,cm,ai,ni,ci,ae,f5,ce,ac,nc,cc,em,ei,ee,ec⟩:=bK.Dq;subst e8 e9 em ec;clear ei ee;have S0:=AA bK;obtain⟨kk,e,ra,b,c,nm⟩:=call;simp only at he K;subst K;obtain⟨en,rfl⟩:∃n:Nat,e=(n:Int):=⟨e.toNat,ω⟩
 have cC:en<3:=ω;have jK:(en:Int)<3:=ω;simp only[AT.cs,yq] at S0 P0 ⊢;obtain⟨rt,il⟩:∃r,(AH k.Xr en).root=r:=⟨_,rfl⟩
 rw[il] at P0;have nC:=AA il;have HP:=AA P0;have A:=AA hk;obtain⟨bad,cF⟩:∃b,decide (ra≠ -1/\(Bj ra 0 11=false∨(JR k.Zh ra.toNat).k≠3))=b:=⟨_,rfl⟩
 have HB:=AA cF;obtain⟨H,N,V,R⟩:=S0.xs;obtain⟨y0,y1,y2,y3,y4,y5⟩:=S0.ys6;clear h bK he hk il cF P0;go_in;go_upto_region 1 with fail;go_cut [26] (λn6 E=>n6=.bool bad/\SC lo w.heap.size ⟨7,(en:Int),ra,b,c,nm⟩ w E (.slice am fk cm) (.slice gi 12 ar) (.slice ge 3 bl) (.slice ac nc cc) k)
 case first=>
  by_cases e1:ra= -1
  .have t1:(ra != -1)=false:=by simp[e1]
   have E1:=AA e1;clear e1;go_wp2_with fail;go_meet
   case rel=>exact⟨by rw[<-HB.u];simp[E1.u],S0.u⟩
  have t1:(ra != -1)=true:=by simp[e1]
  have E1:=AA e1;clear e1;go_wp2_with fail;refine(A4 (EZ _ _)).mono ?_;rintro r w1 ⟨rfl,bX⟩;have S1:=AA (S0.below bX);clear H N V R y0 y1 y2 y3 y4 y5;cases e2:Bj ra 0 11
  .go_wp2_with fail
   go_meet
   case rel=>exact⟨by rw[<-HB.u];simp[E1.u,e2],S1.u⟩
  have ab:=Aa.1 e2
  have E2:=AA e2;clear e2;obtain⟨O,rfl⟩:∃n:Nat,ra=(n:Int):=⟨ra.toNat,ω⟩
  have iR:(O:Int)<12:=ω;obtain⟨H,N,V,R⟩:=S1.xs;obtain⟨y0,y1,y2,y3,y4,y5⟩:=S1.ys6;obtain⟨d0,_,_⟩:=S1.JR (f:=O) (by rw[A.len];omega);go_wp2_with fail;go_meet
  case rel=>exact⟨by rw[<-HB.u];by_cases h3:(JR k.Zh O).k=3<;>simp[E1.u,E2.u,h3],S1.u⟩
 case rest=>
 obtain⟨rfl,hS⟩:=hcut;have S2:=AA hS;obtain⟨w2,rfl⟩:∃w2,w2=wc:=⟨_,rfl⟩
 clear H N V R y0 y1 y2 y3 y4 y5 hS S0;cases bad
 .have bC:=AA (HP.trans (if_neg (of_decide_eq_false HB.u)))
  have Ha:=AA (show(ra= -1∨0<=ra)/\ra<12 by
   have:=of_decide_eq_false HB.u
   by_cases e1:ra= -1
   .omega
   cases e2:Bj ra 0 11
   .exact absurd ⟨e1,.inl e2⟩ this
   have:=Aa.1 e2
   omega)
  clear HP HB;obtain⟨H,N,V,R⟩:=S2.xs;obtain⟨y0,y1,y2,y3,y4,y5⟩:=S2.ys6;obtain⟨bs,a7,_,_⟩:=S2.lts;have iO:=S2.zg;obtain⟨ua,uc,D0,D1,x3⟩:=S2.env (j:=en) (by rw[A.zX];exact cC);have RM:=S2.K.1;have RI:=S2.K.2.1;have CX:=AA (λW (hW:Γ w2 w2 W)=>J6 _ k.mem ra W (RM.below hW) (Aq A.u).1 Ha.2);have CA:=AA (λW (hW:Γ w2 w2 W) v2 (K:A1 W v2 (A5 (FN k.mem ra)))=>by have:=G0 _ v2 _ k.Zh (FN k.mem ra) (AH k.Xr en).Pj W (BK.below RI hW) K (BK.below x3 hW) (λf hf=>by have:=zG Ha.2 f ((HZ Ha.2 f).1 hf);have:=A.len;omega) (Ca (Aq A.u).2.1) (JL A cC);rw[Fp (HZ Ha.2)] at this;exact this);generalize BM k.Zh (Bg k.mem ra) (AH k.Xr en).Pj=bb at CA bC;clear RM RI x3;go_wp2_with fail;refine A9 14 98 [.p w.heap.size 1,.s gi 12 ar,.p w.heap.size 0,.v (.slice am fk cm),.p (w.heap.size+1) 2,.i ra,.z,.p w.heap.size 2,.s ge 3 bl,.p (w.heap.size+1) 1,.i ((en:Int)),.p ge (en*2),.p ge (en*2),.v (.slice ua (AH k.Xr en).Pj.length uc)] (λix vv ww=>match ix with
   |6=>AE w2 ww vv (A5 (FN k.mem (ra)))
   |_=>True) ?_ ?_ ?_
  .intro i hi o Z a E Y J L h2 A
   have bE:=bc L bs y2;have cT:=bc L bs y1
   match i,hi with
   |0,_|2,_|4,_|7,_|9,_|12,_=>exact sP Z A Y J
   |1,_=>exact sL Z A Y J (hl:=Gt (bc L a7 N))
   |3,_=>exact sL Z A Y J (hl:=GZ (bc L a7 H))
   |5,_|10,_=>exact sL Z A Y J (hl:=GO ‹_›)
   |6,_=>exact sC Z A Y J (CX _ L) (by rintro e w_ ⟨v',rfl,hO,a4⟩;exact⟨_,rfl,(Bb hO L.size),a4⟩)
   |8,_=>exact sL Z A Y J (hl:=P6 (bc L a7 V))
   |11,_=>exact sI Z A Y J (hr:=by clear J Y A;go_simp)
   |13,_=>exact sL Z A Y J (hl:=Kt (bc L iO D0))
  .intro i hi vv wz fp bB hz
   match i,hi with
   |6,_=>exact(AE.below hz bB)
   |0,_|1,_|2,_|3,_|4,_|5,_|7,_|8,_|9,_|10,_|11,_|12,_|13,_=>exact hz
  intro D E hR L
  have q1:(D 1)=.slice gi 12 ar:=Bh hR 1;have q6:AE w2 E (D 6) (A5 (FN k.mem (ra))):=Bh hR 6;have eL:(D 13)=.slice ua (AH k.Xr en).Pj.length uc:=Bh hR 13;clear hR;simp only[Ai,Ae,yL,yI,yJ,yH,q1,eL];simp;generalize D 6=z6 at q6 ⊢;clear q1 eL;have S3:=AA (S2.below L);obtain⟨a8,c8,e8,_⟩:=q6.rd.open;have HQ:=AA q6.rd;generalize wV _=n8 at e8;subst e8;have ih:=AA L;clear H N V R y0 y1 y2 y3 y4 y5 D0 D1 L q6;go_wp2_with fail;refine(CA _ ih _ HQ.u).mono ?_;rintro r w4 ⟨rfl,hD⟩;have S4:=AA (S3.below hD);clear hD ih HQ CA;cases bb
  .have a6:=AA (bC.trans (if_pos rfl))
   obtain⟨⟨H,N,V,R⟩,⟨⟨z0,z1,z2,z3⟩,bA⟩,HE,HR⟩:=S4.yR av (v:=0) (code:=1) (a6.u) ψ;go_wp2_with ((try simp only[xS,Exit.then]);with_reducible refine yB ?_ rfl HR.u;obtain⟨E0,E1,E2,E3⟩:=HE.u;simp[results,tR,go_sem,E0,E1,E2,E3])
  have a6:=AA (bC.trans (if_neg ψ));clear bC;obtain⟨H,N,V,R⟩:=S4.xs;obtain⟨y0,y1,y2,y3,y4,y5⟩:=S4.ys6;obtain⟨_,_,_,D1,_⟩:=S4.env (j:=en) (by rw[A.zX];exact cC);rw[nC.u] at D1;go_upto_if 53 with fail;clear H N V R y0 y1 y2 y3 y4 y5 D1;go_cut [] (λE=>SC lo w.heap.size ⟨7,(en:Int),ra,b,c,nm⟩ w E (.slice am fk cm) (.slice gi 12 ar) (.slice ge 3 bl) (.slice ac nc cc) {k with Zh:=GM k.Zh rt})
  case first=>
   by_cases Z:rt<0
   .have t5:¬(0:Int)<=rt:=ω
    go_wp2_with fail;go_meet
    case rel=>exact(by unfold GM;rw[if_neg ω];exact S4.u)
   obtain⟨rn,rfl⟩:∃n:Nat,rt=(n:Int):=⟨rt.toNat,ω⟩
   have cy:rn<12:=by have:=zK A cC;rw[nC.u] at this;omega
   have t5:(0:Int)<=(rn:Int):=ω;clear Z;obtain⟨H,N,V,R⟩:=S4.xs;obtain⟨y0,y1,y2,y3,y4,y5⟩:=S4.ys6;obtain⟨bs,a7,_,_⟩:=S4.lts;have gs:=S4.zx;obtain⟨_,_,d2⟩:=S4.JR (f:=rn) (by show rn<(k.Zh).length;have:=A.len;omega)
   try simp only at d2
   have hd:=A.yZ cy;generalize hrv:(JR (k.Zh) rn).r=rv at d2 hd;obtain⟨nr,hnr⟩:∃nr,rv - 1=nr:=⟨_,rfl⟩
   have iZ:=AA hnr;clear hnr;have jQ:(rn:Int)<12:=ω;go_wp2_with fail;refine Ac 10 98 [.p w.heap.size 1,.s gi 12 ar,.i ((rn:Int)),.p w.heap.size 1,.s gi 12 ar,.i ((rn:Int)),.p gi (rn*3),.p gi (rn*3+2),.i rv,.i nr] (λ_ _ _=>True) ?_ ?_
   .intro i hi o Z a E Y J L h2 A
    have bw:=bc L a7 N;have bu:=bc L gs d2
    match i,hi with
    |0,_|2,_|3,_|5,_|7,_=>exact sP Z A Y J
    |1,_|4,_=>exact sL Z A Y J (hl:=Gt ‹_›)
    |6,_=>exact sI Z A Y J (hr:=by clear J Y A;go_simp)
    |8,_=>exact sL Z A Y J (hl:=GO ‹_›)
    |9,_=>clear bw bu;obtain rfl:=yP Z;have d8:(a.tmps[62]?.getD Θ)=.int .i64 rv:=Bc J 8;clear J Y;refine yO ?_;go_simp;exact A _ _ (by show yl .i64 (wX.wrap (rv - 1))=.int .i64 nr;rw[xJ _ ω,iZ.u]) (yN _ _)
   intro D E hR L
   have q1:(D 1)=.slice gi 12 ar:=Bh hR 1;have q2:(D 2)=.int .i64 rn:=Bh hR 2;have q9:(D 9)=.int .i64 nr:=Bh hR 9;clear hR;simp only[Ai,Ae,yL,yI,yJ,yH,q1,q2,q9];simp;clear q1 q2 q9;have SB:=AA (S4.below L);obtain⟨_,_,iS⟩:=SB.JR (f:=rn) (by show rn<(k.Zh).length;have:=A.len;omega);have Fr:=SB.fzi (rn*3+2);have S5:=SB.info (by show 12=(k.Zh).length;have:=A.len;omega) (f:=rn) (by show rn<(k.Zh).length;have:=A.len;omega) (-1)
   try simp only at S5 iS
   rw[hrv] at S5 iS;rw[show rv+ -1=nr by have:=iZ.u;omega] at S5;replace S5:=AA S5;generalize hW5:E.setCell _ _=W5 at S5;clear H N V R y0 y1 y2 y3 y4 y5 d2 L SB;go_wp2_with fail;go_meet
   case rel=>exact(by unfold GM;rw[if_pos ω,yq];exact S5.u)
  case rest=>
  have hX:=fD (o:=rt) A.u;generalize GM k.Zh rt=X at*;obtain⟨lk,ng⟩:=hX;have S5:=AA hcut;obtain⟨W5,rfl⟩:∃W5,W5=wc:=⟨_,rfl⟩
  clear hcut S4;obtain⟨y0,y1,y2,y3,y4,y5⟩:=S5.ys6;go_upto_if 68 with fail;clear y0 y1 y2 y3 y4 y5;go_cut [] (λE=>SC lo w.heap.size ⟨7,(en:Int),ra,b,c,nm⟩ w E (.slice am fk cm) (.slice gi 12 ar) (.slice ge 3 bl) (.slice ac nc cc) {k with Zh:=KY X ra})
  case first=>
   by_cases Z:ra<0
   .have t7:¬(0:Int)<=ra:=ω
    go_wp2_with fail;go_meet
    case rel=>exact(by unfold KY;rw[if_neg ω];exact S5.u)
   obtain⟨O,rfl⟩:∃n:Nat,ra=(n:Int):=⟨ra.toNat,ω⟩
   have cl:O<12:=by have:=Ha.2;omega
   have t7:(0:Int)<=(O:Int):=ω;clear Z;obtain⟨H,N,V,R⟩:=S5.xs;obtain⟨y0,y1,y2,y3,y4,y5⟩:=S5.ys6;obtain⟨bs,a7,_,_⟩:=S5.lts;have gs:=S5.zx;obtain⟨_,_,d2⟩:=S5.JR (f:=O) (by show O<(X).length;have:=A.len;omega)
   try simp only at d2
   have hd:=ng O cl;generalize hrv:(JR (X) O).r=rv at d2 hd;obtain⟨nr,hnr⟩:∃nr,rv+1=nr:=⟨_,rfl⟩
   have iZ:=AA hnr;clear hnr;have jQ:(O:Int)<12:=ω;go_wp2_with fail;refine Ac 12 98 [.p w.heap.size 1,.s gi 12 ar,.p (w.heap.size+1) 2,.i ((O:Int)),.p w.heap.size 1,.s gi 12 ar,.p (w.heap.size+1) 2,.i ((O:Int)),.p gi (O*3),.p gi (O*3+2),.i rv,.i nr] (λ_ _ _=>True) ?_ ?_
   .intro i hi o Z a E Y J L h2 A
    have bw:=bc L a7 N;have bu:=bc L bs y2;have bE:=bc L gs d2
    match i,hi with
    |0,_|2,_|4,_|6,_|9,_=>exact sP Z A Y J
    |1,_|5,_=>exact sL Z A Y J (hl:=Gt ‹_›)
    |3,_|7,_|10,_=>exact sL Z A Y J (hl:=GO ‹_›)
    |8,_=>exact sI Z A Y J (hr:=by clear J Y A;go_simp)
    |11,_=>clear bw bu bE;obtain rfl:=yP Z;have gk:(a.tmps[79]?.getD Θ)=.int .i64 rv:=Bc J 10;clear J Y;refine yO ?_;go_simp;exact A _ _ (by show yl .i64 (wX.wrap (rv+1))=.int .i64 nr;rw[xJ _ ω,iZ.u]) (yN _ _)
   intro D E hR L
   have q1:(D 1)=.slice gi 12 ar:=Bh hR 1;have q3:(D 3)=.int .i64 O:=Bh hR 3;have ij:(D 11)=.int .i64 nr:=Bh hR 11;clear hR;simp only[Ai,Ae,yL,yI,yJ,yH,q1,q3,ij];simp;clear q1 q3 ij;have SB:=AA (S5.below L);obtain⟨_,_,iS⟩:=SB.JR (f:=O) (by show O<(X).length;have:=A.len;omega);have Fr:=SB.fzi (O*3+2);have S6:=SB.info (by show 12=(X).length;have:=A.len;omega) (f:=O) (by show O<(X).length;have:=A.len;omega) (1)
   try simp only at S6 iS
   rw[hrv] at S6 iS;rw[show rv+1=nr by have:=iZ.u;omega] at S6;replace S6:=AA S6;generalize hW6:E.setCell _ _=W6 at S6;clear H N V R y0 y1 y2 y3 y4 y5 d2 L SB;go_wp2_with fail;go_meet
   case rel=>exact(by unfold KY;rw[if_pos ω,yq];exact S6.u)
  case rest=>
  have S6:=AA hcut;obtain⟨W6,rfl⟩:∃W6,W6=wc:=⟨_,rfl⟩
  clear hcut S5 ng;obtain⟨H,N,V,R⟩:=S6.xs;obtain⟨y0,y1,y2,y3,y4,y5⟩:=S6.ys6;obtain⟨_,_,D0,D1,_⟩:=S6.env (j:=en) (by show en<k.Xr.length;rw[A.zX];exact cC);have Fe:=S6.fze (en*2+1);have T1:=AA (S6.root A.zX.symm (by show en<k.Xr.length;rw[A.zX];exact cC) ra);generalize hW7:W6.setCell _ _=W7 at T1;have CD:=AA (λW (h:Do W (.slice ac nc cc) k.Xo)=>SZ (.slice ac nc cc) k.Xo (en:Int) W h (by have:=SQ A.u;omega));have kZ:=T1.xs.2.2.2;obtain⟨_,yo,_⟩:=T1.ys6;go_wp2_with fail;refine(CD _ T1.K.2.2.2).mono ?_;rintro r w8 ⟨v',rfl,hO,lj⟩;have T2:=AA (T1.Xo lj hO);have kN:=AI (T1.below lj).yS.1;have nU:=(T1.below lj).xs.2.2.2;clear H N V R y0 y1 y2 y3 y4 y5 kZ yo D0 D1 Fe hW7;obtain⟨a9,c9,e9,_,_⟩:=hO.rd.shape;generalize wV _=n9 at e9;subst e9;clear hO lj;generalize hW10:w8.setCell _ _=W10 at T2;obtain⟨⟨H,N,V,R⟩,⟨⟨z0,z1,z2,z3⟩,bA⟩,HE,HR⟩:=T2.fin av (v:=0) (code:=0) (a6.u);go_wp2_with ((try simp only[xS,Exit.then]);with_reducible refine yB ?_ rfl HR.u;obtain⟨E0,E1,E2,E3⟩:=HE.u;simp[results,tR,go_sem,E0,E1,E2,E3])
 have a6:=AA (HP.trans (if_pos (of_decide_eq_true HB.u)))
 clear HP HB;obtain⟨⟨H,N,V,R⟩,⟨⟨z0,z1,z2,z3⟩,bA⟩,HE,HR⟩:=S2.yR av (v:=0) (code:=3) (a6.u) ψ;go_wp2_with ((try simp only[xS,Exit.then]);with_reducible refine yB ?_ rfl HR.u;obtain⟨E0,E1,E2,E3⟩:=HE.u;simp[results,tR,go_sem,E0,E1,E2,E3])
theorem eG{s:ByteArray}(h1:BW ss=true)(K:BR s=true):IY ss s=if(decide (Pw ss s<ss.length)&&decide (Cw ss (Pw ss s)=s))=true then(ss,true) else if ss.length=6 then(ss,false) else(Cl ss (Pw ss s) s,true):=by
 unfold IY;rw[h1,K,<-eK h1]
 show BV ss s=_
 unfold BV;rw[cE];rfl
theorem QP{k:Nat}{s:ByteArray}:Cl ss k s=(ss.take k++[s])++ss.drop k:=by simp[Cl]
theorem PD{x:Φ}(h:w.heap[g]?=some (.cells #[x] T (0,0))):Rd w (.slice g 1 1) 1 1 [x]:=by
 have h0:=yy _ _ 0 _ _ _ h;refine⟨_,_,rfl,yF _,ζ,rfl,nofun,λ_=>⟨g,0,rfl,λj hj=>?_⟩⟩;rw[wT]
 match j,hj with
 |0,_=>exact h0
 |_+1,hj=>exact absurd hj ω
theorem Xa{a:Option Addr}{c:Nat}(h:BY w (.slice a ss.length c) ss)(a':Option Addr)(ha:a'=none->a=none):BY w (.slice a' 0 (c - ss.length)) (ss.drop ss.length):=by
 obtain⟨ao,c',hv,lf,f7,hl,hh,hc⟩:=h;simp only[xQ] at hv;obtain⟨rfl,_,rfl⟩:=hv;rw[List.drop_length];exact⟨_,_,rfl,yt _,ω,rfl,λh=>by have:=hh (ha h);omega,λh=>absurd h (Nat.lt_irrefl 0)⟩
theorem Me (v:Φ)(ss:List ByteArray)(s:ByteArray)(w:Ω)(h:BY w v ss)(hs:DQ ss)(hz:s.size<=maxLen):Ξ prog 173 #[v,.string s] w (dz w (IY ss s)):=by
 have C1:=AA (PC (H6 v ss w h hs));have C2:=AA (λW=>A4 (El s W hz));obtain⟨pa,c,rfl,hc,f7,x0⟩:=BK.open Fi ψ h;have HR:=AA (λW (hW:Γ w w W)=>BK.below h hW);have HH:=AA x0;unfold maxLen at f7;clear h hs hz x0;generalize hrv:BW ss=rv at C1;generalize hsv:BR s=sv at C2;have HV:=AA (yj hrv hsv);clear hrv hsv;cases rv
 .have P:=AA (show IY ss s=([],false) by unfold IY;rw[HV.1];rfl)
  go_in;go_wp2_with (refine C1.mono ?_;rintro r w1 ⟨rfl,b1⟩);go_ret2;exact⟨_,by rw[P.u];rfl,by rw[P.u];exact AQ.lower (Ci A0 _ _ _) b1.size,b1.alloc b1.size _⟩
 cases sv
 .have P:=AA (show IY ss s=([],false) by unfold IY;rw[HV.1,HV.2];rfl)
  go_in;go_wp2_with fail;refine C1.mono ?_;rintro r w1 ⟨rfl,b1⟩;go_wp2_with (refine(C2 _).mono ?_;rintro r w2 ⟨rfl,b2⟩;have b3:=b1.trans (b2.mono b1.size);clear b1 b2);go_ret2;exact⟨_,by rw[P.u];rfl,by rw[P.u];exact AQ.lower (Ci A0 _ _ _) b3.size,b3.alloc b3.size _⟩
 have p5:=(Ev.1 HV.1).2.2
 have HP:=AA (eG (ss:=ss) (s:=s) HV.1 HV.2);go_in;go_wp2_with fail;refine C1.mono ?_;rintro r w1 ⟨rfl,b1⟩;go_wp2_with fail;refine(C2 _).mono ?_;rintro r w2 ⟨rfl,b2⟩;have b3:=b1.trans (b2.mono b1.size);clear b1 b2 C1 C2;go_wp2_with fail;go_loopw [6] (λix wr=>∃k:Nat,k<=ss.length/\ix=.int .i64 k/\(∀j,j<k->OP (Cw ss j) s=true)/\Γ w w wr) (λix _=>ss.length - (intOf ix).toNat)
 exact⟨0,yt _,rfl,λj hj=>absurd hj (xV _),b3⟩
 obtain⟨k,hk,rfl,a0,z⟩:=hrel;have br:=AA a0;have HB:=AA z;clear a0 b3
 by_cases bf:k<ss.length
 .have cg:(k:Int)<(ss.length:Int):=ω
  obtain⟨b,a5,rfl,vs⟩:=(HH.below z).str bf;cases ht:Op.bytesLess (Cw ss k).toList s.toList
  .have ju:=AA (show Pw ss s=k from VX hk br (λ_=>ht))
   have Ht:=AA ht;clear z
   by_cases he:Cw ss k=s
   .have te:((Cw ss k).toList==s.toList)=true:=by rw[he];simp
    have P:=AA (show IY ss s=(ss,true) by rw[HP.u,ju.u,if_pos (by simp[bf,he])]);clear he HP;go_wp2_with (at_builtin;go_must (refine GN (cs:=A0) rfl rfl 9 (.string ⟨#[]⟩) 1 16 underlying79 Tryz.zT rfl ψ rfl (Ci A0 _ _ _) rfl (HR _ (HB.trans ((AJ _ _).mono HB.size))) (Ie _) ω ψ χ ?_;intro v' w9 hO b7));have HO:=AA hO;obtain⟨a9,c9,e9,_,_⟩:=hO.rd.shape;generalize wV _=n9 at e9;subst e9;have cr:=AA ((HB.trans ((AJ _ _).mono HB.size)).trans (b7.mono HB.size));clear hO b7;go_wp2;go_ret2;exact⟨_,by rw[P.u];rfl,by rw[P.u];exact HO.lower HB.size,cr.u⟩
   have te:((Cw ss k).toList==s.toList)=false:=by
    rw[beq_eq_false_iff_ne];exact λe=>he (ByteArray.ext (Array.toList_inj.mp (by rw[<-Lib.toList_data,<-Lib.toList_data];exact e)))
   have bC:=AA (show IY ss s=if ss.length=6 then(ss,false) else(Cl ss k s,true) by rw[HP.u,ju.u,if_neg (by simp[he])]);clear he HP
   by_cases h6:ss.length=6
   .have P:=AA (show IY ss s=(ss,false) by rw[bC.u,if_pos h6])
    have l8:(6:Int)<=(ss.length:Int):=ω;clear h6;go_wp2_with (at_builtin;go_must (refine GN (cs:=A0) rfl rfl 9 (.string ⟨#[]⟩) 1 16 underlying79 Tryz.zT rfl ψ rfl (Ci A0 _ _ _) rfl (HR _ (HB.trans ((AJ _ _).mono HB.size))) (Ie _) ω ψ χ ?_;intro v' w9 hO b7));have HO:=AA hO;obtain⟨a9,c9,e9,_,_⟩:=hO.rd.shape;generalize wV _=n9 at e9;subst e9;have cr:=AA ((HB.trans ((AJ _ _).mono HB.size)).trans (b7.mono HB.size));clear hO b7;go_wp2;go_ret2;exact⟨_,by rw[P.u];rfl,by rw[P.u];exact HO.lower HB.size,cr.u⟩
   have P:=AA (show IY ss s=(Cl ss k s,true) by rw[bC.u,if_neg h6])
   have l8:¬(6:Int)<=(ss.length:Int):=ω;have ov:k<=c:=ω;clear h6;go_wp2_with fail;refine Db 14 63 (λix=>ix==7||ix==11) [.z,.v (.slice (some ⟨b,a5,none⟩) ss.length c),.i ((k:Int)),.z,.z,.t s,.z,.z,.v (.slice (some ⟨b,a5,none⟩) ss.length c),.i ((k:Int)),.z,.z,.z,.b true] (λll ix vv ww=>match ix with
    |0=>(ll 4=false->L3 wr.heap.size 9 ww vv)
    |3=>(∀W',Γ wr wr W'->BY W' vv (ss.take k))
    |4=>(ll 7=false->AQ wr.heap.size 9 1 A0 ww vv (ss.take k))
    |6=>(ll 7=false->∃g,vv=.slice (some ⟨g,0,none⟩) 1 1/\ww.heap[g]?=some (.cells #[s] 9 (0,0)))
    |7=>(ll 11=false->AQ wr.heap.size 9 1 A0 ww vv (ss.take k++[s]))
    |10=>(∀W',Γ wr wr W'->BY W' vv (ss.drop k))
    |11|12=>AQ wr.heap.size 9 1 A0 ww vv (Cl ss k s)
    |_=>True) (λll ww=>Γ wr wr ww) ?_ ?_ ?_ ?_ ?_ ?_
   .exact Ap (yN _ _) 1
   .intro j hj ll i vv wz fp hi hS j7 nk bB hz
    match j,hj with
    |0,_=>exact(λhL=>L3.below (hz (Dm hL)) bB)
    |3,_|10,_=>exact hz
    |4,_|7,_=>exact(λhL=>AQ.below (hz (Dm hL)) bB)
    |6,_=>exact(λhL=>by obtain⟨g,h0,h1⟩:=hz (Dm hL);exact⟨g,h0,AB h1 bB⟩)
    |11,_|12,_=>exact(AQ.below hz bB)
    |1,_|2,_|5,_|8,_|9,_|13,_=>exact hz
   .intro ll i wz fp hi hS j7 bB hg
    exact hg.trans (bB.mono hg.size)
   .intro i hi hS o Z a E Y ll J HL L h2 A
    match i,hi,hS with
    |1,_,_|2,_,_|5,_,_|8,_,_|9,_,_|13,_,_=>exact Xn Z A Y J HL
    |7,_,hs|11,_,hs=>cases hs
    |0,_,_=>obtain rfl:=yP Z;clear J Y;refine yO ?_;go_simp;exact A _ _ (λ_=>⟨_,rfl,L.size,yx _ _⟩) (AJ _ _)
    |3,_,_=>obtain rfl:=yP Z;have d1:(a.tmps[52]?.getD Θ)=.slice (some ⟨b,a5,none⟩) ss.length c:=Dc J HL 1;have d2:(a.tmps[53]?.getD Θ)=.int .i64 k:=Dc J HL 2;clear J Y;refine yO ?_;go_simp;exact A _ _ (λW' hW=>VA (HR W' (HB.trans (hW.mono HB.size))) rfl ω) (yN _ _)
    |4,_,_=>obtain rfl:=yP Z;have d0:(ll 4=false->L3 wr.heap.size 9 E (a.tmps[51]?.getD Θ)):=Dc J HL 0;have d3:(∀W',Γ wr wr W'->BY W' (a.tmps[54]?.getD Θ) (ss.take k)):=Dc J HL 3;have u7:=Be HL 7;clear J Y;refine yO ?_;obtain⟨g_,iV,iU,iT⟩:=d0 HL.1;obtain⟨v7,w4,bP,r1,r2,_⟩:=EA (lo:=wr.heap.size) (w:=E) (t:=79) (ty:=79) 9 _ 1 16 underlying79 Tryz.zT rfl ψ iT iU (d3 _ L) (Ie _) (by rw[ym];omega);refine Cc rfl (Br iV) (Br rfl) bP ?_;exact A _ _ (λ_=>r1) r2
    |6,_,_=>obtain rfl:=yP Z;have d5:(a.tmps[56]?.getD Θ)=.string s:=Dc J HL 5;have u7:=Be HL 7;clear J Y;refine yO ?_;go_simp;exact A _ _ (λ_=>⟨_,rfl,yx _ _⟩) (AJ _ _)
    |10,_,_=>obtain rfl:=yP Z;have d8:(a.tmps[59]?.getD Θ)=.slice (some ⟨b,a5,none⟩) ss.length c:=Dc J HL 8;have d9:(a.tmps[60]?.getD Θ)=.int .i64 k:=Dc J HL 9;have i3:=Be HL 11;clear J Y;refine yO ?_;go_simp;rw[show(if c=k then some (⟨b,a5,none⟩:Addr) else some ⟨b,a5+k,none⟩)=some ⟨b,if c=k then a5 else a5+k,none⟩ by split<;>rfl];exact A _ _ (λW' hW=>bQ (HR W' (HB.trans (hW.mono HB.size))) rfl ω b _ (λh=>⟨rfl,if_neg ω⟩)) (yN _ _)
    |12,_,_=>obtain rfl:=yP Z;have jc:AQ wr.heap.size 9 1 A0 E (a.tmps[62]?.getD Θ) (Cl ss k s):=Dc J HL 11;have u7:ll 7=true:=HL.2.1 7 φ;have i3:ll 11=true:=HL.2.1 11 φ;clear J Y;refine yO ?_;go_simp;exact A _ _ jc (yN _ _)
   .intro i hi hS o Z a E Y ll J HL L h2 A
    match i,hi,hS with
    |0,_,hs|1,_,hs|2,_,hs|3,_,hs|4,_,hs|5,_,hs|6,_,hs|8,_,hs|9,_,hs|10,_,hs|12,_,hs|13,_,hs=>cases hs
    |7,_,_=>
     obtain rfl:=yP Z;have d4:(ll 7=false->AQ wr.heap.size 9 1 A0 E (a.tmps[55]?.getD Θ) (ss.take k)):=Dc J HL 4;have d6:(ll 7=false->∃g,(a.tmps[57]?.getD Θ)=.slice (some ⟨g,0,none⟩) 1 1/\E.heap[g]?=some (.cells #[s] 9 (0,0))):=Dc J HL 6;have i3:=Be HL 11;clear J Y;refine yO ?_;have D4:=d4 HL.1;obtain⟨g6,e6,B6⟩:=d6 HL.1;obtain⟨v7,w4,bP,r1,_,r3⟩:=Kn (lo:=wr.heap.size) (w:=E) (t:=79) 79 9 _ 1 16 underlying79 Tryz.zT rfl ψ D4 (PD B6) (by simp[xR]) (by rw[ym];unfold maxLen;omega) (by rw[ym];omega) L.size;refine Cc rfl (Br rfl) (Br e6) bP ?_;have jD:AQ wr.heap.size 9 1 A0 w4 v7 (ss.take k++[s]):=by unfold AQ;rw[Bq,Eo,yz];exact r1
     exact A _ _ (λ_=>jD) (L.trans r3) (λj f6 io ez hu=>match j,io with
      |1,_|2,_|3,_|5,_|8,_|9,_|10,_|13,_=>hu
      |0,_=>(λh=>absurd ((Dm h).symm.trans (HL.2.1 4 φ)) ψ)
      |4,_|6,_=>(λh=>absurd h (by rw[Gh];decide))
      |7,_=>absurd rfl f6
      |11,_=>absurd (i3.symm.trans ez) ψ
      |12,_=>absurd (i3.symm.trans (HL.2.2 12 11 ez φ)) ψ)
    |11,_,_=>
     obtain rfl:=yP Z;have d7:(ll 11=false->AQ wr.heap.size 9 1 A0 E (a.tmps[58]?.getD Θ) (ss.take k++[s])):=Dc J HL 7;have gk:(∀W',Γ wr wr W'->BY W' (a.tmps[61]?.getD Θ) (ss.drop k)):=Dc J HL 10;have u7:ll 7=true:=HL.2.1 7 φ;clear J Y;refine yO ?_;have D7:=d7 HL.1;obtain⟨v7,w4,bP,r1,_,r3⟩:=Kn (lo:=wr.heap.size) (w:=E) (t:=79) 79 9 _ 1 16 underlying79 Tryz.zT rfl ψ D7 (gk _ L) (Ie _) (by simp only[yz,ym,xh];unfold maxLen;simp;omega) (by simp only[yz,ym,xh];simp;omega) L.size;refine Cc rfl (Br rfl) (Br rfl) bP ?_;have jD:AQ wr.heap.size 9 1 A0 w4 v7 (Cl ss k s):=by unfold AQ;rw[QP,Bq,yz];exact r1
     exact A _ _ jD (L.trans r3) (λj f6 io ez hu=>match j,io with
      |1,_|2,_|3,_|5,_|8,_|9,_|10,_|13,_=>hu
      |0,_=>(λh=>absurd ((Dm h).symm.trans (HL.2.2 7 4 u7 φ)) ψ)
      |4,_|6,_=>(λh=>absurd ((Dm h).symm.trans (u7)) ψ)
      |7,_=>(λh=>absurd h (by rw[Gh];decide))
      |11,_=>absurd rfl f6
      |12,_=>absurd (HL.1.symm.trans (HL.2.2 12 11 ez φ)) ψ)
   intro D E ll df hR L
   have dg:AQ wr.heap.size 9 1 A0 E (D 12) (Cl ss k s):=Bh hR 12;have eL:(D 13)=.bool true:=Bh hR 13;clear hR;simp only[DV,Bo,yL,yI,yJ,yH,eL];simp;generalize D 12=z12 at dg ⊢;clear eL;have HO:=AA dg;have cr:=AA (HB.trans (L.mono HB.size));go_wp2;go_ret2;exact⟨_,by rw[P.u];rfl,by rw[P.u];exact HO.lower HB.size,cr.u⟩
  have Ht:=AA (show OP (Cw ss k) s=true from ht)
  go_wp2;go_roundw;exact⟨k+1,ω,ξ,Am br Ht.u,z⟩;simp[intOf];omega
 obtain rfl:k=ss.length:=ω;have ju:=AA (show Pw ss s=ss.length from VX hk br (λh=>absurd h ω));have bC:=AA (show IY ss s=if ss.length=6 then(ss,false) else(Cl ss ss.length s,true) by rw[HP.u,ju.u,if_neg χ]);clear HP
 by_cases h6:ss.length=6
 .have P:=AA (show IY ss s=(ss,false) by rw[bC.u,if_pos h6])
  have l8:(6:Int)<=(ss.length:Int):=ω;clear h6;go_wp2_with (at_builtin;go_must (refine GN (cs:=A0) rfl rfl 9 (.string ⟨#[]⟩) 1 16 underlying79 Tryz.zT rfl ψ rfl (Ci A0 _ _ _) rfl (HR _ (HB.trans ((AJ _ _).mono HB.size))) (Ie _) ω ψ χ ?_;intro v' w9 hO b7));have HO:=AA hO;obtain⟨a9,c9,e9,_,_⟩:=hO.rd.shape;generalize wV _=n9 at e9;subst e9;have cr:=AA ((HB.trans ((AJ _ _).mono HB.size)).trans (b7.mono HB.size));clear hO b7;go_wp2;go_ret2;exact⟨_,by rw[P.u];rfl,by rw[P.u];exact HO.lower HB.size,cr.u⟩
 have P:=AA (show IY ss s=(Cl ss ss.length s,true) by rw[bC.u,if_neg h6])
 have l8:¬(6:Int)<=(ss.length:Int):=ω;have ov:ss.length<=c:=ω;clear h6;go_wp2_with fail;refine Db 14 63 (λix=>ix==7||ix==11) [.z,.v (.slice pa ss.length c),.i ((ss.length:Int)),.z,.z,.t s,.z,.z,.v (.slice pa ss.length c),.i ((ss.length:Int)),.z,.z,.z,.b true] (λll ix vv ww=>match ix with
  |0=>(ll 4=false->L3 wr.heap.size 9 ww vv)
  |3=>(∀W',Γ wr wr W'->BY W' vv (ss.take ss.length))
  |4=>(ll 7=false->AQ wr.heap.size 9 1 A0 ww vv (ss.take ss.length))
  |6=>(ll 7=false->∃g,vv=.slice (some ⟨g,0,none⟩) 1 1/\ww.heap[g]?=some (.cells #[s] 9 (0,0)))
  |7=>(ll 11=false->AQ wr.heap.size 9 1 A0 ww vv (ss.take ss.length++[s]))
  |10=>(∀W',Γ wr wr W'->BY W' vv (ss.drop ss.length))
  |11|12=>AQ wr.heap.size 9 1 A0 ww vv (Cl ss ss.length s)
  |_=>True) (λll ww=>Γ wr wr ww) ?_ ?_ ?_ ?_ ?_ ?_
 .exact Ap (yN _ _) 1
 .intro j hj ll i vv wz fp hi hS j7 nk bB hz
  match j,hj with
  |0,_=>exact(λhL=>L3.below (hz (Dm hL)) bB)
  |3,_|10,_=>exact hz
  |4,_|7,_=>exact(λhL=>AQ.below (hz (Dm hL)) bB)
  |6,_=>exact(λhL=>by obtain⟨g,h0,h1⟩:=hz (Dm hL);exact⟨g,h0,AB h1 bB⟩)
  |11,_|12,_=>exact(AQ.below hz bB)
  |1,_|2,_|5,_|8,_|9,_|13,_=>exact hz
 .intro ll i wz fp hi hS j7 bB hg
  exact hg.trans (bB.mono hg.size)
 .intro i hi hS o Z a E Y ll J HL L h2 A
  match i,hi,hS with
  |1,_,_|2,_,_|5,_,_|8,_,_|9,_,_|13,_,_=>exact Xn Z A Y J HL
  |7,_,hs|11,_,hs=>cases hs
  |0,_,_=>obtain rfl:=yP Z;clear J Y;refine yO ?_;go_simp;exact A _ _ (λ_=>⟨_,rfl,L.size,yx _ _⟩) (AJ _ _)
  |3,_,_=>obtain rfl:=yP Z;have d1:(a.tmps[52]?.getD Θ)=.slice pa ss.length c:=Dc J HL 1;have d2:(a.tmps[53]?.getD Θ)=.int .i64 ((ss.length:Int)):=Dc J HL 2;clear J Y;refine yO ?_;go_simp;exact A _ _ (λW' hW=>VA (HR W' (HB.trans (hW.mono HB.size))) rfl ω) (yN _ _)
  |4,_,_=>obtain rfl:=yP Z;have d0:(ll 4=false->L3 wr.heap.size 9 E (a.tmps[51]?.getD Θ)):=Dc J HL 0;have d3:(∀W',Γ wr wr W'->BY W' (a.tmps[54]?.getD Θ) (ss.take ss.length)):=Dc J HL 3;have u7:=Be HL 7;clear J Y;refine yO ?_;obtain⟨g_,iV,iU,iT⟩:=d0 HL.1;obtain⟨v7,w4,bP,r1,r2,_⟩:=EA (lo:=wr.heap.size) (w:=E) (t:=79) (ty:=79) 9 _ 1 16 underlying79 Tryz.zT rfl ψ iT iU (d3 _ L) (Ie _) (by rw[ym];omega);refine Cc rfl (Br iV) (Br rfl) bP ?_;exact A _ _ (λ_=>r1) r2
  |6,_,_=>obtain rfl:=yP Z;have d5:(a.tmps[56]?.getD Θ)=.string s:=Dc J HL 5;have u7:=Be HL 7;clear J Y;refine yO ?_;go_simp;exact A _ _ (λ_=>⟨_,rfl,yx _ _⟩) (AJ _ _)
  |10,_,_=>
   obtain rfl:=yP Z;have d8:(a.tmps[59]?.getD Θ)=.slice pa ss.length c:=Dc J HL 8;have d9:(a.tmps[60]?.getD Θ)=.int .i64 ((ss.length:Int)):=Dc J HL 9;have i3:=Be HL 11;clear J Y;refine yO ?_;go_simp
   rcases pa with _|ad
   .go_simp
    exact A _ _ (λW' hW=>Xa (HR W' (HB.trans (hW.mono HB.size))) none (λ_=>rfl)) (yN _ _)
   go_simp
   exact A _ _ (λW' hW=>Xa (HR W' (HB.trans (hW.mono HB.size))) _ (λh=>by split at h<;>cases h)) (yN _ _)
  |12,_,_=>obtain rfl:=yP Z;have jc:AQ wr.heap.size 9 1 A0 E (a.tmps[62]?.getD Θ) (Cl ss ss.length s):=Dc J HL 11;have u7:ll 7=true:=HL.2.1 7 φ;have i3:ll 11=true:=HL.2.1 11 φ;clear J Y;refine yO ?_;go_simp;exact A _ _ jc (yN _ _)
 .intro i hi hS o Z a E Y ll J HL L h2 A
  match i,hi,hS with
  |0,_,hs|1,_,hs|2,_,hs|3,_,hs|4,_,hs|5,_,hs|6,_,hs|8,_,hs|9,_,hs|10,_,hs|12,_,hs|13,_,hs=>cases hs
  |7,_,_=>
   obtain rfl:=yP Z;have d4:(ll 7=false->AQ wr.heap.size 9 1 A0 E (a.tmps[55]?.getD Θ) (ss.take ss.length)):=Dc J HL 4;have d6:(ll 7=false->∃g,(a.tmps[57]?.getD Θ)=.slice (some ⟨g,0,none⟩) 1 1/\E.heap[g]?=some (.cells #[s] 9 (0,0))):=Dc J HL 6;have i3:=Be HL 11;clear J Y;refine yO ?_;have D4:=d4 HL.1;obtain⟨g6,e6,B6⟩:=d6 HL.1;obtain⟨v7,w4,bP,r1,_,r3⟩:=Kn (lo:=wr.heap.size) (w:=E) (t:=79) 79 9 _ 1 16 underlying79 Tryz.zT rfl ψ D4 (PD B6) (by simp[xR]) (by rw[ym];unfold maxLen;omega) (by rw[ym];omega) L.size;refine Cc rfl (Br rfl) (Br e6) bP ?_;have jD:AQ wr.heap.size 9 1 A0 w4 v7 (ss.take ss.length++[s]):=by unfold AQ;rw[Bq,Eo,yz];exact r1
   exact A _ _ (λ_=>jD) (L.trans r3) (λj f6 io ez hu=>match j,io with
    |1,_|2,_|3,_|5,_|8,_|9,_|10,_|13,_=>hu
    |0,_=>(λh=>absurd ((Dm h).symm.trans (HL.2.1 4 φ)) ψ)
    |4,_|6,_=>(λh=>absurd h (by rw[Gh];decide))
    |7,_=>absurd rfl f6
    |11,_=>absurd (i3.symm.trans ez) ψ
    |12,_=>absurd (i3.symm.trans (HL.2.2 12 11 ez φ)) ψ)
  |11,_,_=>
   obtain rfl:=yP Z;have d7:(ll 11=false->AQ wr.heap.size 9 1 A0 E (a.tmps[58]?.getD Θ) (ss.take ss.length++[s])):=Dc J HL 7;have gk:(∀W',Γ wr wr W'->BY W' (a.tmps[61]?.getD Θ) (ss.drop ss.length)):=Dc J HL 10;have u7:ll 7=true:=HL.2.1 7 φ;clear J Y;refine yO ?_;have D7:=d7 HL.1;obtain⟨v7,w4,bP,r1,_,r3⟩:=Kn (lo:=wr.heap.size) (w:=E) (t:=79) 79 9 _ 1 16 underlying79 Tryz.zT rfl ψ D7 (gk _ L) (Ie _) (by simp only[yz,ym,xh];unfold maxLen;simp;omega) (by simp only[yz,ym,xh];simp;omega) L.size;refine Cc rfl (Br rfl) (Br rfl) bP ?_;have jD:AQ wr.heap.size 9 1 A0 w4 v7 (Cl ss ss.length s):=by unfold AQ;rw[QP,Bq,yz];exact r1
   exact A _ _ jD (L.trans r3) (λj f6 io ez hu=>match j,io with
    |1,_|2,_|3,_|5,_|8,_|9,_|10,_|13,_=>hu
    |0,_=>(λh=>absurd ((Dm h).symm.trans (HL.2.2 7 4 u7 φ)) ψ)
    |4,_|6,_=>(λh=>absurd ((Dm h).symm.trans (u7)) ψ)
    |7,_=>(λh=>absurd h (by rw[Gh];decide))
    |11,_=>absurd rfl f6
    |12,_=>absurd (HL.1.symm.trans (HL.2.2 12 11 ez φ)) ψ)
 intro D E ll df hR L
 have dg:AQ wr.heap.size 9 1 A0 E (D 12) (Cl ss ss.length s):=Bh hR 12;have eL:(D 13)=.bool true:=Bh hR 13;clear hR;simp only[DV,Bo,yL,yI,yJ,yH,eL];simp;generalize D 12=z12 at dg ⊢;clear eL;have HO:=AA dg;have cr:=AA (HB.trans (L.mono HB.size));go_wp2;go_ret2;exact⟨_,by rw[P.u];rfl,by rw[P.u];exact HO.lower HB.size,cr.u⟩
theorem Em.Pj{cs:Array Φ}{ge:Nat}(h:Em T cs x3 lo g b0 w W m i (.slice ge n fm) c k)(hn:n=k.Xr.length)(z:Γ W W W')(hj:j<k.Xr.length){ss:List ByteArray}(hu:AQ W.heap.size 9 1 A0 W' u ss):
 Em T cs x3 lo g b0 w (W'.setCell (ge,j*2) u) m i (.slice ge n fm) c {k with Xr:=Ao k.Xr j (BT ss)}:=by
 have S:=h.yS.Pj hn h.lo z hj hu;have h':=h.below z;obtain⟨ps,o⟩:=h'.yS.2.2.2.2.1;obtain⟨c2,K⟩:=A7 o.1 ge rfl;exact⟨S.1,At h'.yU S.2.1 (Bz K h'.yU h.ty.2.2.1),AM h'.bel S.2.1 S.2.2 h'.lo,yM h'.lo S.2.1.size,h.ty,h'.kf.row S.2.1 K ψ,λb hr=>⟨(h.rs b hr).1,At (h'.rs b hr).2 S.2.1 (Bz K (h'.rs b hr).2 ψ)⟩⟩
theorem UB (h:Du lo w mv iv ev cv k)(av:lo<=w.heap.size)(hk:DZ k)(call:AT)(he:0<=call.e/\call.e<3)(K:call.k=8∨call.k=9)(g8:call.nm.size<=maxLen):
 Ξ prog 195 #[.agg #[mv,iv,ev,cv],.agg call.cs] w (L7 lo w (Ad k call)):=by
 have bK:=SC.start h av call;obtain⟨ge,bl,e9,_,_⟩:=bK.Xr (by rw[hk.zX];omega);rw[hk.zX] at e9;obtain⟨gi,ar,e8,_,_⟩:=bK.Zh (by rw[hk.len];omega);rw[hk.len] at e8;obtain⟨am,fk,cm,ai,ni,ci,ae,f5,ce,ac,nc,cc,em,ei,ee,ec⟩:=bK.Dq;subst e8 e9 em ec;clear ei ee;have S0:=AA bK;obtain⟨kk,e,ra,b,c,nm⟩:=call;simp only at he K g8;obtain⟨en,rfl⟩:∃n:Nat,e=(n:Int):=⟨e.toNat,ω⟩
 have cC:en<3:=ω;have jK:(en:Int)<3:=ω;simp only[AT.cs] at S0 ⊢;have A:=AA hk;have CR:=AA (λW=>A4 (El nm W g8));have HN:=AA g8;have CM:=AA (λW (h:Gr W (.slice ge 3 bl) k.Xr)=>KS (.slice am fk cm) (.slice gi 12 ar) (.slice ge 3 bl) (.slice ac nc cc) k en nm W h hk cC g8);obtain⟨H,N,V,R⟩:=S0.xs;obtain⟨y0,y1,y2,y3,y4,y5⟩:=S0.ys6;have HP:eh (Ad k ⟨kk,(en:Int),ra,b,c,nm⟩=if Bj ra 0 2=false∨BR nm=false∨(kk=9/\ra=(en:Int)) then(k,0,3)
  else if Cd (AH k.Xr en).Pj nm=false then(k,0,1)
  else if kk=8 then(if(BV (AH k.Xr ra.toNat).Pj nm).2=false then(k,0,4) else({k with Xr:=Ao k.Xr ra.toNat (BT (BV (AH k.Xr ra.toNat).Pj nm).1)},0,0))
  else(if BM k.Zh (Bg k.mem (AH k.Xr ra.toNat).root) (Bi (AH k.Xr ra.toNat).Pj nm)=false then(k,0,2) else({k with Xr:=Ao k.Xr ra.toNat (BT (Bi (AH k.Xr ra.toNat).Pj nm))},0,0))):=by
  refine ib ?_
  rcases K with rfl|rfl
  .rw[WX rfl]
   unfold Fx Ff;simp
  rw[VU rfl]
  unfold ER Ff;simp only[yq]
  by_cases a1:Bj ra 0 2=false<;>by_cases a2:BR nm=false<;>by_cases a3:ra=(en:Int)<;>simp[a1,a2,a3]
 have H2:=AA K;clear h bK he hk K g8;generalize hW0:((w.alloc _).alloc _).alloc _=W0 at*;cases e1:Bj ra 0 2
 .have a6:=AA (show Ad k ⟨kk,(en:Int),ra,b,c,nm⟩=(k,0,3) by rw[HP.u,if_pos (.inl e1)])
  have E1:=AA e1;clear e1 HP;go_in;go_wp2_with fail;refine(A4 (KE _ _)).mono ?_;rintro r w1 ⟨rfl,bX⟩;rw[E1.u];have S1:=AA (S0.below bX);clear H N V R y0 y1 y2 y3 y4 y5 bX hW0;obtain⟨⟨H,N,V,R⟩,⟨⟨z0,z1,z2,z3⟩,bA⟩,HE,HR⟩:=S1.yR av (v:=0) (code:=3) (a6.u) ψ;go_wp2_with ((try simp only[xS,Exit.then]);with_reducible refine yB ?_ rfl HR.u;obtain⟨E0,E1,E2,E3⟩:=HE.u;simp[results,wl,go_sem,E0,E1,E2,E3])
 have E1:=AA e1
 have ab:=Aa.1 e1;obtain⟨O,rfl⟩:∃n:Nat,ra=(n:Int):=⟨ra.toNat,ω⟩
 have cl:O<3:=ω;have iR:(O:Int)<3:=ω;generalize hrv:BR nm=rv at CR;have HV:=AA hrv;clear e1 ab hrv;cases rv
 .have a6:=AA (show Ad k ⟨kk,(en:Int),(O:Int),b,c,nm⟩=(k,0,3) by rw[HP.u,if_pos (.inr (.inl HV.u))])
  clear HP;go_in;go_wp2_with fail;refine(A4 (KE _ _)).mono ?_;rintro r w1 ⟨rfl,bX⟩;rw[E1.u];have S1:=AA (S0.below bX);clear H N V R y0 y1 y2 y3 y4 y5 bX hW0;obtain⟨y0,y1,y2,y3,y4,y5⟩:=S1.ys6;go_wp2_with fail;refine(CR _).mono ?_;rintro r w2 ⟨rfl,a4⟩;have S2:=AA (S1.below a4);clear y0 y1 y2 y3 y4 y5 a4;obtain⟨⟨H,N,V,R⟩,⟨⟨z0,z1,z2,z3⟩,bA⟩,HE,HR⟩:=S2.yR av (v:=0) (code:=3) (a6.u) ψ;go_wp2_with ((try simp only[xS,Exit.then]);with_reducible refine yB ?_ rfl HR.u;obtain⟨E0,E1,E2,E3⟩:=HE.u;simp[results,wl,go_sem,E0,E1,E2,E3])
 rcases H2.u with rfl|rfl
 .have bC:=AA (show Ad k ⟨8,(en:Int),(O:Int),b,c,nm⟩=if Cd (AH k.Xr en).Pj nm=false then(k,0,1) else if(BV (AH k.Xr O).Pj nm).2=false then(k,0,4) else({k with Xr:=Ao k.Xr O (BT (BV (AH k.Xr O).Pj nm).1)},0,0) by rw[HP.u,if_neg (by rintro(x|x|⟨x,_⟩);(· rw[E1.u] at x;cases x);(· rw[HV.u] at x;cases x);cases x)];rfl)
  clear HP;go_in;go_wp2_with fail;refine(A4 (KE _ _)).mono ?_;rintro r w1 ⟨rfl,bX⟩;rw[E1.u];have S1:=AA (S0.below bX);clear H N V R y0 y1 y2 y3 y4 y5 bX hW0;obtain⟨y0,y1,y2,y3,y4,y5⟩:=S1.ys6;go_wp2_with fail;refine(CR _).mono ?_;rintro r w2 ⟨rfl,a4⟩;have S2:=AA (S1.below a4);clear y0 y1 y2 y3 y4 y5 a4;obtain⟨y0,y1,y2,y3,y4,y5⟩:=S2.ys6;obtain⟨H,N,V,R⟩:=S2.xs;generalize hmb:Cd (AH k.Xr en).Pj nm=mb at CM bC;clear hmb;go_wp2_with fail;refine(CM _ S2.K.2.2.1).mono ?_;rintro r w4 ⟨rfl,hD⟩;have S4:=AA (S2.below hD);clear H N V R y0 y1 y2 y3 y4 y5 hD CM;cases mb
  .have a6:=AA (show Ad k ⟨8,(en:Int),(O:Int),b,c,nm⟩=(k,0,1) by rw[bC.u];rfl)
   obtain⟨⟨H,N,V,R⟩,⟨⟨z0,z1,z2,z3⟩,bA⟩,HE,HR⟩:=S4.yR av (v:=0) (code:=1) (a6.u) ψ;go_wp2_with ((try simp only[xS,Exit.then]);with_reducible refine yB ?_ rfl HR.u;obtain⟨E0,E1,E2,E3⟩:=HE.u;simp[results,wl,go_sem,E0,E1,E2,E3])
  skip
  obtain⟨H,N,V,R⟩:=S4.xs;obtain⟨y0,y1,y2,y3,y4,y5⟩:=S4.ys6;obtain⟨bs,a7,_,_⟩:=S4.lts;have iO:=S4.zg;obtain⟨ua,uc,D0,D1,x3⟩:=S4.env (j:=O) (by rw[A.zX];exact cl);have CP:=AA (λW (hW:Γ w4 w4 W)=>by have:=Me _ (AH k.Xr O).Pj nm W (BK.below x3 hW) (JL A cl) HN.u;rw[show IY (AH k.Xr O).Pj nm=BV (AH k.Xr O).Pj nm by unfold IY;rw[show BW (AH k.Xr O).Pj=true from A.Pj O cl,HV.u];rfl] at this;exact this);have a6:=AA (show Ad k ⟨8,(en:Int),(O:Int),b,c,nm⟩=if(BV (AH k.Xr O).Pj nm).2=false then(k,0,4) else({k with Xr:=Ao k.Xr O (BT (BV (AH k.Xr O).Pj nm).1)},0,0) by rw[bC.u];rfl);generalize BV (AH k.Xr O).Pj nm=res at CP a6;clear x3 bC;go_wp2_with fail;refine A9 14 102 [.p w.heap.size 2,.s ge 3 bl,.p (w.heap.size+1) 2,.i ((O:Int)),.p ge (O*2),.p ge (O*2),.v (.slice ua (AH k.Xr O).Pj.length uc),.p (w.heap.size+1) 5,.t nm,.z,.z,.z,.b (res.2),.z] (λix vv ww=>match ix with
   |9|10=>∃v',vv=.tuple #[v',res.2]/\AQ w4.heap.size 9 1 A0 ww v' res.1
   |11|13=>AQ w4.heap.size 9 1 A0 ww vv res.1
   |_=>True) ?_ ?_ ?_
  .intro i hi o Z a E Y J L h2 A
   match i,hi with
   |0,_|2,_|5,_|7,_=>exact sP Z A Y J
   |1,_=>exact sL Z A Y J (hl:=P6 (bc L a7 V))
   |3,_=>exact sL Z A Y J (hl:=GO (bc L bs y2))
   |4,_=>exact sI Z A Y J (hr:=by clear J Y A;go_simp)
   |6,_=>exact sL Z A Y J (hl:=Kt (bc L iO D0))
   |8,_=>exact sL Z A Y J (hl:=aM (bc L bs y5))
   |9,_=>exact sC Z A Y J (CP _ L) (by rintro e w_ ⟨v',rfl,hO,a4⟩;exact⟨_,rfl,⟨_,rfl,hO.lower L.size⟩,a4⟩)
   |10,_=>
    obtain rfl:=yP Z;have d9:∃v',(a.tmps[54]?.getD Θ)=.tuple #[v',res.2]/\AQ w4.heap.size 9 1 A0 E v' res.1:=Bc J 9
    clear J Y;refine yO ?_;go_simp;exact A _ _ d9 (yN _ _)
   |11,_=>
    obtain rfl:=yP Z;have gk:∃v',(a.tmps[44]?.getD Θ)=.tuple #[v',res.2]/\AQ w4.heap.size 9 1 A0 E v' res.1:=Bc J 10
    clear J Y;obtain⟨v',gk,hO⟩:=gk;refine yO ?_;go_simp;exact A _ _ hO (yN _ _)
   |12,_=>
    obtain rfl:=yP Z;have gk:∃v',(a.tmps[44]?.getD Θ)=.tuple #[v',res.2]/\AQ w4.heap.size 9 1 A0 E v' res.1:=Bc J 10
    clear J Y;obtain⟨v',gk,hO⟩:=gk;refine yO ?_;go_simp;exact A _ _ rfl (yN _ _)
   |13,_=>obtain rfl:=yP Z;have jc:AQ w4.heap.size 9 1 A0 E (a.tmps[55]?.getD Θ) res.1:=Bc J 11;clear J Y;refine yO ?_;go_simp;exact A _ _ jc (yN _ _)
  .intro i hi vv wz fp bB hz
   match i,hi with
   |9,_|10,_=>exact(by obtain⟨v',h0,h1⟩:=hz;exact⟨v',h0,AQ.below h1 bB⟩)
   |11,_|13,_=>exact(AQ.below hz bB)
   |0,_|1,_|2,_|3,_|4,_|5,_|6,_|7,_|8,_|12,_=>exact hz
  intro D E hR L
  have dg:(D 12)=.bool (res.2):=Bh hR 12;have eL:AQ w4.heap.size 9 1 A0 E (D 13) res.1:=Bh hR 13;clear hR;simp only[Ai,Ae,yL,yI,yJ,yH,dg];simp;generalize D 13=z13 at eL ⊢;clear dg;have S5:=AA (S4.below L);have HO:=AA eL;have ih:=AA L;obtain⟨a9,c9,e9,_,_⟩:=eL.rd.shape;generalize wV _=n9 at e9;subst e9;clear H N V R y0 y1 y2 y3 y4 y5 D0 D1 eL L;obtain⟨rs,rb⟩:=res;cases rb
  focus
   have fb:=AA (show Ad k ⟨8,(en:Int),(O:Int),b,c,nm⟩=(k,0,4) by rw[a6.u];rfl)
   obtain⟨⟨H,N,V,R⟩,⟨⟨z0,z1,z2,z3⟩,bA⟩,HE,HR⟩:=S5.yR av (v:=0) (code:=4) (fb.u) ψ
  rotate_left
  focus
   have fb:=AA (show Ad k ⟨8,(en:Int),(O:Int),b,c,nm⟩=({k with Xr:=Ao k.Xr O (BT rs)},0,0) by rw[a6.u];rfl)
   have T:=AA (S4.Pj A.zX.symm ih (j:=O) (by rw[A.zX];exact cl) HO.u);obtain⟨_,_,o9,_,_⟩:=S5.env (j:=O) (by rw[A.zX];exact cl);have Fe:=S5.fze (O*2);have nV:=S5.xs.2.2.1;obtain⟨_,_,yo,_⟩:=S5.ys6;generalize hW9:E.setCell _ _=W9 at T;obtain⟨⟨H,N,V,R⟩,⟨⟨z0,z1,z2,z3⟩,bA⟩,HE,HR⟩:=T.fin av (v:=0) (code:=0) (fb.u)
  rotate_left
  all_goals
   go_wp2_with ((try simp only[xS,Exit.then]);with_reducible refine yB ?_ rfl HR.u;obtain⟨E0,E1,E2,E3⟩:=HE.u;simp[results,wl,go_sem,E0,E1,E2,E3])
 by_cases ee:O=en
 .have a6:=AA (show Ad k ⟨9,(en:Int),(O:Int),b,c,nm⟩=(k,0,3) by rw[HP.u,if_pos (.inr (.inr ⟨rfl,by rw[ee]⟩))])
  have te:((O:Int)==(en:Int))=true:=by rw[ee];simp
  clear HP ee;go_in;go_wp2_with fail;refine(A4 (KE _ _)).mono ?_;rintro r w1 ⟨rfl,bX⟩;rw[E1.u];have S1:=AA (S0.below bX);clear H N V R y0 y1 y2 y3 y4 y5 bX hW0;obtain⟨y0,y1,y2,y3,y4,y5⟩:=S1.ys6;go_wp2_with fail;refine(CR _).mono ?_;rintro r w2 ⟨rfl,a4⟩;have S2:=AA (S1.below a4);clear y0 y1 y2 y3 y4 y5 a4;obtain⟨y0,y1,y2,y3,y4,y5⟩:=S2.ys6;obtain⟨⟨H,N,V,R⟩,⟨⟨z0,z1,z2,z3⟩,bA⟩,HE,HR⟩:=S2.yR av (v:=0) (code:=3) (a6.u) ψ;go_wp2_with ((try simp only[xS,Exit.then]);with_reducible refine yB ?_ rfl HR.u;obtain⟨E0,E1,E2,E3⟩:=HE.u;simp[results,wl,go_sem,E0,E1,E2,E3])
 have bC:=AA (show Ad k ⟨9,(en:Int),(O:Int),b,c,nm⟩=if Cd (AH k.Xr en).Pj nm=false then(k,0,1) else if BM k.Zh (Bg k.mem (AH k.Xr O).root) (Bi (AH k.Xr O).Pj nm)=false then(k,0,2) else({k with Xr:=Ao k.Xr O (BT (Bi (AH k.Xr O).Pj nm))},0,0) by rw[HP.u,if_neg (by rintro(x|x|⟨_,x⟩);(· rw[E1.u] at x;cases x);(· rw[HV.u] at x;cases x);exact ee ω)];rfl)
 have te:((O:Int)==(en:Int))=false:=η;clear HP ee;go_in;go_wp2_with fail;refine(A4 (KE _ _)).mono ?_;rintro r w1 ⟨rfl,bX⟩;rw[E1.u];have S1:=AA (S0.below bX);clear H N V R y0 y1 y2 y3 y4 y5 bX hW0;obtain⟨y0,y1,y2,y3,y4,y5⟩:=S1.ys6;go_wp2_with fail;refine(CR _).mono ?_;rintro r w2 ⟨rfl,a4⟩;have S2:=AA (S1.below a4);clear y0 y1 y2 y3 y4 y5 a4;obtain⟨y0,y1,y2,y3,y4,y5⟩:=S2.ys6;obtain⟨H,N,V,R⟩:=S2.xs;generalize hmb:Cd (AH k.Xr en).Pj nm=mb at CM bC;clear hmb;go_wp2_with fail;refine(CM _ S2.K.2.2.1).mono ?_;rintro r w4 ⟨rfl,hD⟩;have S4:=AA (S2.below hD);clear H N V R y0 y1 y2 y3 y4 y5 hD CM;cases mb
 .have a6:=AA (show Ad k ⟨9,(en:Int),(O:Int),b,c,nm⟩=(k,0,1) by rw[bC.u];rfl)
  obtain⟨⟨H,N,V,R⟩,⟨⟨z0,z1,z2,z3⟩,bA⟩,HE,HR⟩:=S4.yR av (v:=0) (code:=1) (a6.u) ψ;go_wp2_with ((try simp only[xS,Exit.then]);with_reducible refine yB ?_ rfl HR.u;obtain⟨E0,E1,E2,E3⟩:=HE.u;simp[results,wl,go_sem,E0,E1,E2,E3])
 skip
 obtain⟨H,N,V,R⟩:=S4.xs;obtain⟨y0,y1,y2,y3,y4,y5⟩:=S4.ys6;obtain⟨bs,a7,_,_⟩:=S4.lts;have iO:=S4.zg;obtain⟨ua,uc,D0,D1,x3⟩:=S4.env (j:=O) (by rw[A.zX];exact cl);have lK:=JL A cl;have CD:=AA (λW (hW:Γ w4 w4 W)=>Wx _ (AH k.Xr O).Pj nm W (BK.below x3 hW) lK HN (by have:(AH k.Xr O).Pj.length<=6:=(Ev.1 (A.Pj O cl)).2.2;omega));have a6:=AA (show Ad k ⟨9,(en:Int),(O:Int),b,c,nm⟩=if BM k.Zh (Bg k.mem (AH k.Xr O).root) (Bi (AH k.Xr O).Pj nm)=false then(k,0,2) else({k with Xr:=Ao k.Xr O (BT (Bi (AH k.Xr O).Pj nm))},0,0) by rw[bC.u];rfl);have lL:DQ (Bi (AH k.Xr O).Pj nm):=λs hs=>lK s (List.mem_filter.1 hs).1
 generalize Bi (AH k.Xr O).Pj nm=rs at CD a6 lL;have pj:=AA lL;clear x3 bC lK lL;go_wp2_with fail;refine Ac 9 102 [.p w.heap.size 2,.s ge 3 bl,.p (w.heap.size+1) 2,.i ((O:Int)),.p ge (O*2),.p ge (O*2),.v (.slice ua (AH k.Xr O).Pj.length uc),.p (w.heap.size+1) 5,.t nm] (λ_ _ _=>True) ?_ ?_
 .intro i hi o Z a E Y J L h2 A
  match i,hi with
  |0,_|2,_|5,_|7,_=>exact sP Z A Y J
  |1,_=>exact sL Z A Y J (hl:=P6 (bc L a7 V))
  |3,_=>exact sL Z A Y J (hl:=GO (bc L bs y2))
  |4,_=>exact sI Z A Y J (hr:=by clear J Y A;go_simp)
  |6,_=>exact sL Z A Y J (hl:=Kt (bc L iO D0))
  |8,_=>exact sL Z A Y J (hl:=aM (bc L bs y5))
 intro D E hR L
 have q6:(D 6)=.slice ua (AH k.Xr O).Pj.length uc:=Bh hR 6;have q8:(D 8)=.string nm:=Bh hR 8;clear hR;simp only[Ai,Ae,yL,yI,yJ,yH,q6,q8];simp;clear q6 q8;have ih:=AA L;clear H N V R y0 y1 y2 y3 y4 y5 D0 D1 L bs a7 iO;go_wp2_with fail;refine(CD _ ih.u).mono ?_;rintro r w5 ⟨v',rfl,hO,f8⟩;have jW:=AA (ih.trans (f8.mono ih.size));have S5:=AA (S4.below jW.u);have HO:=AA (hO.lower ih.size);obtain⟨a9,c9,e9,_,_⟩:=hO.rd.shape;have mt:=AA hO.rd;generalize wV _=n9 at e9;subst e9;clear hO f8 CD;obtain⟨H,N,V,R⟩:=S5.xs;obtain⟨y0,y1,y2,y3,y4,y5⟩:=S5.ys6;obtain⟨bs,a7,_,_⟩:=S5.lts;have iO:=S5.zg;obtain⟨_,_,D0,D1,_⟩:=S5.env (j:=O) (by rw[A.zX];exact cl);have cy:(AH k.Xr O).root<12:=by have:=zK A cl;omega
 have RM:=S5.K.1;have RI:=S5.K.2.1;have CX:=AA (λW (hW:Γ w5 w5 W)=>J6 _ k.mem (AH k.Xr O).root W (RM.below hW) (Aq A.u).1 cy);have CA:=AA (λW (hW:Γ w5 w5 W) v2 (K:A1 W v2 (A5 (FN k.mem (AH k.Xr O).root)))=>by have:=G0 _ v2 _ k.Zh (FN k.mem (AH k.Xr O).root) rs W (BK.below RI hW) K (BK.below mt hW) (λf hf=>by have:=zG cy f ((HZ cy f).1 hf);have:=A.len;omega) (Ca (Aq A.u).2.1) pj.u;rw[Fp (HZ cy)] at this;exact this);generalize hbb:BM k.Zh (Bg k.mem (AH k.Xr O).root) rs=bb at CA a6;clear hbb RM RI cy;go_wp2_with fail;refine A9 13 102 [.p w.heap.size 1,.s gi 12 ar,.p w.heap.size 0,.v (.slice am fk cm),.p w.heap.size 2,.s ge 3 bl,.p (w.heap.size+1) 2,.i ((O:Int)),.p ge (O*2),.p ge (O*2+1),.i ((AH k.Xr O).root),.z,.v (.slice a9 n9 c9)] (λix vv ww=>match ix with
  |11=>AE w5 ww vv (A5 (FN k.mem (AH k.Xr O).root))
  |_=>True) ?_ ?_ ?_
 .intro i hi o Z a E Y J L h2 A
  have bL:=bc L bs y2;have cT:=bc L iO D1
  match i,hi with
  |0,_|2,_|4,_|6,_|9,_|12,_=>exact sP Z A Y J
  |1,_=>exact sL Z A Y J (hl:=Gt (bc L a7 N))
  |3,_=>exact sL Z A Y J (hl:=GZ (bc L a7 H))
  |5,_=>exact sL Z A Y J (hl:=P6 (bc L a7 V))
  |7,_|10,_=>exact sL Z A Y J (hl:=GO ‹_›)
  |8,_=>exact sI Z A Y J (hr:=by clear J Y A;go_simp)
  |11,_=>exact sC Z A Y J (CX _ L) (by rintro e w_ ⟨v9,rfl,hO,a4⟩;exact⟨_,rfl,(Bb hO L.size),a4⟩)
 .intro i hi vv wz fp bB hz
  match i,hi with
  |11,_=>exact(AE.below hz bB)
  |0,_|1,_|2,_|3,_|4,_|5,_|6,_|7,_|8,_|9,_|10,_|12,_=>exact hz
 intro D E hR L
 have q1:(D 1)=.slice gi 12 ar:=Bh hR 1;have ij:AE w5 E (D 11) (A5 (FN k.mem (AH k.Xr O).root)):=Bh hR 11;have dg:(D 12)=.slice a9 n9 c9:=Bh hR 12;clear hR;simp only[Ai,Ae,yL,yI,yJ,yH,q1,dg];simp;generalize D 11=z11 at ij ⊢;clear q1 dg;have HQ:=AA ij.rd;obtain⟨a8,c8,e8,_⟩:=ij.rd.open;generalize wV _=n8 at e8;subst e8;have lr:=AA L;clear H N V R y0 y1 y2 y3 y4 y5 D0 D1 L bs a7 iO ij;go_wp2_with fail;refine(CA _ lr _ HQ.u).mono ?_;rintro r w7 ⟨rfl,jP⟩;have nG:=AA ((jW.trans (lr.mono jW.size)).trans (jP.mono (yM jW.size lr.size)));have S7:=AA (S4.below nG.u);have pu:=AA (AQ.below (AQ.below HO lr.u) jP);clear jP CA HQ;cases bb
 focus
  have fb:=AA (show Ad k ⟨9,(en:Int),(O:Int),b,c,nm⟩=(k,0,2) by rw[a6.u];rfl)
  obtain⟨⟨H,N,V,R⟩,⟨⟨z0,z1,z2,z3⟩,bA⟩,HE,HR⟩:=S7.yR av (v:=0) (code:=2) (fb.u) ψ
 rotate_left
 focus
  have fb:=AA (show Ad k ⟨9,(en:Int),(O:Int),b,c,nm⟩=({k with Xr:=Ao k.Xr O (BT rs)},0,0) by rw[a6.u];rfl)
  have T:=AA (S4.Pj A.zX.symm nG (j:=O) (by rw[A.zX];exact cl) pu.u);obtain⟨_,_,o9,_,_⟩:=S7.env (j:=O) (by rw[A.zX];exact cl);have Fe:=S7.fze (O*2);have nV:=S7.xs.2.2.1;obtain⟨_,_,yo,_⟩:=S7.ys6;generalize hW9:w7.setCell _ _=W9 at T;obtain⟨⟨H,N,V,R⟩,⟨⟨z0,z1,z2,z3⟩,bA⟩,HE,HR⟩:=T.fin av (v:=0) (code:=0) (fb.u)
 rotate_left
 all_goals
  go_wp2_with ((try simp only[xS,Exit.then]);with_reducible refine yB ?_ rfl HR.u;obtain⟨E0,E1,E2,E3⟩:=HE.u;simp[results,wl,go_sem,E0,E1,E2,E3])
theorem YV (h:Du lo w mv iv ev cv k)(av:lo<=w.heap.size)(hk:DZ k)(call:AT)(he:0<=call.e/\call.e<3)(K:call.k=10∨call.k=11):
 Ξ prog 196 #[.agg #[mv,iv,ev,cv],.agg call.cs] w (L7 lo w (Ad k call)):=by
 have bK:=SC.start h av call;have P0:=(Zq (k:=k) K).trans Zc;have b9:=(Aq hk).1;obtain⟨gm,bk,e7,_⟩:=Em.mems bK b9;obtain⟨ge,bl,e9,_,_⟩:=bK.Xr (by rw[hk.zX];omega);rw[hk.zX] at e9;obtain⟨am,fk,cm,ai,ni,ci,ae,f5,ce,ac,nc,cc,em,ei,ee,ec⟩:=bK.Dq;subst e7 e9 ei ec;clear em ee;have S0:=AA bK;obtain⟨kk,e,ra,b,c,nm⟩:=call;simp only at he K;obtain⟨en,rfl⟩:∃n:Nat,e=(n:Int):=⟨e.toNat,ω⟩
 have cC:en<3:=ω;have jK:(en:Int)<3:=ω;simp only[AT.cs,yq] at S0 P0 ⊢;obtain⟨H,N,V,R⟩:=S0.xs;obtain⟨y0,y1,y2,y3,y4,y5⟩:=S0.ys6;obtain⟨_,_,_,D1,_⟩:=S0.env (j:=en) (by rw[hk.zX];exact cC);obtain⟨rt,il⟩:∃r,(AH k.Xr en).root=r:=⟨_,rfl⟩
 rw[il] at P0 D1;have kt:=AA il;have HP:=AA P0;have A:=AA hk;have hH:=AA b9;obtain⟨bad,cF⟩:∃b',decide (Bj ra 0 63=false∨rt<0∨(kk=11/\Dx b=false))=b':=⟨_,rfl⟩
 have HB:=AA cF;clear h bK he hk P0 b9 il cF K;go_in;go_upto_region 2 with fail;clear D1;go_cut [37] (λn2 E=>n2=.bool bad/\SC lo w.heap.size ⟨kk,(en:Int),ra,b,c,nm⟩ w E (.slice gm 12 bk) (.slice ai ni ci) (.slice ge 3 bl) (.slice ac nc cc) k)
 case first=>
  go_wp2_with fail;refine(A4 (Fz _ _)).mono ?_;rintro r w1 ⟨rfl,bX⟩;have S1:=AA (S0.below bX);clear H N V R y0 y1 y2 y3 y4 y5 bX;obtain⟨y0,y1,y2,y3,y4,y5⟩:=S1.ys6;cases e1:Bj ra 0 63
  .have E1:=AA e1
   clear e1;go_wp2_with fail;go_meet
   case rel=>exact⟨by rw[<-HB.u];simp[E1.u],S1.u⟩
  have E1:=AA e1;clear e1
  by_cases h0:rt<0
  .have H0:=AA h0
   go_wp2_with fail;go_meet
   case rel=>exact⟨by rw[<-HB.u];simp[H0.u],S1.u⟩
  have H0:=AA h0;cases tk:(kk==11)
  .have TK:=AA (show kk≠11 by simpa using tk)
   go_wp2_with fail;go_meet
   case rel=>exact⟨by rw[<-HB.u];simp[E1.u,H0.u,TK.u],S1.u⟩
  have TK:=AA (show kk=11 by simpa using tk);go_wp2_with fail;refine(A4 (Cr _ _ _ _)).mono ?_;rintro r w2 ⟨rfl,a4⟩;have S2:=AA (S1.below a4);clear y0 y1 y2 y3 y4 y5 a4;go_wp2_with fail;go_meet
  case rel=>exact⟨by rw[<-HB.u];unfold Dx;cases hw:Bj b 0 9999<;>simp[E1.u,H0.u,TK.u,hw],S2.u⟩
 case rest=>
 obtain⟨rfl,hS⟩:=hcut;have S2:=AA hS;obtain⟨w2,rfl⟩:∃w2,w2=wc:=⟨_,rfl⟩
 clear H N V R y0 y1 y2 y3 y4 y5 hS S0;cases bad
 rotate_left
 .have a6:=AA (HP.trans (if_pos (of_decide_eq_true HB.u)))
  clear HP HB;obtain⟨⟨H,N,V,R⟩,⟨⟨z0,z1,z2,z3⟩,bA⟩,HE,HR⟩:=S2.yR av (v:=0) (code:=3) (a6.u) ψ;go_wp2_with ((try simp only[xS,Exit.then]);with_reducible refine yB ?_ rfl HR.u;obtain⟨E0,E1,E2,E3⟩:=HE.u;simp[results,vx,go_sem,E0,E1,E2,E3])
 have jk:=HP.trans (if_neg (of_decide_eq_false HB.u));have jy:=of_decide_eq_false HB.u;have ab:=Aa.1 (show Bj ra 0 63=true by cases e1:Bj ra 0 63;(· exact absurd (.inl e1) jy);(· rfl));obtain⟨O,rfl⟩:∃n:Nat,ra=(n:Int):=⟨ra.toNat,ω⟩
 have cl:O<64:=ω;obtain⟨rn,rfl⟩:∃n:Nat,rt=(n:Int):=⟨rt.toNat,by have:¬rt<0:=λx=>jy (.inr (.inl x));omega⟩
 have cy:rn<12:=by have:=zK A cC;rw[kt.u] at this;omega
 simp only[yq] at jk;have mw:=AA jk;clear jk HP HB jy ab;obtain⟨H,N,V,R⟩:=S2.xs;obtain⟨y0,y1,y2,y3,y4,y5⟩:=S2.ys6;have CF:=AA (Sa _ k.Xo (en:Int) ((O:Int)/4) w2 S2.K.2.2.2);go_wp2_with fail;refine CF.mono ?_;rintro r w3 ⟨rfl,b5⟩;have S3:=AA (S2.below b5);clear H N V R y0 y1 y2 y3 y4 y5 b5 CF;obtain⟨H,N,V,R⟩:=S3.xs;obtain⟨y0,y1,y2,y3,y4,y5⟩:=S3.ys6;have FC:=AA (λh=>YD (c:=k.Xo) (e:=(en:Int)) (p:=((O:Int)/4)) h);generalize hat:IG k.Xo (en:Int) ((O:Int)/4)=at_ at*;have nH:=AA hat;clear hat;go_upto_if 52 with fail;obtain⟨n5,f8⟩:=EU w3 (.cells #[θ,.int .i64 ((O:Int)%4),υ] 127);have pV:=S3.lts.2.1;have S5:=AA (S3.below f8);have kS:=AA S3.lo;have jW:=AA f8;have oS:=f8.size;clear H N V R y0 y1 y2 y3 y4 y5 f8;generalize hW5:w3.alloc _=W5 at*;generalize hqq:w3.heap.size=q at*;have pm:=AA hqq;clear hqq;have N5:=AA n5;clear n5 hW5;have pW:q≠w.heap.size:=ω;have oB:w.heap.size≠q:=ω;go_cut [10,11] (λk0 pN E=>∃(fr:Nat) (wb:Bool),fr<12/\CU k.mem rn O=(0,fr,wb)/\(SC lo w.heap.size ⟨kk,(en:Int),(O:Int),b,c,nm⟩ w E (.slice gm 12 bk) (.slice ai ni ci) (.slice ge 3 bl) (.slice ac nc cc) k)/\E.heap[q]?=some (.cells #[fr,.int .i64 ((O:Int)%4),wb] 127 (0,0)))
 case first=>
  obtain⟨H,N,V,R⟩:=S5.xs;obtain⟨y0,y1,y2,y3,y4,y5⟩:=S5.ys6;obtain⟨c0,c1,c2⟩:=Gw N5.u;have bA:=AI N5.u
  by_cases bf:at_<0
  .have CW:=AA (SY _ k.mem rn O W5 S5.K.1 hH cy cl)
   go_wp2_with fail;refine CW.mono ?_;rintro r w6 ⟨rfl,l4⟩;have S6:=AA (S5.below l4);have N6:=AA (AB N5 l4);clear H N V R y0 y1 y2 y3 y4 y5 c0 c1 c2 bA l4 CW;rw[show JC k.mem rn O=.tuple #[if(CU k.mem rn O).1=0 then Mb (CU k.mem rn O).2.1 O (CU k.mem rn O).2.2 else FW,.int .i64 (CU k.mem rn O).1] from rfl];have pg:=AA (λfr wb (h:CU k.mem rn O=(0,fr,wb))=>ZC h);generalize jj:CU k.mem rn O=res at*;clear jj;obtain⟨cd,fr,wb⟩:=res
   by_cases li:cd=0
   .subst li
    have h8:=pg fr wb rfl;rw[if_pos rfl];unfold Mb;rw[(ω:((O%4:Nat):Int)=(O:Int)%4)];have B7:=AJ w6 (.cells #[fr,.int .i64 ((O:Int)%4),wb] 127);obtain⟨T8,n8⟩:=(S6.below B7).place ψ (AB N6 B7) (yM kS (yF _)) (.int .i64 fr) (.int .i64 ((O:Int)%4)) (.bool wb);have T8:=AA T8;have N8:=AA n8;obtain⟨c0,c1,c2⟩:=Gw (AB N6 B7);have bA:=AI (AB N6 B7);have oo:q≠w6.heap.size:=by have:=AU N6.u;omega
    have om:w6.heap.size≠q:=λe=>oo e.symm
    clear B7 n8;go_wp2_with fail;go_meet
    case rel=>exact⟨fr,wb,h8,rfl,T8.u,N8.u⟩
   rw[if_neg li]
   unfold FW;have B7:=AJ w6 (.cells #[θ,θ,υ] 127);have S7:=AA (S6.below B7);have oN:(cd !=0)=true:=by simp[li]
   have a6:=AA (mw.trans (if_pos li));clear B7;obtain⟨⟨H,N,V,R⟩,⟨⟨z0,z1,z2,z3⟩,bA⟩,HE,HR⟩:=S7.yR av (v:=0) (code:=3) (a6.u) ψ;go_wp2_with ((try simp only[xS,Exit.then]);with_reducible refine yB ?_ rfl HR.u;obtain⟨E0,E1,E2,E3⟩:=HE.u;simp[results,vx,go_sem,E0,E1,E2,E3])
  obtain⟨j,hj,ej,hs⟩:=FC ω;rw[(ω:(O:Int)/4=((O/4:Nat):Int))] at hs;obtain⟨fr,h8,lX,jj⟩:=WW A hj hs rfl;generalize(AV k.Xo j).w=wb at lX jj;obtain⟨a8,c8,e8,_,_,H8⟩:=BK.open Cj ψ S3.K.2.2.2;cases e8;obtain⟨bc,kj,rfl,l3,D0,D1,D2,D3⟩:=H8.zV hj;rw[lX] at D2 D3;rw[pm.u] at l3;simp only at D2 D3;have nP:=(jW.cell (p:=⟨bc,kj+j*4+2,none⟩) l3).trans D2;have nO:=(jW.cell (p:=⟨bc,kj+j*4+3,none⟩) l3).trans D3;obtain⟨T8,n8⟩:=S5.place2 ψ N5 (yM kS (yF _)) (.int .i64 fr) (.bool wb);have T8:=AA T8;have N8:=AA n8;have f6:(j:Int)<k.Xo.length:=ω;have oR:bc≠q:=ω;have ol:q≠bc:=ω;rw[kt.u] at jj;rw[yq] at jj;subst ej;clear hs lX D0 D1 D2 D3 n8 H8;go_wp2_with fail;go_meet
  case rel=>exact⟨fr,wb,h8,jj,T8.u,N8.u⟩
 case rest=>
  obtain⟨fr,wb,h8,jj,s8,n8⟩:=hcut;generalize wc=w8 at*;have S8:=AA s8;have N8:=AA n8;have jk:=mw.u;rw[jj,if_neg χ,(ω:((O:Int)%4).toNat=O%4)] at jk;simp only at jk;clear s8 n8 mw jj;obtain⟨H,N,V,R⟩:=S8.xs;obtain⟨y0,y1,y2,y3,y4,y5⟩:=S8.ys6;obtain⟨p0,p1,p2⟩:=Gw N8.u;go_upto_region 13 with fail;go_cut [87] (λnY E=>nY=.bool ((kk==11)&&!wb)/\E=w8)
  case first=>
   cases tk:(kk==11)
   all_goals
    go_wp2_with fail;go_meet
    case rel=>exact⟨by rw[tk];rfl,rfl⟩
  case rest=>
  obtain⟨rfl,rfl⟩:=hcut;obtain⟨w8,rfl⟩:∃w8,w8=wc:=⟨_,rfl⟩
  cases a4:((kk==11)&&!wb)
  rotate_left
  .have a6:=AA (jk.trans (if_pos (by simpa using a4)))
   obtain⟨⟨H,N,V,R⟩,⟨⟨z0,z1,z2,z3⟩,bA⟩,HE,HR⟩:=S8.yR av (v:=0) (code:=1) (a6.u) ψ;go_wp2_with ((try simp only[xS,Exit.then]);with_reducible refine yB ?_ rfl HR.u;obtain⟨E0,E1,E2,E3⟩:=HE.u;simp[results,vx,go_sem,E0,E1,E2,E3])
  have a6:=AA (jk.trans (if_neg (by simpa using a4)));clear jk a4;go_upto_if 90 with fail;clear H N V R y0 y1 y2 y3 y4 y5 p0 p1 p2;go_cut [] (λE=>∃cv,(SC lo w.heap.size ⟨kk,(en:Int),(O:Int),b,c,nm⟩ w E (.slice gm 12 bk) (.slice ai ni ci) (.slice ge 3 bl) cv {k with Xo:=Kp k.Xo (en:Int) ((O:Int)/4) fr wb})/\E.heap[q]?=some (.cells #[fr,.int .i64 ((O:Int)%4),wb] 127 (0,0)))
  case first=>
   by_cases bf:at_<0
   .obtain⟨H,N,V,R⟩:=S8.xs
    obtain⟨y0,y1,y2,y3,y4,y5⟩:=S8.ys6;obtain⟨p0,p1,p2⟩:=Gw N8.u;have CP:=AA (Uk _ k.Xo ⟨(en:Int),(O:Int)/4,(fr:Int),wb⟩ w8 S8.K.2.2.2 (SQ A.u));go_wp2_with fail;refine CP.mono ?_;rintro r w9 ⟨v',rfl,hO,b7⟩;have T9:=AA (S8.Xo b7 hO);have N9:=AA (show(w9.setCell (w,3) v').heap[q]?=_ from At (AB N8 b7) (Ak w9 w.heap.size 3 v') oB);have hU:=AA (show Kp k.Xo (en:Int) ((O:Int)/4) fr wb=Ju k.Xo ⟨(en:Int),(O:Int)/4,(fr:Int),wb⟩ by unfold Kp;rw[nH.u,if_pos bf]);have kN:=AI (S8.below b7).yS.1;have kZ:=(S8.below b7).xs.2.2.2;clear H N V R y0 y1 y2 y3 y4 y5 p0 p1 p2 CP;obtain⟨a9,c9,e9,_,_⟩:=hO.rd.shape;generalize wV _=n9 at e9;subst e9;clear hO b7;go_wp2_with fail;go_meet
    case rel=>exact⟨_,by rw[hU.u];exact T9.u,N9.u⟩
   have hU:=AA (show Kp k.Xo (en:Int) ((O:Int)/4) fr wb=k.Xo by unfold Kp;rw[nH.u,if_neg ω])
   go_wp2_with fail;go_meet
   case rel=>exact⟨_,by rw[hU.u];exact S8.u,N8.u⟩
  case rest=>
   obtain⟨cv,k0,mV⟩:=hcut;generalize wc=gp at*;have iz:=AA k0;have lq:=AA mV;obtain⟨j8,c9,e9,_,_⟩:=(k0.K.2.2.2).shape;generalize wV _=nc9 at e9;subst e9;generalize c9=cc9 at*;clear k0 mV S8 N8;obtain⟨H,N,V,R⟩:=iz.xs;obtain⟨y0,y1,y2,y3,y4,y5⟩:=iz.ys6;obtain⟨p0,p1,p2⟩:=Gw lq.u;obtain⟨bs,a7,_,_⟩:=iz.lts;have kA:=AU lq.u;cases tk:(kk==11)
   .have jY:=AA tk
    obtain⟨gw,cN,vs,jA,jL,hC,_,_,_,i6,_⟩:=Em.mrow iz hH h8;have h7:gm<gp.heap.size:=yK _ _ vs;have kG:(fr:Int)<12:=ω;have l9:(O:Int)%4<4:=ω;have Dw:=hC (O%4) ω;obtain⟨oq,iy⟩:=iz.rs _ (xD.2 rfl);have oa:gw≠w.heap.size+2:=i6 _ _ _ iy ψ;clear i6;have mU:q≠w.heap.size+2:=λe=>by rw[e] at lq;rw[lq.u] at iy;simp at iy
    have ob:gm≠w.heap.size+2:=λe=>by obtain⟨D,o⟩:=iz.yS.2.2.1;obtain⟨cu,oL⟩:=A7 o.1 gm rfl;exact Bz oL iy ψ e
    have fb:=a6.trans (if_neg (by simpa using jY.u));generalize Aw k.mem fr (O%4)=wd at Dw fb;have fb:=AA fb;obtain⟨⟨z0,z1,z2,z3⟩,bA⟩:=iz.zs;go_wp2_with fail;refine Db 14 131 (λix=>ix==11) [.a #[.slice gm 12 bk,.slice ai ni ci,.slice ge 3 bl,.slice j8 nc9 cc9],.p w.heap.size 0,.s gm 12 bk,.p q 0,.i ((fr:Int)),.p gm fr,.s gw 4 cN,.p q 1,.i (((O:Int)%4)),.p gw (O%4),.i wd,.z,.i wd,.i 0] (λll ix vv ww=>match ix with
     |_=>True) (λll ww=>GA gp (w.heap.size+2) (.slice gm 12 bk) (.slice ai ni ci) (.slice ge 3 bl) (.slice j8 nc9 cc9) (ll 11) ww) ?_ ?_ ?_ ?_ ?_ ?_
    .exact Ap (yN _ _) 1
    .exact λ_ _ _ _ _ _ _ _ _ _ _ _ h=>h
    .intro ll i wz fp hi hS j7 bB hg
     show GA _ _ _ _ _ _ (Hz ll i 11) _
     rw[Fg (by rintro rfl;cases hS)];exact GA.grow hg bB
    .intro i hi hS o Z a E Y ll J HL L h2 A
     match i,hi,hS with
     |0,_,_=>have i3:=Be HL 11;have bw:=(show E.cell? w=some (.slice gm 12 bk) from(GA.cell L a7 χ).trans H);have bu:=(show E.cell? (w,1)=some (.slice ai ni ci) from(GA.cell L a7 χ).trans N);have bE:=(show E.cell? (w,2)=some (.slice ge 3 bl) from(GA.cell L a7 χ).trans V);have bL:=(show E.cell? (w,3)=some (.slice j8 nc9 cc9) from(GA.cell L a7 χ).trans R);exact Lb Z A Y J HL (hl:=P7 ‹_› ‹_› ‹_› ‹_›)
     |1,_,_|3,_,_|7,_,_|12,_,_|13,_,_=>exact Xn Z A Y J HL
     |2,_,_=>have bw:=(show E.cell? w=some (.slice gm 12 bk) from(GA.cell L a7 χ).trans H);exact Lb Z A Y J HL (hl:=GZ ‹_›)
     |4,_,_=>have cT:=(show E.cell? q=some (.int .i64 fr) from(GA.cell L kA mU).trans p0);exact Lb Z A Y J HL (hl:=GO ‹_›)
     |6,_,_=>have fl:=(show E.cell? (gm,fr)=some (.slice gw 4 cN) from(GA.cell L h7 ob).trans vs);exact Lb Z A Y J HL (hl:=K5 ‹_›)
     |8,_,_=>have jE:=(show E.cell? (q,1)=some (.int .i64 (((O:Int)%4))) from(GA.cell L kA mU).trans p1);exact Lb Z A Y J HL (hl:=GO ‹_›)
     |10,_,_=>have kl:=(show E.cell? (gw,O%4)=some (.int .i64 wd) from(GA.cell L jA oa).trans Dw);exact Lb Z A Y J HL (hl:=GO ‹_›)
     |11,_,hs=>cases hs
     |5,_,_=>obtain rfl:=yP Z;have d2:(a.tmps[122]?.getD Θ)=.slice gm 12 bk:=Dc J HL 2;have d4:(a.tmps[124]?.getD Θ)=.int .i64 fr:=Dc J HL 4;clear J Y;refine yO ?_;go_simp;exact A _ _ rfl (yN _ _)
     |9,_,_=>obtain rfl:=yP Z;have d6:(a.tmps[126]?.getD Θ)=.slice gw 4 cN:=Dc J HL 6;have d8:(a.tmps[128]?.getD Θ)=.int .i64 (((O:Int)%4)):=Dc J HL 8;clear J Y;refine yO ?_;go_simp;exact A _ _ rfl (yN _ _)
    .intro i hi hS o Z a E Y ll J HL L h2 A
     match i,hi,hS with
     |0,_,hs|1,_,hs|2,_,hs|3,_,hs|4,_,hs|5,_,hs|6,_,hs|7,_,hs|8,_,hs|9,_,hs|10,_,hs|12,_,hs|13,_,hs=>cases hs
     |11,_,_=>
      obtain rfl:=yP Z;have e4:a.tmps[4]?.getD Θ=.pointer (some ⟨w.heap.size+2,0,none⟩):=eg (No Y 4);have d0:(a.tmps[120]?.getD Θ)=.agg #[.slice gm 12 bk,.slice ai ni ci,.slice ge 3 bl,.slice j8 nc9 cc9]:=Dc J HL 0;clear J Y;rw[HL.1] at L;replace L:Γ gp gp E:=L;have B2:=AB iy L;obtain⟨c0,c1,c2,c3⟩:=AG B2;have p9:=AI B2;refine yO ?_;go_simp;exact A Θ _ trivial (by show GA _ _ _ _ _ _ (Hz ll 11 11) _;rw[Gh];exact⟨E,L,yN _ _⟩) (λj f6 io ez hu=>match j,io with
       |0,_|1,_|2,_|3,_|4,_|5,_|6,_|7,_|8,_|9,_|10,_|12,_|13,_=>hu
       |11,_=>absurd rfl f6)
    intro D E ll df hR L
    have dg:(D 12)=.int .i64 wd:=Bh hR 12;have eL:(D 13)=.int .i64 0:=Bh hR 13;clear hR;simp only[DV,Bo,yL,yI,yJ,yH,dg,eL];simp;clear dg eL;rw[df 11 ψ] at L;obtain⟨wz,h1,K⟩:=L;have md:Γ (Fs wz (w.heap.size+2) (.slice gm 12 bk) (.slice ai ni ci) (.slice ge 3 bl) (.slice j8 nc9 cc9)).heap.size (Fs wz (w.heap.size+2) (.slice gm 12 bk) (.slice ai ni ci) (.slice ge 3 bl) (.slice j8 nc9 cc9)) E:=by simpa[Fs] using K
    obtain⟨ja,kU⟩:=(iz.below h1).ret (yM av (wG _ _)) (wG _ _) (v:=wd) (code:=0) fb.u;obtain⟨E0,E1,E2,E3⟩:=AG (AB ja md);have HR:=AA (kU.below (by have:=(iz.below h1).lo;simpa using this) md);have HE:=AA (yj E0 (yj E1 (yj E2 E3)));clear H N V R y0 y1 y2 y3 y4 y5 p0 p1 p2 z0 z1 z2 z3 bA vs Dw E0 E1 E2 E3 ja kU h1 K md iy;go_wp2_with fail;exact yB (v:=.tuple #[.agg #[_,_,_,_],wd,θ]) (by simp[results,vx,go_sem,HE.u]) rfl HR.u
   have jY:=AA tk
   obtain⟨gw,cN,vs,jA,jL,_⟩:=Em.mrow iz hH h8;have h7:gm<gp.heap.size:=yK _ _ vs;have kG:(fr:Int)<12:=ω;have l9:(O:Int)%4<4:=ω;have fb:=AA (a6.trans (if_pos (by simpa using jY.u)));go_wp2_with fail;refine Ac 10 131 [.p w.heap.size 0,.s gm 12 bk,.p q 0,.i ((fr:Int)),.p gm fr,.s gw 4 cN,.p q 1,.i (((O:Int)%4)),.p (w.heap.size+1) 3,.i b] (λ_ _ _=>True) ?_ ?_
   .intro i hi o Z a E Y J L h2 A
    have bu:=bc L kA p0;have bL:=bc L kA p1;have cT:=bc L bs y3
    match i,hi with
    |0,_|2,_|6,_|8,_=>exact sP Z A Y J
    |1,_=>exact sL Z A Y J (hl:=GZ (bc L a7 H))
    |3,_|7,_|9,_=>exact sL Z A Y J (hl:=GO ‹_›)
    |4,_=>exact sI Z A Y J (hr:=by clear J Y A;go_simp)
    |5,_=>exact sL Z A Y J (hl:=K5 (bc L h7 vs))
   intro D E hR L
   have q5:(D 5)=.slice gw 4 cN:=Bh hR 5;have q7:(D 7)=.int .i64 (((O:Int)%4)):=Bh hR 7;have q9:(D 9)=.int .i64 b:=Bh hR 9;clear hR;simp only[Ai,Ae,yL,yI,yJ,yH,q5,q7,q9];simp;clear q5 q7 q9;have iX:=AA (iz.below L);obtain⟨me,iW,D2,_,_,hC,Fr,_,_,od,hS⟩:=Em.mrow iX hH h8;clear od;have eD:=D2.symm.trans ((L.cell (p:=⟨gm,fr,none⟩) h7).trans vs);cases eD;have D3:=hC (O%4) ω;have jd:=AA (hS (O%4) b ω);generalize hW9:E.setCell _ _=W9 at jd;clear H N V R y0 y1 y2 y3 y4 y5 p0 p1 p2 vs D2 hS L iz hC kG l9 jA jL h7 bs a7 kA;obtain⟨⟨H,N,V,R⟩,⟨⟨z0,z1,z2,z3⟩,bA⟩,HE,HR⟩:=jd.fin av (v:=0) (code:=0) (fb.u);go_wp2_with ((try simp only[xS,Exit.then]);with_reducible refine yB ?_ rfl HR.u;obtain⟨E0,E1,E2,E3⟩:=HE.u;simp[results,vx,go_sem,E0,E1,E2,E3])
def fG(w w':Ω):Prop:=∀(b:Nat)(cu:Array Φ),w.heap[b]?=some (.cells cu 28 (0,0))->w'.heap[b]?=w.heap[b]?
theorem L7.up{cs:Array Φ}{W1:Ω}{m' i' e' c':Φ}(h:Em T cs [b] lo w.heap.size b0 w W m i e c k)(av:lo<=b)(kE:w.heap.size<=b)
 (hs:gx m' i' e' c')(hK:res.2.2=0->Du lo W1 m' i' e' c' res.1)(z:Γ lo W W1)(hf:fG W W1):
 W1.heap[b]?=some (.cells #[ι,ι,ι,ι] 28 (0,0))/\
 ((((W1.setCell b m').setCell (b,1) i').setCell (b,2) e').setCell (b,3) c').heap[b]?=some (.cells #[m',i',e',c'] 28 (0,0))/\
 L7 lo w res (.returned (.tuple #[.agg #[m',i',e',c'],res.2.1,res.2.2])) ((((W1.setCell b m').setCell (b,1) i').setCell (b,2) e').setCell (b,3) c'):=by
 obtain⟨i6,nn⟩:=h.rs b (xD.2 rfl);have hB:=(hf b _ nn).trans nn;have bD:=As (As (As (Ak W1 b 0 m') 1 i') 2 e') 3 c';refine⟨hB,DF hB,m',i',e',c',rfl,hs,λhc=>?_,((((h.bel.trans z).setCell av _).setCell av _).setCell av _).setCell av _,λq cu hq=>?_⟩
 .obtain⟨⟨D,o1⟩,o2,⟨ps,o3⟩,o4⟩:=hK hc
  exact⟨⟨D,o1.yV bD hB⟩,o2.yV bD hB,⟨ps,o3.yV bD hB⟩,o4.yV bD hB⟩
 have e1:=(h.kf q cu (by have:=AU hq;omega) hq).trans hq
 have e2:=(hf q cu e1).trans e1;exact(At e2 bD (by have:=AU hq;omega)).trans hq.symm
theorem Rw (x:Int):∃(fn:Nat) (wr:Bool),VY x=.tuple #[fn,wr,.bool (Bv x)]/\fn<12/\(Bv x=true->fn=BP x):=by
 cases h:Bv x
 .exact⟨0,false,Et h,ψ,λh=>by cases h⟩
 exact⟨BP x,LZ x,En h,Ef h,λ_=>rfl⟩
theorem WP{a e:Nat}(h:e∈Gi k a):e<3:=by rw[<-Jk] at h;exact ZA h
theorem bW{a:Nat}:(Gi k a).length<=3:=by rw[<-Jk];exact Mm
theorem cX{c:AT}(h:EN k c=true)(ht:Bp (JR k.Zh c.a.toNat).k=true):Bv c.c=true->(JR k.Zh (BP c.c)).k≠3:=by intro hg;unfold EN at h;rw[if_pos hg,decide_eq_true_eq] at h;simp only[Bp,xM,decide_eq_true_eq] at ht;omega
theorem TJ{n:Int}(h:Bv x=false):BD Zh x n=Zh:=by unfold BD;rw[if_neg (by rw[h];decide)]
theorem U2{n:Int}(h:Bv x=true)(hf:f=BP x):BD Zh x n=Ao Zh f (JI n):=by unfold BD;rw[if_pos h,hf]
theorem YX (h:Du lo w mv iv ev cv k)(av:lo<=w.heap.size)(hk:DZ k)(call:AT)(he:0<=call.e/\call.e<3)(K:call.k=6)(hc:call.c<=9223372036854775807):
 Ξ prog 193 #[.agg #[mv,iv,ev,cv],.agg call.cs] w (L7 lo w (Ad k call)):=by
 have bK:=SC.start h av call;have P0:=Zp (k:=k) K;have FZ:=AA (λhz=>KQ (k:=k) (c:=call) (kind:=0) hz);have b9:=(Aq hk).1;obtain⟨gm,bk,e7,_⟩:=Em.mems bK b9;obtain⟨ge,bl,e9,_,_⟩:=bK.Xr (by rw[hk.zX];omega);rw[hk.zX] at e9;obtain⟨gi,ar,e8,_,_⟩:=bK.Zh (by rw[hk.len];omega);rw[hk.len] at e8;obtain⟨am,fk,cm,ai,ni,ci,ae,f5,ce,ac,nc,cc,em,ei,ee,ec⟩:=bK.Dq;subst e7 e8 e9 ec;clear em ei ee;have S0:=AA bK;obtain⟨kk,e,ra,b,c,nm⟩:=call;simp only at he K hc;subst K;obtain⟨en,rfl⟩:∃n:Nat,e=(n:Int):=⟨e.toNat,ω⟩
 have cC:en<3:=ω;have jK:(en:Int)<3:=ω;simp only[AT.cs] at S0 P0 FZ ⊢;have HP:=AA P0;have A:=AA hk;have hH:=AA b9;have CF:=AA (λW (h:Ns W (.slice gm 12 bk) (.slice gi 12 ar) (.slice ge 3 bl) (.slice ac nc cc) k)=>Le _ _ _ _ k 6 (en:Int) ra b c nm 0 W h hk he (.inl rfl));have CG:=AA (λW=>A4 (DP c W hc));have Hc:=AA hc;obtain⟨H,N,V,R⟩:=S0.xs;obtain⟨y0,y1,y2,y3,y4,y5⟩:=S0.ys6;generalize hfc:Ch k ⟨6,(en:Int),ra,b,c,nm⟩ 0=fc at*;clear h bK he hk P0 b9 hfc hc;generalize hW0:((w.alloc _).alloc _).alloc _=W0 at*;go_in;go_wp2_with fail;refine(CF _ S0.K).mono ?_;rintro r w1 ⟨rfl,bX⟩;have S1:=AA (S0.below bX);clear H N V R y0 y1 y2 y3 y4 y5 bX CF hW0
 by_cases ef:fc=0
 .subst ef
  obtain⟨iw,_,hm,_,mY⟩:=FZ rfl;have ab:=Aa.1 iw;obtain⟨O,rfl⟩:∃n:Nat,ra=(n:Int):=⟨ra.toNat,ω⟩
  have cl:O<12:=ω;have iR:(O:Int)<12:=ω;have bC:=AA (show Ad k ⟨6,(en:Int),(O:Int),b,c,nm⟩=dm k ⟨6,(en:Int),(O:Int),b,c,nm⟩ by rw[HP.u];rfl);have mo:=AA (mY (by first|rfl|trivial));obtain⟨H,N,V,R⟩:=S1.xs;obtain⟨y0,y1,y2,y3,y4,y5⟩:=S1.ys6;clear iw hm mY ab FZ HP;go_wp2_with fail;refine(CG _).mono ?_;rintro r w2 ⟨rfl,a4⟩;have S2:=AA (S1.below a4);obtain⟨fn,wf,hV,jB,i8⟩:=Rw c;rw[hV];clear H N V R y0 y1 y2 y3 y4 y5 a4 hV CG S0 S1;obtain⟨H,N,V,R⟩:=S2.xs;obtain⟨y0,y1,y2,y3,y4,y5⟩:=S2.ys6;obtain⟨bs,a7,_,_⟩:=S2.lts;have gs:=S2.zx;obtain⟨d0,_,_⟩:=S2.JR (f:=O) (by rw[A.len];exact cl);obtain⟨f0,_,_⟩:=S2.JR (f:=fn) (by rw[A.len];exact jB);have CB:=AA (λW (hW:Γ w2 w2 W)=>A4 (Cr b 0 3 W));have CK:=AA (λW (hW:Γ w2 w2 W)=>A4 (Kr c W));have oG:(fn:Int)<12:=ω;obtain⟨okb,hokb⟩:∃okb,okb=(Bj b 0 3&&EN k ⟨6,(en:Int),(O:Int),b,c,nm⟩):=⟨_,rfl⟩
  have g5:=AA hokb;have mx:=AA i8;generalize kp:Bv c=sm at*;have iY:=AA kp;clear hokb i8 kp;go_wp2_with fail;go_cut [60] (λnZ E=>nZ=.bool (!okb)/\Em 34 #[.int .i64 6,.int .i64 en,.int .i64 O,.int .i64 b,.int .i64 c,.string nm] [w.heap.size+2] lo w.heap.size (w.heap.size+1) w E (.slice gm 12 bk) (.slice gi 12 ar) (.slice ge 3 bl) (.slice ac nc cc) k)
  case first=>
   have pf:(decide (0<=b)&&decide (b<=3))=Bj b 0 3:=rfl;clear pf;cases b5:Bj b 0 3
   .have wx:=AA (show okb=false by rw[g5.u,b5];rfl)
    rw[b5] at CB;clear b5 d0 f0;refine Ac 29 167 [.p (w.heap.size+1) 3,.i b,.b false,.b true,.b true,.u,.u,.u,.u,.b true,.b true,.u,.u,.u,.u,.u,.u,.u,.u,.u,.u,.u,.u,.u,.u,.u,.u,.u,.u] (λ_ _ _=>True) ?_ ?_
    .intro i hi o Z a E Y J L h2 A
     match i,hi with
     |0,_|3,_|4,_|9,_|10,_=>exact sP Z A Y J
     |1,_=>exact sL Z A Y J (hl:=GO (bc L bs y3))
     |2,_=>exact sD Z A Y J (CB _ L)
     |5,_|6,_|7,_|8,_|11,_|12,_|13,_|14,_|15,_|16,_|17,_|18,_|19,_|20,_|21,_|22,_|23,_|24,_|25,_|26,_|27,_|28,_=>exact sB Z A J
     |_+29,hq=>omega
    intro D E hR L
    have fd:(D 10)=.bool true:=Bh hR 10;clear hR;simp only[Ai,Ae,yL,yI,yJ,yH,fd];simp;clear fd;clear H N V R y0 y1 y2 y3 y4 y5;go_wp2_with fail;go_meet
    case rel=>exact⟨by rw[wx.u];rfl,S2.below L⟩
   rw[b5] at CB
   cases sm
   .by_cases h9:c=0
    .have wx:=AA (show okb=true by rw[g5.u,b5];simp only[EN,iY.u];simp[h9])
     have EK:Eg c=0:=by simp[Eg,h9]
     rw[EK] at CK;clear b5 h9 EK d0 f0;refine Ac 29 167 [.p (w.heap.size+1) 3,.i b,.b true,.b false,.b false,.p (w.heap.size+1) 4,.i c,.i 0,.b false,.b false,.b false,.b false,.b false,.u,.u,.u,.u,.u,.u,.u,.u,.u,.u,.u,.u,.u,.u,.u,.b false] (λ_ _ _=>True) ?_ ?_
     .intro i hi o Z a E Y J L h2 A
      have bw:=bc L bs y3;have bu:=bc L bs y4
      match i,hi with
      |0,_|3,_|4,_|5,_|9,_|10,_|11,_|12,_|28,_=>exact sP Z A Y J
      |1,_|6,_=>exact sL Z A Y J (hl:=GO ‹_›)
      |2,_=>exact sD Z A Y J (CB _ L)
      |7,_=>exact sD Z A Y J (CK _ L)
      |13,_|14,_|15,_|16,_|17,_|18,_|19,_|20,_|21,_|22,_|23,_|24,_|25,_|26,_|27,_=>exact sB Z A J
      |8,_=>clear bw bu;obtain rfl:=yP Z;have d7:(a.tmps[38]?.getD Θ)=.int .i64 0:=Bc J 7;have d4:(a.tmps[35]?.getD Θ)=.bool false:=Bc J 4;clear J Y;refine AZ.yes rfl rfl d4 ?_;go_simp;exact A _ _ rfl (yN _ _)
      |_+29,hq=>omega
     intro D E hR L
     have fd:(D 10)=.bool false:=Bh hR 10;have jw:(D 28)=.bool false:=Bh hR 28;clear hR;simp only[Ai,Ae,yL,yI,yJ,yH,fd,jw];simp;clear fd jw;clear H N V R y0 y1 y2 y3 y4 y5;go_wp2_with fail;go_meet
     case rel=>exact⟨by rw[wx.u];rfl,S2.below L⟩
    have wx:=AA (show okb=false by rw[g5.u,b5];simp only[EN,iY.u];simp[h9])
    have EK:Eg c=2:=by simp[Eg,h9,iY.u]
    rw[EK] at CK;clear b5 h9 EK d0 f0;refine Ac 29 167 [.p (w.heap.size+1) 3,.i b,.b true,.b false,.b false,.p (w.heap.size+1) 4,.i c,.i 2,.b true,.b true,.b true,.u,.u,.u,.u,.u,.u,.u,.u,.u,.u,.u,.u,.u,.u,.u,.u,.u,.u] (λ_ _ _=>True) ?_ ?_
    .intro i hi o Z a E Y J L h2 A
     have bw:=bc L bs y3;have bu:=bc L bs y4
     match i,hi with
     |0,_|3,_|4,_|5,_|9,_|10,_=>exact sP Z A Y J
     |1,_|6,_=>exact sL Z A Y J (hl:=GO ‹_›)
     |2,_=>exact sD Z A Y J (CB _ L)
     |7,_=>exact sD Z A Y J (CK _ L)
     |11,_|12,_|13,_|14,_|15,_|16,_|17,_|18,_|19,_|20,_|21,_|22,_|23,_|24,_|25,_|26,_|27,_|28,_=>exact sB Z A J
     |8,_=>clear bw bu;obtain rfl:=yP Z;have d7:(a.tmps[38]?.getD Θ)=.int .i64 2:=Bc J 7;have d4:(a.tmps[35]?.getD Θ)=.bool false:=Bc J 4;clear J Y;refine AZ.yes rfl rfl d4 ?_;go_simp;exact A _ _ rfl (yN _ _)
     |_+29,hq=>omega
    intro D E hR L
    have fd:(D 10)=.bool true:=Bh hR 10;clear hR;simp only[Ai,Ae,yL,yI,yJ,yH,fd];simp;clear fd;clear H N V R y0 y1 y2 y3 y4 y5;go_wp2_with fail;go_meet
    case rel=>exact⟨by rw[wx.u];rfl,S2.below L⟩
   have EK:Eg c=1:=by
    unfold Eg;rw[if_neg (by intro h;have:=iY.u;rw[h] at this;cases this),iY.u];rfl
   rw[EK] at CK;have i8:=mx rfl;have jI:=mo.u;generalize hka:(JR k.Zh O).k=ka at d0 jI;generalize hkf:(JR k.Zh fn).k=kf at f0;have m9:2<=ka/\ka<=3:=by simp only[Bp,xM,decide_eq_true_eq,yq,hka] at jI;omega
   obtain⟨km,hkm⟩:∃km,ka - 1=km:=⟨_,rfl⟩
   have nE:=AA hkm
   by_cases hq:kf=km
   .have wx:=AA (show okb=true by rw[g5.u,b5];simp[EN,iY.u,<-i8,hka,hkf];omega)
    have nX:(kf !=km)=false:=by simp[hq]
    clear b5 EK i8 jI hka hkf hkm hq;refine Ac 29 167 [.p (w.heap.size+1) 3,.i b,.b true,.b false,.b false,.p (w.heap.size+1) 4,.i c,.i 1,.b false,.b false,.b false,.b true,.b true,.p w.heap.size 1,.s gi 12 ar,.i ((fn:Int)),.p gi (fn*3),.p gi (fn*3),.i kf,.p w.heap.size 1,.s gi 12 ar,.p (w.heap.size+1) 2,.i ((O:Int)),.p gi (O*3),.p gi (O*3),.i ka,.i km,.b false,.b false] (λ_ _ _=>True) ?_ ?_
    .intro i hi o Z a E Y J L h2 A
     have bw:=bc L bs y3;have bu:=bc L bs y4;have bE:=bc L a7 N;have bL:=bc L gs f0;have cT:=bc L bs y2;have fl:=bc L gs d0
     match i,hi with
     |0,_|3,_|4,_|5,_|9,_|10,_|11,_|12,_|13,_|15,_|17,_|19,_|21,_|24,_|28,_=>exact sP Z A Y J
     |1,_|6,_|18,_|22,_|25,_=>exact sL Z A Y J (hl:=GO ‹_›)
     |2,_=>exact sD Z A Y J (CB _ L)
     |7,_=>exact sD Z A Y J (CK _ L)
     |14,_|20,_=>exact sL Z A Y J (hl:=Gt ‹_›)
     |16,_|23,_=>exact sI Z A Y J (hr:=by clear J Y A;go_simp)
     |8,_=>clear bw bu bE bL cT fl;obtain rfl:=yP Z;have d7:(a.tmps[38]?.getD Θ)=.int .i64 1:=Bc J 7;have d4:(a.tmps[35]?.getD Θ)=.bool false:=Bc J 4;clear J Y;refine AZ.yes rfl rfl d4 ?_;go_simp;exact A _ _ rfl (yN _ _)
     |26,_=>clear bw bu bE bL cT fl;obtain rfl:=yP Z;have kP:(a.tmps[56]?.getD Θ)=.int .i64 ka:=Bc J 25;have jb:(a.tmps[43]?.getD Θ)=.bool true:=Bc J 12;clear J Y;refine AZ.yes rfl rfl jb ?_;go_simp;exact A _ _ (by show yl .i64 (wX.wrap (ka - 1))=.int .i64 km;rw[xJ _ ω,nE.u]) (yN _ _)
     |27,_=>clear bw bu bE bL cT fl;obtain rfl:=yP Z;have o7:(a.tmps[49]?.getD Θ)=.int .i64 kf:=Bc J 18;have o0:(a.tmps[57]?.getD Θ)=.int .i64 km:=Bc J 26;have jb:(a.tmps[43]?.getD Θ)=.bool true:=Bc J 12;clear J Y;refine AZ.yes rfl rfl jb ?_;go_simp;exact A _ _ rfl (yN _ _)
     |_+29,hq=>omega
    intro D E hR L
    have fd:(D 10)=.bool false:=Bh hR 10;have jw:(D 28)=.bool false:=Bh hR 28;clear hR;simp only[Ai,Ae,yL,yI,yJ,yH,fd,jw];simp;clear fd jw;clear H N V R y0 y1 y2 y3 y4 y5 d0 f0;go_wp2_with fail;go_meet
    case rel=>exact⟨by rw[wx.u];rfl,S2.below L⟩
   have wx:=AA (show okb=false by rw[g5.u,b5];simp[EN,iY.u,<-i8,hka,hkf];omega)
   have nX:(kf !=km)=true:=by simp[hq]
   clear b5 EK i8 jI hka hkf hkm hq;refine Ac 29 167 [.p (w.heap.size+1) 3,.i b,.b true,.b false,.b false,.p (w.heap.size+1) 4,.i c,.i 1,.b false,.b false,.b false,.b true,.b true,.p w.heap.size 1,.s gi 12 ar,.i ((fn:Int)),.p gi (fn*3),.p gi (fn*3),.i kf,.p w.heap.size 1,.s gi 12 ar,.p (w.heap.size+1) 2,.i ((O:Int)),.p gi (O*3),.p gi (O*3),.i ka,.i km,.b true,.b true] (λ_ _ _=>True) ?_ ?_
   .intro i hi o Z a E Y J L h2 A
    have bw:=bc L bs y3;have bu:=bc L bs y4;have bE:=bc L a7 N;have bL:=bc L gs f0;have cT:=bc L bs y2;have fl:=bc L gs d0
    match i,hi with
    |0,_|3,_|4,_|5,_|9,_|10,_|11,_|12,_|13,_|15,_|17,_|19,_|21,_|24,_|28,_=>exact sP Z A Y J
    |1,_|6,_|18,_|22,_|25,_=>exact sL Z A Y J (hl:=GO ‹_›)
    |2,_=>exact sD Z A Y J (CB _ L)
    |7,_=>exact sD Z A Y J (CK _ L)
    |14,_|20,_=>exact sL Z A Y J (hl:=Gt ‹_›)
    |16,_|23,_=>exact sI Z A Y J (hr:=by clear J Y A;go_simp)
    |8,_=>clear bw bu bE bL cT fl;obtain rfl:=yP Z;have d7:(a.tmps[38]?.getD Θ)=.int .i64 1:=Bc J 7;have d4:(a.tmps[35]?.getD Θ)=.bool false:=Bc J 4;clear J Y;refine AZ.yes rfl rfl d4 ?_;go_simp;exact A _ _ rfl (yN _ _)
    |26,_=>clear bw bu bE bL cT fl;obtain rfl:=yP Z;have kP:(a.tmps[56]?.getD Θ)=.int .i64 ka:=Bc J 25;have jb:(a.tmps[43]?.getD Θ)=.bool true:=Bc J 12;clear J Y;refine AZ.yes rfl rfl jb ?_;go_simp;exact A _ _ (by show yl .i64 (wX.wrap (ka - 1))=.int .i64 km;rw[xJ _ ω,nE.u]) (yN _ _)
    |27,_=>clear bw bu bE bL cT fl;obtain rfl:=yP Z;have o7:(a.tmps[49]?.getD Θ)=.int .i64 kf:=Bc J 18;have o0:(a.tmps[57]?.getD Θ)=.int .i64 km:=Bc J 26;have jb:(a.tmps[43]?.getD Θ)=.bool true:=Bc J 12;clear J Y;refine AZ.yes rfl rfl jb ?_;go_simp;exact A _ _ rfl (yN _ _)
    |_+29,hq=>omega
   intro D E hR L
   have fd:(D 10)=.bool false:=Bh hR 10;have jw:(D 28)=.bool true:=Bh hR 28;clear hR;simp only[Ai,Ae,yL,yI,yJ,yH,fd,jw];simp;clear fd jw;clear H N V R y0 y1 y2 y3 y4 y5 d0 f0;go_wp2_with fail;go_meet
   case rel=>exact⟨by rw[wx.u];rfl,S2.below L⟩
  case rest=>
  obtain⟨lM,S3⟩:=hcut;subst lM;replace S3:=AA S3;clear H N V R y0 y1 y2 y3 y4 y5 d0 f0 CB CK S2 bs a7 gs;obtain⟨w3,rfl⟩:∃w3:Ω,w3=wc:=⟨_,rfl⟩
  cases okb
  .have a6:=AA (show Ad k ⟨6,(en:Int),(O:Int),b,c,nm⟩=(k,0,3) by
    rw[bC.u];unfold dm;rw[if_pos];have:=g5.u;cases h1:Bj b 0 3
    .exact .inl rfl
    refine .inr ?_
    rw[h1,wg] at this;exact this.symm)
   clear bC;obtain⟨⟨H,N,V,R⟩,⟨⟨z0,z1,z2,z3⟩,bA⟩,HE,HR⟩:=S3.yR av (v:=0) (code:=3) (a6.u) ψ;go_wp2_with ((try simp only[xS,Exit.then]);with_reducible refine yB ?_ rfl HR.u;obtain⟨E0,E1,E2,E3⟩:=HE.u;simp[results,vw,go_sem,E0,E1,E2,E3])
  obtain⟨b5,hfit⟩:Bj b 0 3=true/\EN k ⟨6,(en:Int),(O:Int),b,c,nm⟩=true:=by
   have:=g5.symm
   rwa [yD] at this
  have mz:=AA (Xz (k:=k) (cX hfit mo.u));have a6:=AA (show Ad k ⟨6,(en:Int),(O:Int),b,c,nm⟩=_ from bC.trans (by unfold dm;rw[if_neg (by rw[b5,hfit];simp)]));have bb:=Aa.1 b5;obtain⟨bn,rfl⟩:∃n:Nat,b=(n:Int):=⟨b.toNat,ω⟩
  have ie:bn<4:=ω;have l0:(bn:Int)<4:=ω;simp only[yq] at a6;clear b5 hfit bb bC g5;obtain⟨nd,hnd⟩:∃nd,nd=Ds k c:=⟨_,rfl⟩
  have qp:=AA hnd;obtain⟨us,hus⟩:∃us,us=Gi k O:=⟨_,rfl⟩
  have ph:=AA hus;have pS:us.length<=3:=by rw[hus];exact bW
  have pi:=AA (show ∀e,e∈us->e<3 by rw[hus];exact λe h=>WP h);have mq:=AA (show ∀g,g∈nd->g<k.Zh.length by
   rw[hnd,A.len];intro g hg;unfold Ds at hg
   split at hg
   .next hgc=>
    rcases List.mem_cons.1 hg with h|h
    .rw[h];exact Ef hgc
    split at h
    .exact GI h
    cases h
   cases hg)
  rw[<-hnd,<-hus] at a6;rw[<-hnd] at mz;clear hnd hus;have nT:=AA (λW (h1:Bl W (.slice gm 12 bk) k.mem) (K:Bf W (.slice gi 12 ar) k.Zh)=>Tz (.slice gm 12 bk) (.slice gi 12 ar) (.slice ge 3 bl) (.slice ac nc cc) k c W h1 K hH A.len Hc.u);obtain⟨H,N,V,R⟩:=S3.xs;obtain⟨y0,y1,y2,y3,y4,y5⟩:=S3.ys6;go_wp2_with fail;refine(nT _ S3.K.1 S3.K.2.1).mono ?_;rintro r w4 ⟨vb,rfl,j2,hD⟩;rw[mz.u] at j2;have S4:=AA (S3.below hD);have jG:=S3.lts.2.1;clear H N V R y0 y1 y2 y3 y4 y5 nT mz;obtain⟨H,N,V,R⟩:=S4.xs;obtain⟨y0,y1,y2,y3,y4,y5⟩:=S4.ys6;go_wp2_with fail;refine(Vj _ _ _ _ k O _ S4.K A.u).mono ?_;rintro r w5 ⟨vu,rfl,jl,f8⟩;rw[bV A (show Bp (A3 k O)=true from mo.u),<-ph.u] at jl;have S5:=AA (S4.below f8);have OB:=AA (AE.below j2 f8);have OU:=AA jl;have ky:w.heap.size<w4.heap.size:=yu jG hD.size;obtain⟨ax,cx,rfl,_,_,_⟩:=jl.rd.open;rw[Cu] at OU ⊢;clear H N V R y0 y1 y2 y3 y4 y5 j2 jl hD f8 S3 S4;go_upto_block 0 with fail;go_cut [] (λE=>(∀e,e∈us->BM k.Zh nd (AH k.Xr e).Pj=true)/\∃a9 n9 c9,Em 34 #[.int .i64 6,.int .i64 en,.int .i64 O,.int .i64 bn,.int .i64 c,.string nm] [w.heap.size+2] lo w.heap.size (w.heap.size+1) w E (.slice gm 12 bk) (.slice gi 12 ar) (.slice ge 3 bl) (.slice a9 n9 c9) {k with Xo:=IT us k.Xo})
  case first=>
   go_wp2_with fail;go_loopw [13] (λlC wr=>∃j:Nat,j<=us.length/\lC=.int .i64 j/\(∀e,e∈us.take j->BM k.Zh nd (AH k.Xr e).Pj=true)/\AE w3 wr vb (A5 nd)/\AE w4 wr (.slice ax us.length cx) (A5 us)/\∃a9 n9 c9,Em 34 #[.int .i64 6,.int .i64 en,.int .i64 O,.int .i64 bn,.int .i64 c,.string nm] [w.heap.size+2] lo w.heap.size (w.heap.size+1) w wr (.slice gm 12 bk) (.slice gi 12 ar) (.slice ge 3 bl) (.slice a9 n9 c9) {k with Xo:=IT (us.take j) k.Xo}) (λlC _=>us.length - (intOf lC).toNat)
   exact⟨0,yt _,rfl,λe he=>by simp at he,OB.u,OU.u,ac,nc,cc,S5.u⟩
   obtain⟨j,hj,rfl,df,j2,jl,a9,n9,c9,hS⟩:=hrel;have jX:=AA df;have S:=AA hS;have nK:=AA j2;have pt:=AA jl;clear df hS j2 OB OU
   by_cases bf:j<us.length
   .obtain⟨qo,qm,lI,_,_,H0⟩:=jl.rd.open
    rw[Cu] at lI;simp only[xQ] at lI;obtain⟨rfl,_,rfl⟩:=lI;obtain⟨bx,jh,rfl,DX⟩:=H0.at (k:=j) (by rw[Cu];exact bf);rw[So bf] at DX;obtain⟨un,hun⟩:∃u,u=us.getD j 0:=⟨_,rfl⟩
    rw[<-hun] at DX;have nI:=AA hun;have jF:un∈us:=by rw[hun];exact yv (A6 bf)
    have ko:=pi un jF;have mr:=AA jF;clear hun jF H0 jl;have ez:(j:Int)<us.length:=ω;have og:(un:Int)<3:=ω;obtain⟨H,N,V,R⟩:=S.xs;obtain⟨y0,y1,y2,y3,y4,y5⟩:=S.ys6;obtain⟨bs,a7,_,_⟩:=S.lts;have iO:=S.zg;have cr:bx<wr.heap.size:=yK _ _ DX;obtain⟨ua,uc,D0,_,x3⟩:=S.env (j:=un) (by show un<k.Xr.length;rw[A.zX];exact ko);have RI:=S.K.2.1;have RB:=nK.rd;have CA:=AA (λW (hW:Γ wr wr W)=>G0 _ vb _ k.Zh nd (AH k.Xr un).Pj W (BK.below RI hW) (A1.below RB hW) (BK.below x3 hW) mq (Ca (Aq A.u).2.1) (JL A ko));generalize hbbq:BM k.Zh nd (AH k.Xr un).Pj=bq at CA;have nF:=AA hbbq;clear hbbq RI x3 RB;go_wp2_with fail;refine Ac 12 167 [.p w.heap.size 1,.s gi 12 ar,.v vb,.p w.heap.size 2,.s ge 3 bl,.v (.slice (some ⟨bx,jh,none⟩) us.length cx),.i ((j:Int)),.p bx (jh+j),.i ((un:Int)),.p ge (un*2),.p ge (un*2),.v (.slice ua (AH k.Xr un).Pj.length uc)] (λ_ _ _=>True) ?_ ?_
    .intro i hi o Z a E Y J L h2 A
     match i,hi with
     |0,_|2,_|3,_|5,_|6,_|10,_=>exact sP Z A Y J
     |1,_=>exact sL Z A Y J (hl:=Gt (bc L a7 N))
     |4,_=>exact sL Z A Y J (hl:=P6 (bc L a7 V))
     |7,_|9,_=>exact sI Z A Y J (hr:=by clear J Y A;go_simp)
     |8,_=>exact sL Z A Y J (hl:=GO (bc L cr DX))
     |11,_=>exact sL Z A Y J (hl:=Kt (bc L iO D0))
    intro D E hR L
    have q1:(D 1)=.slice gi 12 ar:=Bh hR 1;have q2:(D 2)=vb:=Bh hR 2;have ij:(D 11)=.slice ua (AH k.Xr un).Pj.length uc:=Bh hR 11;clear hR;simp only[Ai,Ae,yL,yI,yJ,yH,q1,q2,ij];simp;clear q1 q2 ij;have S6:=AA (S.below L);have ih:=AA L;clear H N V R y0 y1 y2 y3 y4 y5 D0 L;go_wp2_with fail;refine(CA _ ih.u).mono ?_;rintro r w7 ⟨rfl,jP⟩;have S7:=AA (S6.below jP);have mB:=AA (ih.trans (jP.mono ih.size));clear jP CA ih S6;cases bq
    .have fb:=AA (show Ad k ⟨6,(en:Int),(O:Int),(bn:Int),c,nm⟩=(k,0,1) by rw[a6.u,if_pos (xj.2 ⟨un,mr.u,by rw[nF.u];decide⟩)])
     obtain⟨⟨H,N,V,R⟩,⟨⟨z0,z1,z2,z3⟩,bA⟩,HE,HR⟩:=S7.yR av (v:=0) (code:=1) (fb.u) ψ;go_wp2_with ((try simp only[xS,Exit.then]);with_reducible refine yB ?_ rfl HR.u;obtain⟨E0,E1,E2,E3⟩:=HE.u;simp[results,vw,go_sem,E0,E1,E2,E3])
    have jS:=(mB.cell cr).trans DX
    have kL:bx<w7.heap.size:=yK _ _ jS;clear DX cr;have DX:=jS;have cr:=kL;clear jS kL;obtain⟨H,N,V,R⟩:=S7.xs;obtain⟨bs,a7,_,_⟩:=S7.lts;have CD:=AA (λW (h:Do W (.slice a9 n9 c9) (IT (us.take j) k.Xo))=>SZ (.slice a9 n9 c9) (IT (us.take j) k.Xo) (un:Int) W h (by have:=Ub (us.take j) (Aq A.u).2.2;simp only[Bk,yD,decide_eq_true_eq] at this;omega));go_wp2_with fail;refine Ac 6 167 [.p w.heap.size 3,.v (.slice a9 n9 c9),.v (.slice (some ⟨bx,jh,none⟩) us.length cx),.i ((j:Int)),.p bx (jh+j),.i ((un:Int))] (λ_ _ _=>True) ?_ ?_
    .intro i hi o Z a E Y J L h2 A
     match i,hi with
     |0,_|2,_|3,_=>exact sP Z A Y J
     |1,_=>exact sL Z A Y J (hl:=Yb (bc L a7 R))
     |4,_=>exact sI Z A Y J (hr:=by clear J Y A;go_simp)
     |5,_=>exact sL Z A Y J (hl:=GO (bc L cr DX))
    intro D E hR L
    have q1:(D 1)=.slice a9 n9 c9:=Bh hR 1;have q5:(D 5)=.int .i64 un:=Bh hR 5;clear hR;simp only[Ai,Ae,yL,yI,yJ,yH,q1,q5];simp;clear q1 q5;have S8:=AA (S7.below L);have nM:=AA (mB.trans (L.mono mB.size));have kZ:=S8.xs.2.2.2;clear H N V R L DX;go_wp2_with fail;refine(CD _ S8.K.2.2.2).mono ?_;rintro r w9 ⟨v',rfl,hO,b7⟩;have T2:=AA (S8.Xo b7 hO);have mA:=nM.trans (b7.mono nM.size);have nz:=AA (QC (g:=w.heap.size) (j:=3) (u:=v') (AE.below nK mA) jG);have ny:=AA (QC (g:=w.heap.size) (j:=3) (u:=v') (AE.below pt mA) ky);have kN:=AI (S8.below b7).yS.1;have nU:=(S8.below b7).xs.2.2.2;clear kZ mA b7;obtain⟨a8,c8,e9,_,_⟩:=hO.rd.shape;generalize wV _=n8 at e9;subst e9;clear hO;generalize hW10:w9.setCell _ _=W10 at T2 nz ny;go_wp2;go_roundw
    case rel=>
     refine⟨j+1,ω,ξ,λe he=>?_,nz.u,ny.u,a8,n8,c8,?_⟩
     .rw[DA (A6 (d:=0) bf),List.mem_append,xD] at he
      rcases he with he|rfl
      .exact jX e he
      rw[<-nI.u];exact nF.u
     rw[QO bf,<-nI.u];exact T2.u
    case measure=>simp[intOf];omega
   obtain rfl:j=us.length:=ω;rw[xE] at jX S;have ez:¬(us.length:Int)<us.length:=ω;clear jl;go_wp2_with fail;go_meet
   case rel=>exact⟨jX.u,_,_,_,S.u⟩
  case rest=>
  obtain⟨df,a9,n9,c9,hS⟩:=hcut;have S:=AA hS;have fb:=AA (a6.trans (if_neg (by rw[Bool.not_eq_false,yr];exact df)));obtain⟨gp,rfl⟩:∃gp:Ω,gp=wc:=⟨_,rfl⟩
  clear df hS a6 OB OU S5;obtain⟨mm,jm⟩:∃mm,mm=(sm&&!Cd (AH k.Xr en).Pj (JR k.Zh (BP c)).g):=⟨_,rfl⟩
  have kb:=AA jm;clear jm;go_wp2_with fail;go_cut [112] (λlD E=>lD=.bool mm/\Em 34 #[.int .i64 6,.int .i64 en,.int .i64 O,.int .i64 bn,.int .i64 c,.string nm] [w.heap.size+2] lo w.heap.size (w.heap.size+1) w E (.slice gm 12 bk) (.slice gi 12 ar) (.slice ge 3 bl) (.slice a9 n9 c9) {k with Xo:=IT us k.Xo})
  case first=>
   obtain⟨H,N,V,R⟩:=S.xs;obtain⟨y0,y1,y2,y3,y4,y5⟩:=S.ys6;obtain⟨bs,a7,_,_⟩:=S.lts;have gs:=S.zx;obtain⟨_,f1,_⟩:=S.JR (f:=fn) (by show fn<k.Zh.length;rw[A.len];exact jB)
   try simp only at f1
   cases sm
   .clear f1
    refine Ac 13 167 [.b false,.b false,.u,.u,.u,.u,.u,.u,.u,.u,.u,.u,.u] (λ_ _ _=>True) ?_ ?_
    .intro i hi o Z a E Y J L h2 A
     match i,hi with
     |0,_|1,_=>exact sP Z A Y J
     |2,_|3,_|4,_|5,_|6,_|7,_|8,_|9,_|10,_|11,_|12,_=>exact sB Z A J
    intro D E hR L
    have q1:(D 1)=.bool false:=Bh hR 1;clear hR;simp only[Ai,Ae,yL,yI,yJ,yH,q1];simp;clear q1;clear H N V R y0 y1 y2 y3 y4 y5;go_wp2_with fail;go_meet
    case rel=>exact⟨by rw[kb.u];rfl,S.below L⟩
   have i8:=mx rfl
   have kX:=kb.u;have RE:=S.K.2.2.1;have CM:=AA (λW (hW:Γ gp gp W)=>KS (.slice gm 12 bk) (.slice gi 12 ar) (.slice ge 3 bl) (.slice a9 n9 c9) k en (JR k.Zh fn).g W (RE.below hW) A cC (Ca (Aq A.u).2.1 _ (yv (Cg (by rw[A.len];exact jB)))));rw[<-i8] at kX;generalize(JR k.Zh fn).g=fg at f1 CM kX;clear RE i8;generalize Cd (AH k.Xr en).Pj fg=my at CM kX;have HM:=AA kX;clear kX;cases my
   .skip
    refine Ac 13 167 [.b true,.b true,.a #[.slice gm 12 bk,.slice gi 12 ar,.slice ge 3 bl,.slice a9 n9 c9],.p (w.heap.size+1) 1,.i ((en:Int)),.p w.heap.size 1,.s gi 12 ar,.i ((fn:Int)),.p gi (fn*3),.p gi (fn*3+1),.t fg,.b false,.b true] (λ_ _ _=>True) ?_ ?_
    .intro i hi o Z a E Y J L h2 A
     have bw:=bc L a7 H;have bu:=bc L a7 N;have bE:=bc L a7 V;have bL:=bc L a7 R;have cT:=bc L bs y1;have fl:=bc L gs f1
     match i,hi with
     |0,_|1,_|3,_|5,_|7,_|9,_|12,_=>exact sP Z A Y J
     |2,_=>exact sL Z A Y J (hl:=P7 ‹_› ‹_› ‹_› ‹_›)
     |4,_=>exact sL Z A Y J (hl:=GO ‹_›)
     |6,_=>exact sL Z A Y J (hl:=Gt ‹_›)
     |8,_=>exact sI Z A Y J (hr:=by clear J Y A;go_simp)
     |10,_=>exact sL Z A Y J (hl:=aM ‹_›)
     |11,_=>exact sD Z A Y J (CM _ L)
    intro D E hR L
    have q1:(D 1)=.bool true:=Bh hR 1;have dg:(D 12)=.bool true:=Bh hR 12;clear hR;simp only[Ai,Ae,yL,yI,yJ,yH,q1,dg];simp;clear q1 dg;clear H N V R y0 y1 y2 y3 y4 y5 f1;go_wp2_with fail;go_meet
    case rel=>exact⟨by rw[HM.u];rfl,S.below L⟩
   skip
   refine Ac 13 167 [.b true,.b true,.a #[.slice gm 12 bk,.slice gi 12 ar,.slice ge 3 bl,.slice a9 n9 c9],.p (w.heap.size+1) 1,.i ((en:Int)),.p w.heap.size 1,.s gi 12 ar,.i ((fn:Int)),.p gi (fn*3),.p gi (fn*3+1),.t fg,.b true,.b false] (λ_ _ _=>True) ?_ ?_
   .intro i hi o Z a E Y J L h2 A
    have bw:=bc L a7 H;have bu:=bc L a7 N;have bE:=bc L a7 V;have bL:=bc L a7 R;have cT:=bc L bs y1;have fl:=bc L gs f1
    match i,hi with
    |0,_|1,_|3,_|5,_|7,_|9,_|12,_=>exact sP Z A Y J
    |2,_=>exact sL Z A Y J (hl:=P7 ‹_› ‹_› ‹_› ‹_›)
    |4,_=>exact sL Z A Y J (hl:=GO ‹_›)
    |6,_=>exact sL Z A Y J (hl:=Gt ‹_›)
    |8,_=>exact sI Z A Y J (hr:=by clear J Y A;go_simp)
    |10,_=>exact sL Z A Y J (hl:=aM ‹_›)
    |11,_=>exact sD Z A Y J (CM _ L)
   intro D E hR L
   have q1:(D 1)=.bool true:=Bh hR 1;have dg:(D 12)=.bool false:=Bh hR 12;clear hR;simp only[Ai,Ae,yL,yI,yJ,yH,q1,dg];simp;clear q1 dg;clear H N V R y0 y1 y2 y3 y4 y5 f1;go_wp2_with fail;go_meet
   case rel=>exact⟨by rw[HM.u];rfl,S.below L⟩
  case rest=>
  obtain⟨ks,iX⟩:=hcut;subst ks;replace iX:=AA iX;clear S;obtain⟨jg,rfl⟩:∃jg:Ω,jg=wc:=⟨_,rfl⟩
  cases mm
  rotate_left
  .have ly:=AA (show Ad k ⟨6,(en:Int),(O:Int),(bn:Int),c,nm⟩=(k,0,1) by
    have jm:=kb.symm;rw[yD,Bool.not_eq_true'] at jm;exact fb.trans (if_pos ⟨iY.trans jm.1,jm.2⟩))
   clear kb fb;obtain⟨⟨H,N,V,R⟩,⟨⟨z0,z1,z2,z3⟩,bA⟩,HE,HR⟩:=iX.yR av (v:=0) (code:=1) (ly.u) ψ;go_wp2_with ((try simp only[xS,Exit.then]);with_reducible refine yB ?_ rfl HR.u;obtain⟨E0,E1,E2,E3⟩:=HE.u;simp[results,vw,go_sem,E0,E1,E2,E3])
  have m7:¬(Bv c=true/\Ff k (en:Int) (JR k.Zh (BP c)).g=false):=by rintro⟨h1,K⟩;have h3:sm=true:=iY.symm.trans h1;have h4:Cd (AH k.Xr en).Pj (JR k.Zh (BP c)).g=false:=K;have jm:=kb.u;rw[h3,h4] at jm;cases jm
  have ly:=AA (fb.trans (if_neg m7));clear kb fb m7;obtain⟨wo,hwo⟩:∃wo,wo=Aw k.mem O bn:=⟨_,rfl⟩
  have mW:=A.word (f:=O) (i:=bn) cl ie;rw[<-hwo] at mW ly;obtain⟨fo,kg,nh,oF,kH⟩:=Rw wo;have mG:=λW (hW:Γ jg jg W)=>A4 (DP wo W ω)
  rw[nh] at mG;have CO:=AA mG;have pA:=AA kH;generalize hso:Bv wo=so at*;have nA:=AA hso;have oE:(fo:Int)<12:=ω;obtain⟨H,N,V,R⟩:=iX.xs;obtain⟨y0,y1,y2,y3,y4,y5⟩:=iX.ys6;obtain⟨bs,a7,_,_⟩:=iX.lts;obtain⟨gw,cN,Dw,jA,jL,Dj,_⟩:=iX.mrow hH (f:=O) cl;have Dv:=Dj bn ie
  try simp only at Dv
  rw[<-hwo] at Dv;have h7:gm<jg.heap.size:=yK _ _ Dw;have qt:=AA hwo;clear Dj mG nh kH hso mW hwo;go_wp2_with fail;refine Ac 17 167 [.p w.heap.size 0,.s gm 12 bk,.p (w.heap.size+1) 2,.i ((O:Int)),.p gm O,.s gw 4 cN,.p (w.heap.size+1) 3,.i ((bn:Int)),.p gw bn,.i wo,.v (.tuple #[fo,kg,so]),.v (.tuple #[fo,kg,so]),.i ((fo:Int)),.b kg,.b so,.i ((fo:Int)),.b kg] (λ_ _ _=>True) ?_ ?_
  .intro i hi o Z a E Y J L h2 A
   have bu:=bc L bs y2;have bL:=bc L bs y3;have cT:=bc L jA Dv
   match i,hi with
   |0,_|2,_|6,_|11,_|12,_|13,_|14,_|15,_|16,_=>exact sP Z A Y J
   |1,_=>exact sL Z A Y J (hl:=GZ (bc L a7 H))
   |3,_|7,_|9,_=>exact sL Z A Y J (hl:=GO ‹_›)
   |4,_|8,_=>exact sI Z A Y J (hr:=by clear J Y A;go_simp)
   |5,_=>exact sL Z A Y J (hl:=K5 (bc L h7 Dw))
   |10,_=>exact sD Z A Y J (CO _ L)
   |_+17,hq=>omega
  intro D E hR L
  have mS:(D 14)=.bool so:=Bh hR 14;have mR:(D 15)=.int .i64 fo:=Bh hR 15;have fs:(D 16)=.bool kg:=Bh hR 16;clear hR;simp only[Ai,Ae,yL,yI,yJ,yH,mS,mR,fs];simp;clear mS mR fs;have jd:=AA (iX.below L);clear H N V R y0 y1 y2 y3 y4 y5 Dw Dv L CO h7 jA jL iX bs a7;obtain⟨jf,rfl⟩:∃jf:Ω,jf=E:=⟨_,rfl⟩
  go_upto_if 129 with fail;go_cut [] (λE=>Em 34 #[.int .i64 6,.int .i64 en,.int .i64 O,.int .i64 bn,.int .i64 c,.string nm] [w.heap.size+2] lo w.heap.size (w.heap.size+1) w E (.slice gm 12 bk) (.slice gi 12 ar) (.slice ge 3 bl) (.slice a9 n9 c9) {k with Xo:=IT us k.Xo,Zh:=BD k.Zh wo (-1)})
  case first=>
   cases so
   .have wx:=AA (TJ (Zh:=k.Zh) (n:= -1) nA.u)
    go_wp2_with fail;go_meet
    case rel=>rw[wx.u];exact jd.u
   have wx:=AA (U2 (Zh:=k.Zh) (n:= -1) nA (pA rfl))
   obtain⟨H,N,V,R⟩:=jd.xs;obtain⟨bs,a7,_,_⟩:=jd.lts;have gs:=jd.zx;obtain⟨_,_,d2⟩:=jd.JR (f:=fo) (by show fo<(k.Zh).length;have:=A.len;(try simp only[Cv]);omega)
   try simp only at d2
   have hd:=A.yZ oF;generalize hrv:(JR (k.Zh) fo).r=rv at d2 hd;obtain⟨nr,hnr⟩:∃nr,rv - 1=nr:=⟨_,rfl⟩
   have iZ:=AA hnr;clear hnr;have jQ:(fo:Int)<12:=ω;go_wp2_with fail;refine Ac 10 167 [.p w.heap.size 1,.s gi 12 ar,.i ((fo:Int)),.p w.heap.size 1,.s gi 12 ar,.i ((fo:Int)),.p gi (fo*3),.p gi (fo*3+2),.i rv,.i nr] (λ_ _ _=>True) ?_ ?_
   .intro i hi o Z a E Y J L h2 A
    have bw:=bc L a7 N;have bu:=bc L gs d2
    match i,hi with
    |0,_|2,_|3,_|5,_|7,_=>exact sP Z A Y J
    |1,_|4,_=>exact sL Z A Y J (hl:=Gt ‹_›)
    |6,_=>exact sI Z A Y J (hr:=by clear J Y A;go_simp)
    |8,_=>exact sL Z A Y J (hl:=GO ‹_›)
    |9,_=>clear bw bu;obtain rfl:=yP Z;have d8:(a.tmps[138]?.getD Θ)=.int .i64 rv:=Bc J 8;clear J Y;refine yO ?_;go_simp;exact A _ _ (by show yl .i64 (wX.wrap (rv - 1))=.int .i64 nr;rw[xJ _ ω,iZ.u]) (yN _ _)
   intro D E hR L
   have q1:(D 1)=.slice gi 12 ar:=Bh hR 1;have q2:(D 2)=.int .i64 fo:=Bh hR 2;have q9:(D 9)=.int .i64 nr:=Bh hR 9;clear hR;simp only[Ai,Ae,yL,yI,yJ,yH,q1,q2,q9];simp;clear q1 q2 q9;have SB:=AA (jd.below L);obtain⟨_,_,iS⟩:=SB.JR (f:=fo) (by show fo<(k.Zh).length;have:=A.len;(try simp only[Cv]);omega);have Fr:=SB.fzi (fo*3+2);have NN:=SB.info (by show 12=(k.Zh).length;have:=A.len;(try simp only[Cv]);omega) (f:=fo) (by show fo<(k.Zh).length;have:=A.len;(try simp only[Cv]);omega) (-1)
   try simp only at NN iS
   rw[hrv] at NN iS;rw[show rv+ -1=nr by have:=iZ.u;omega] at NN;replace NN:=AA NN;generalize hW9:E.setCell _ _=W9 at NN;clear H N V R d2 L SB;go_wp2_with fail;go_meet
   case rel=>rw[wx.u];exact NN.u
  case rest=>
  replace hcut:=AA hcut;have jT:=hcut;clear hcut jd;obtain⟨jf,rfl⟩:∃jf:Ω,jf=wc:=⟨_,rfl⟩
  go_upto_if 142 with fail;go_cut [] (λE=>Em 34 #[.int .i64 6,.int .i64 en,.int .i64 O,.int .i64 bn,.int .i64 c,.string nm] [w.heap.size+2] lo w.heap.size (w.heap.size+1) w E (.slice gm 12 bk) (.slice gi 12 ar) (.slice ge 3 bl) (.slice a9 n9 c9) {k with Xo:=IT us k.Xo,Zh:=BD (BD k.Zh wo (-1)) c 1})
  case first=>
   cases sm
   .have wx:=AA (TJ (Zh:=BD k.Zh wo (-1)) (n:=1) iY.u)
    go_wp2_with fail;go_meet
    case rel=>rw[wx.u];exact jT.u
   have wx:=AA (U2 (Zh:=BD k.Zh wo (-1)) (n:=1) iY (mx rfl))
   have SR:=AA (KL.refer (OK (Aq A.u).2.1) A.len (n:= -1) (x:=wo) (.inr rfl));obtain⟨H,N,V,R⟩:=jT.xs;obtain⟨bs,a7,_,_⟩:=jT.lts;have gs:=jT.zx;obtain⟨_,_,d2⟩:=jT.JR (f:=fn) (by show fn<(BD k.Zh wo (-1)).length;have:=A.len;(try simp only[Cv]);omega)
   try simp only at d2
   have hd:=SR fn (by simp only[Cv];rw[A.len];exact jB);generalize hrv:(JR (BD k.Zh wo (-1)) fn).r=rv at d2 hd;obtain⟨nr,hnr⟩:∃nr,rv+1=nr:=⟨_,rfl⟩
   have iZ:=AA hnr;clear hnr;have jQ:(fn:Int)<12:=ω;go_wp2_with fail;refine Ac 10 167 [.p w.heap.size 1,.s gi 12 ar,.i ((fn:Int)),.p w.heap.size 1,.s gi 12 ar,.i ((fn:Int)),.p gi (fn*3),.p gi (fn*3+2),.i rv,.i nr] (λ_ _ _=>True) ?_ ?_
   .intro i hi o Z a E Y J L h2 A
    have bw:=bc L a7 N;have bu:=bc L gs d2
    match i,hi with
    |0,_|2,_|3,_|5,_|7,_=>exact sP Z A Y J
    |1,_|4,_=>exact sL Z A Y J (hl:=Gt ‹_›)
    |6,_=>exact sI Z A Y J (hr:=by clear J Y A;go_simp)
    |8,_=>exact sL Z A Y J (hl:=GO ‹_›)
    |9,_=>clear bw bu;obtain rfl:=yP Z;have d8:(a.tmps[151]?.getD Θ)=.int .i64 rv:=Bc J 8;clear J Y;refine yO ?_;go_simp;exact A _ _ (by show yl .i64 (wX.wrap (rv+1))=.int .i64 nr;rw[xJ _ ω,iZ.u]) (yN _ _)
   intro D E hR L
   have q1:(D 1)=.slice gi 12 ar:=Bh hR 1;have q2:(D 2)=.int .i64 fn:=Bh hR 2;have q9:(D 9)=.int .i64 nr:=Bh hR 9;clear hR;simp only[Ai,Ae,yL,yI,yJ,yH,q1,q2,q9];simp;clear q1 q2 q9;have SB:=AA (jT.below L);obtain⟨_,_,iS⟩:=SB.JR (f:=fn) (by show fn<(BD k.Zh wo (-1)).length;have:=A.len;(try simp only[Cv]);omega);have Fr:=SB.fzi (fn*3+2);have NN:=SB.info (by show 12=(BD k.Zh wo (-1)).length;have:=A.len;(try simp only[Cv]);omega) (f:=fn) (by show fn<(BD k.Zh wo (-1)).length;have:=A.len;(try simp only[Cv]);omega) (1)
   try simp only at NN iS
   rw[hrv] at NN iS;rw[show rv+1=nr by have:=iZ.u;omega] at NN;replace NN:=AA NN;generalize hW9:E.setCell _ _=W9 at NN;clear H N V R d2 L SB;go_wp2_with fail;go_meet
   case rel=>rw[wx.u];exact NN.u
  case rest=>
  replace hcut:=AA hcut;have j9:=hcut;clear hcut jT;obtain⟨w13,rfl⟩:∃w13:Ω,w13=wc:=⟨_,rfl⟩
  obtain⟨H,N,V,R⟩:=j9.xs;obtain⟨y0,y1,y2,y3,y4,y5⟩:=j9.ys6;obtain⟨bs,a7,_,_⟩:=j9.lts;obtain⟨gw,cN,Dw,jA,jL,_⟩:=j9.mrow hH (f:=O) cl;have h7:gm<w13.heap.size:=yK _ _ Dw;go_wp2_with fail;refine Ac 10 167 [.p w.heap.size 0,.s gm 12 bk,.p (w.heap.size+1) 2,.i ((O:Int)),.p gm O,.s gw 4 cN,.p (w.heap.size+1) 3,.i ((bn:Int)),.p (w.heap.size+1) 4,.i c] (λ_ _ _=>True) ?_ ?_
  .intro i hi o Z a E Y J L h2 A
   have bu:=bc L bs y2;have bL:=bc L bs y3;have cT:=bc L bs y4
   match i,hi with
   |0,_|2,_|6,_|8,_=>exact sP Z A Y J
   |1,_=>exact sL Z A Y J (hl:=GZ (bc L a7 H))
   |3,_|7,_|9,_=>exact sL Z A Y J (hl:=GO ‹_›)
   |4,_=>exact sI Z A Y J (hr:=by clear J Y A;go_simp)
   |5,_=>exact sL Z A Y J (hl:=K5 (bc L h7 Dw))
  intro D E hR L
  have q5:(D 5)=.slice gw 4 cN:=Bh hR 5;have q7:(D 7)=.int .i64 bn:=Bh hR 7;have q9:(D 9)=.int .i64 c:=Bh hR 9;clear hR;simp only[Ai,Ae,yL,yI,yJ,yH,q5,q7,q9];simp;clear q5 q7 q9;have pe:=AA (j9.below L);obtain⟨me,iW,D2,_,_,hC,Fr,_,_,_,hS⟩:=pe.mrow hH (f:=O) cl;have eD:=D2.symm.trans ((L.cell (p:=⟨gm,O,none⟩) h7).trans Dw);cases eD;have D3:=hC bn ie;have nx:=AA (hS bn c ie);generalize hW9:E.setCell _ _=W9 at nx;clear H N V R y0 y1 y2 y3 y4 y5 Dw D2 hS L j9 hC;obtain⟨⟨H,N,V,R⟩,⟨⟨z0,z1,z2,z3⟩,bA⟩,HE,HR⟩:=nx.fin av (v:=0) (code:=0) (ly.u);go_wp2_with ((try simp only[xS,Exit.then]);with_reducible refine yB ?_ rfl HR.u;obtain⟨E0,E1,E2,E3⟩:=HE.u;simp[results,vw,go_sem,E0,E1,E2,E3])
 have t1:(fc !=0)=true:=by simp[ef]
 have hc:=AA ef;have a6:=AA (show Ad k ⟨6,(en:Int),ra,b,c,nm⟩=(k,0,fc) by rw[HP.u,if_neg ef]);clear ef FZ HP;obtain⟨⟨H,N,V,R⟩,⟨⟨z0,z1,z2,z3⟩,bA⟩,HE,HR⟩:=S1.yR av (v:=0) (code:=fc) (a6.u) (hc.u);go_wp2_with ((try simp only[xS,Exit.then]);with_reducible refine yB ?_ rfl HR.u;obtain⟨E0,E1,E2,E3⟩:=HE.u;simp[results,vw,go_sem,E0,E1,E2,E3])
theorem aJ (h:Du lo w mv iv ev cv k)(av:lo<=w.heap.size)(hk:DZ k)(call:AT)(he:0<=call.e/\call.e<3)(g8:call.nm.size<=maxLen)(hc:call.c<=9223372036854775807):
 Ξ prog 133 #[.agg #[mv,iv,ev,cv],.agg call.cs] w (L7 lo w (Ad k call)):=by
 have bK:=SC.start h av call;obtain⟨am,fk,cm,ai,ni,ci,ae,f5,ce,ac,nc,cc,rfl,rfl,rfl,rfl⟩:=bK.Dq;have S0:=AA bK;obtain⟨kk,e,a,b,c,nm⟩:=call;simp only[AT.cs] at S0 ⊢;have A:=AA hk;have HE:=AA he;have HN:=AA g8;have HC:=AA hc;obtain⟨H,N,V,R⟩:=S0.xs;obtain⟨y0,y1,y2,y3,y4,y5⟩:=S0.ys6;clear h bK he hk g8 hc;generalize hW0:((w.alloc _).alloc _).alloc _=W0 at*
 by_cases hk:kk=1∨kk=2∨kk=3∨kk=4∨kk=5∨kk=6∨kk=7∨kk=8∨kk=9∨kk=10∨kk=11
 .skip
  rcases hk with rfl|rfl|rfl|rfl|rfl|rfl|rfl|rfl|rfl|rfl|rfl
  all_goals
   have C:=S0.yS.2.2;go_in;go_wp2_with fail
   first
   |refine(XC C S0.lo A ⟨_,e,a,b,c,nm⟩ HE rfl HN.u).mono ?_
   |refine(Wz C S0.lo A ⟨_,e,a,b,c,nm⟩ HE rfl).mono ?_
   |refine(XA C S0.lo A ⟨_,e,a,b,c,nm⟩ HE rfl).mono ?_
   |refine(YW C S0.lo A ⟨_,e,a,b,c,nm⟩ HE χ).mono ?_
   |refine(YX C S0.lo A ⟨_,e,a,b,c,nm⟩ HE rfl HC.u).mono ?_
   |refine(XB C S0.lo A ⟨_,e,a,b,c,nm⟩ HE rfl).mono ?_
   |refine(UB C S0.lo A ⟨_,e,a,b,c,nm⟩ HE χ HN.u).mono ?_
   |refine(YV C S0.lo A ⟨_,e,a,b,c,nm⟩ HE χ).mono ?_
   rintro r w1 ⟨m',i',e',c',rfl,hs,hK,z,hf⟩;obtain⟨hB,ja,kU⟩:=L7.up S0 (yM av (wG _ _)) (wG _ _) hs hK z hf;obtain⟨am,pO,cm,ai,ni,ci,ae,pP,ce,ac,nc,cc,rfl,rfl,rfl,rfl⟩:=hs;obtain⟨z0,z1,z2,z3⟩:=AG hB;have bA:=AI hB;have pB:=AA (AG ja);have HR:=AA kU;clear hK z hf hB ja kU H N V R y0 y1 y2 y3 y4 y5 hW0;go_wp2_with fail;exact yB (v:=.tuple #[.agg #[_,_,_,_],.int .i64 _,.int .i64 _]) (by simp[results,rT,go_sem,pB.u]) rfl HR.u
 simp only[not_or] at hk;obtain⟨e1,e2,e3,e4,e5,e6,e7,e8,e9,lm,mg⟩:=hk;have a6:=AA (show Ad k ⟨kk,e,a,b,c,nm⟩=(k,0,3) by unfold Ad;rw[if_neg e1,if_neg (by rw[Aa];simp only;omega),if_neg e7,if_neg e8,if_neg e9,if_neg (by simp only;omega)]);have t1:(kk==1)=false:=by simp[e1]
 have t2:(kk==2)=false:=by simp[e2]
 have t3:(kk==3)=false:=by simp[e3]
 have t4:(kk==4)=false:=by simp[e4]
 have t5:(kk==5)=false:=by simp[e5]
 have t6:(kk==6)=false:=by simp[e6]
 have t7:(kk==7)=false:=by simp[e7]
 have t8:(kk==8)=false:=by simp[e8]
 have t9:(kk==9)=false:=by simp[e9]
 have pM:(kk==10)=false:=by simp[lm]
 have pL:(kk==11)=false:=by simp[mg]
 clear e1 e2 e3 e4 e5 e6 e7 e8 e9 lm mg;go_in;obtain⟨⟨H,N,V,R⟩,⟨⟨z0,z1,z2,z3⟩,bA⟩,HE,HR⟩:=S0.yR av (v:=0) (code:=3) (a6.u) ψ;go_wp2_with ((try simp only[xS,Exit.then]);with_reducible refine yB ?_ rfl HR.u;obtain⟨E0,E1,E2,E3⟩:=HE.u;simp[results,rT,go_sem,E0,E1,E2,E3])
def Re(lo:Nat)(b:Bool)(v:Φ)(w:Ω)(k:AR):Prop:=b=true∨∃m i e c,v=.agg #[m,i,e,c]/\Du lo w m i e c k
theorem Re.below{b:Bool}(h:Re lo b v w k)(z:Γ w w w'):Re lo b v w' k:=h.imp id λ⟨m,i,e,c,h1,K⟩=>⟨m,i,e,c,h1,K.below z⟩
theorem Re.yV{b:Bool}(h:Re lo b v w k)(hg:w.grownBy w' (some g))(hB:w.heap[g]?=some (.cells cu 28 (0,0))):Re lo b v w' k:=h.imp id λ⟨m,i,e,c,h1,K⟩=>⟨m,i,e,c,h1,K.yV hg hB⟩
def QK(lo:Nat)(w:Ω)(m i e c:Φ)(k:AR)(y:Int):Prop:=gx m i e c/\(y=0->Du lo w m i e c k)
theorem QK.below (h:QK lo w m i e c k y)(z:Γ w w w'):QK lo w' m i e c k y:=⟨h.1,λh0=>(h.2 h0).below z⟩
theorem QK.yV (h:QK lo w m i e c k y)(hg:w.grownBy w' (some g))(hB:w.heap[g]?=some (.cells cu 28 (0,0))):QK lo w' m i e c k y:=⟨h.1,λh0=>(h.2 h0).yV hg hB⟩
def NQ(lo:Nat)(v:Φ)(w:Ω)(k:AR)(x y:Int):Prop:=∃m i e c,v=.tuple #[.agg #[m,i,e,c],x,y]/\QK lo w m i e c k y
def Tv(lo:Nat)(v:Φ)(w:Ω)(k:AR)(y:Int):Prop:=∃m i e c,v=.agg #[m,i,e,c]/\QK lo w m i e c k y
theorem NQ.below (h:NQ lo v w k x y)(z:Γ w w w'):NQ lo v w' k x y:=by obtain⟨m,i,e,c,h1,K⟩:=h;exact⟨m,i,e,c,h1,K.below z⟩
theorem NQ.yV (h:NQ lo v w k x y)(hg:w.grownBy w' (some g))(hB:w.heap[g]?=some (.cells cu 28 (0,0))):NQ lo v w' k x y:=by obtain⟨m,i,e,c,h1,K⟩:=h;exact⟨m,i,e,c,h1,K.yV hg hB⟩
theorem Tv.below (h:Tv lo v w k y)(z:Γ w w w'):Tv lo v w' k y:=by obtain⟨m,i,e,c,h1,K⟩:=h;exact⟨m,i,e,c,h1,K.below z⟩
theorem Tv.yV (h:Tv lo v w k y)(hg:w.grownBy w' (some g))(hB:w.heap[g]?=some (.cells cu 28 (0,0))):Tv lo v w' k y:=by obtain⟨m,i,e,c,h1,K⟩:=h;exact⟨m,i,e,c,h1,K.yV hg hB⟩
def JG(lo:Nat)(b:Bool)(v:Φ)(w:Ω)(k:AR)(y:Int):Prop:=∃q,v=.pointer (some ⟨q,0,none⟩)/\lo<=q/\if b=true then ∃m i e c,w.heap[q]?=some (.cells #[m,i,e,c] 28 (0,0))/\QK lo w m i e c k y else w.heap[q]?=some (.cells #[ι,ι,ι,ι] 28 (0,0))
theorem JG.below{b:Bool}(h:JG lo b v w k y)(z:Γ w w w'):JG lo b v w' k y:=by
 obtain⟨q,h0,h1,K⟩:=h;refine⟨q,h0,h1,?_⟩;cases b
 .exact AB K z
 obtain⟨m,i,e,c,h3,h4⟩:=K
 exact⟨m,i,e,c,AB h3 z,h4.below z⟩
theorem JG.stay (h:JG lo false v w k y)(hf:fG w w'):JG lo false v w' k y:=by obtain⟨q,h0,h1,K⟩:=h;exact⟨q,h0,h1,(hf q _ K).trans K⟩
theorem MS (h:Ns w mv iv ev cv k)(hk:DZ k)(call:AT)(he:0<=call.e/\call.e<3)(g8:call.nm.size<=maxLen)(lZ:call.c<=9223372036854775807):
 Ξ prog 65 #[.agg #[mv,iv,ev,cv],.agg call.cs] w (Mr w (Ad k call)):=by
 have mH:=AA (λ(lo:Nat)(W:Ω)(m1 i1 e1 c1:Φ)(h:Du lo W m1 i1 e1 c1 k)(av:lo<=W.heap.size)=>aJ h av hk call he g8 lZ);have HR:=AA h;have pz:=AA hk;have HN:=AA (@Rr k call);generalize Ad k call=res at mH HN ⊢;obtain⟨kr,vr,nr⟩:=res;obtain⟨ck,ce,ca,cb,cc,nm⟩:=call;simp only[AT.cs] at mH ⊢;obtain⟨B0,B1,B2,al,gq⟩:=Ft w (.cells #[mv,iv,ev,cv] 28) (.cells #[ck,ce,ca,cb,cc,nm] 34) (.cells #[ι,ι,ι,ι] 28);have CC:=AA (λW (hW:Γ (((w.alloc (.cells #[mv,iv,ev,cv] 28)).alloc (.cells #[ck,ce,ca,cb,cc,nm] 34)).alloc (.cells #[ι,ι,ι,ι] 28)).heap.size _ W)=>MR mv iv ev cv k W ((HR.below al).below hW) pz.u);clear he g8 lZ h hk;go_in;go_wp2_with fail;generalize((w.alloc _).alloc _).alloc _=W0 at*;obtain⟨H,N,V,R⟩:=AG B0;obtain⟨y0,y1,y2,y3,y4,y5⟩:=IP B1;have hy:=AU B0;have kM:=AU B1;have bY:=AA al;have HB:=AA (yj B0 B2);clear al B0 B1 B2;have al:=kM;clear kM;refine Db 12 26 (λix=>ix==3||ix==9) [.a #[mv,iv,ev,cv],.z,.a #[.int .i64 ck,.int .i64 ce,.int .i64 ca,.int .i64 cb,.int .i64 cc,.string nm],.z,.z,.z,.i vr,.i nr,.z,.z,.i vr,.i nr] (λll ix vv ww=>match ix with
  |1=>Re W0 (ll 3) vv ww k
  |3|4=>NQ W0 vv ww kr vr nr
  |5=>Tv W0 vv ww kr nr
  |8=>JG W0 (ll 9) vv ww kr nr
  |_=>True) (λll ww=>Γ W0 W0 ww) ?_ ?_ ?_ ?_ ?_ ?_
 .exact Ap (yN _ _) 1
 .intro j hj ll i vv wz fp hi hS j7 nk bB hz
  match j,hj with
  |1,_=>exact(Re.below (by rw[Fg (by rintro rfl;exact absurd hS ψ)];exact hz) bB)
  |3,_|4,_=>exact(NQ.below hz bB)
  |5,_=>exact(Tv.below hz bB)
  |8,_=>exact(JG.below (by rw[Fg (by rintro rfl;exact absurd hS ψ)];exact hz) bB)
  |0,_|2,_|6,_|7,_|9,_|10,_|11,_=>exact hz
 .intro ll i wz fp hi hS j7 bB hg
  exact hg.trans (bB.mono hg.size)
 .intro i hi hS o Z a E Y ll J HL L h2 A
  have bw:=bc L hy H;have bu:=bc L hy N;have bE:=bc L hy V;have bL:=bc L hy R;have cT:=bc L al y0;have fl:=bc L al y1;have jE:=bc L al y2;have kl:=bc L al y3;have k6:=bc L al y4;have k5:=bc L al y5
  match i,hi,hS with
  |0,_,_=>exact Lb Z A Y J HL (hl:=P7 ‹_› ‹_› ‹_› ‹_›)
  |1,_,_=>exact gy Z A Y J HL (CC _ L) (by rintro r w_ ⟨m',i',e',c',rfl,hO,a4⟩;exact⟨_,rfl,(.inr ⟨m',i',e',c',rfl,hO.lower L.size⟩),a4⟩)
  |2,_,_=>exact Lb Z A Y J HL (hl:=f9 ‹_› ‹_› ‹_› ‹_› ‹_› ‹_›)
  |10,_,_|11,_,_=>exact Xn Z A Y J HL
  |3,_,hs|9,_,hs=>cases hs
  |4,_,_=>clear bw bu bE bL cT fl jE kl k6 k5;obtain rfl:=yP Z;have d3:NQ W0 (a.tmps[14]?.getD Θ) E kr vr nr:=Dc J HL 3;have u3:ll 3=true:=HL.2.1 3 φ;have u9:=Be HL 9;clear J Y;refine yO ?_;go_simp;exact A _ _ d3 (yN _ _)
  |5,_,_=>clear bw bu bE bL cT fl jE kl k6 k5;obtain rfl:=yP Z;have d4:NQ W0 (a.tmps[10]?.getD Θ) E kr vr nr:=Dc J HL 4;have u9:=Be HL 9;clear J Y;obtain⟨m',i',e',c',d4,hO⟩:=d4;refine yO ?_;go_simp;exact A _ _ ⟨_,_,_,_,rfl,hO⟩ (yN _ _)
  |6,_,_|7,_,_=>clear bw bu bE bL cT fl jE kl k6 k5;obtain rfl:=yP Z;have d4:NQ W0 (a.tmps[10]?.getD Θ) E kr vr nr:=Dc J HL 4;clear J Y;obtain⟨m',i',e',c',d4,hO⟩:=d4;refine yO ?_;go_simp;exact A _ _ rfl (yN _ _)
  |8,_,_=>clear bw bu bE bL cT fl jE kl k6 k5;obtain rfl:=yP Z;have u9:=Be HL 9;clear J Y;refine yO ?_;go_simp;exact A _ _ ⟨_,rfl,L.size,by rw[Fg ψ,u9];exact yx _ _⟩ (AJ _ _)
 .intro i hi hS o Z a E Y ll J HL L h2 A
  match i,hi,hS with
  |0,_,hs|1,_,hs|2,_,hs|4,_,hs|5,_,hs|6,_,hs|7,_,hs|8,_,hs|10,_,hs|11,_,hs=>cases hs
  |3,_,_=>
   obtain rfl:=yP Z;have d1:Re W0 (ll 3) (a.tmps[12]?.getD Θ) E k:=Dc J HL 1;have d2:(a.tmps[13]?.getD Θ)=.agg #[ck,ce,ca,cb,cc,nm]:=Dc J HL 2;have u9:=Be HL 9;clear J Y
   rcases d1 with d1|⟨m',i',e',c',d1,hO⟩
   .rw[HL.1] at d1;cases d1
   refine yO ?_;go_simp;refine(mH _ _ _ _ _ _ hO L.size).mono ?_;rintro r w_ ⟨m2,i2,e2,c2,rfl,hs,na,a4,hf⟩;exact A _ _ ⟨m2,i2,e2,c2,rfl,hs,na⟩ (L.trans a4) (λj f6 io ez hu=>match j,io with
    |0,_|2,_|6,_|7,_|9,_|10,_|11,_=>hu
    |1,_=> .inl (by rw[Gh])
    |3,_=>absurd rfl f6
    |4,_=>absurd (HL.2.2 4 3 (ez) φ) (by rw[HL.1];decide)
    |5,_=>absurd (HL.2.2 4 3 (HL.2.2 5 4 (ez) φ) φ) (by rw[HL.1];decide)
    |8,_=>by
     change JG _ (ll 9) _ _ _ _ at hu
     rw[u9] at hu
     show JG _ (Hz ll 3 9) _ _ _ _
     rw[Fg ψ,u9];exact JG.stay hu hf)
  |9,_,_=>
   obtain rfl:=yP Z;have d8:JG W0 (ll 9) (a.tmps[7]?.getD Θ) E kr nr:=Dc J HL 8;have d5:Tv W0 (a.tmps[15]?.getD Θ) E kr nr:=Dc J HL 5;have u3:ll 3=true:=HL.2.1 3 φ;clear J Y;obtain⟨qb,lm,lO,i5⟩:=d8;rw[HL.1] at i5;replace i5:E.heap[qb]?=some (.cells #[ι,ι,ι,ι] 28 (0,0)):=i5;obtain⟨m',i',e',c',d5,hO⟩:=d5;obtain⟨va,vn,vc,wa,wn,wc,xa,xn,xc,ya,yn,yc,rfl,rfl,rfl,rfl⟩:=hO.1;obtain⟨c0,nw,c2,c3⟩:=AG i5;have fq:=AI i5;have bD:=AA (Ar E qb (.slice va vn vc) (.slice wa wn wc) (.slice xa xn xc) (.slice ya yn yc));have pD:=AA lm;have Hq:=AA i5;have HO:=AA hO;clear i5 hO;refine yO ?_;go_simp;exact A Θ _ trivial (AM L bD lO L.size) (λj f6 io ez hu=>match j,io with
    |0,_|2,_|6,_|7,_|10,_|11,_=>hu
    |1,_=>by
     show Re _ (Hz ll 9 3) _ _ _
     rw[Fg ψ];exact Re.yV hu bD Hq.u
    |3,_|4,_=>NQ.yV hu bD Hq.u
    |5,_=>Tv.yV hu bD Hq.u
    |8,_=>⟨qb,pD.u,lO,by rw[Gh];exact⟨_,_,_,_,DF Hq.u,HO.yV bD Hq.u⟩⟩
    |9,_=>absurd rfl f6)
 intro D E ll df hR L
 have q8:JG W0 (ll 9) (D 8) E kr nr:=Bh hR 8;have fd:(D 10)=.int .i64 vr:=Bh hR 10;have ij:(D 11)=.int .i64 nr:=Bh hR 11;clear hR;simp only[DV,Bo,yL,yI,yJ,yH,fd,ij];simp;generalize D 8=z8 at q8 ⊢;clear fd ij;obtain⟨qb,rfl,lO,i5⟩:=q8;rw[df 9 ψ,if_pos rfl] at i5;obtain⟨m',i',e',c',lN,hO⟩:=i5;clear df H N V R y0 y1 y2 y3 y4 y5;obtain⟨va,vn,vc,wa,wn,wc,xa,xn,xc,ya,yn,yc,rfl,rfl,rfl,rfl⟩:=hO.1;obtain⟨c0,nw,c2,c3⟩:=AG lN;have mJ:=AB HB.1 L;have it:=AB HB.2 L;have kc:=AA (bY.trans (L.mono bY.size))
 by_cases h0:nr=0
 focus
  subst h0
  have hK:=hO.2 rfl;have bA:=AI it;obtain⟨z0,z1,z2,z3⟩:=AG it;obtain⟨E0,E1,E2,E3⟩:=KZ (m':=.slice va vn vc) (i':=.slice wa wn wc) (e':=.slice xa xn xc) (c':=.slice ya yn yc) it;have HE:=AA (yj E0 (yj E1 (yj E2 E3)));have bD:=Ar E (w.heap.size+1+1) (.slice va vn vc) (.slice wa wn wc) (.slice xa xn xc) (.slice ya yn yc);have lw:=AA (show Du w _ (.slice va vn vc) (.slice wa wn wc) (.slice xa xn xc) (.slice ya yn yc) kr from(hK.yV bD it).lower bY.size);have lz:=AA (AM kc bD ω kc.size);clear E0 E1 E2 E3 hO hK bD mJ it HN L lN
 rotate_left
 focus
  have t0:(nr !=0)=true:=by simp[h0]
  have hN:=HN h0;simp only[Prod.mk.injEq,and_true] at hN;obtain⟨rfl,rfl⟩:=hN;obtain⟨H,N,V,R⟩:=AG mJ;have pF:=CC E L;clear hO lN c0 nw c2 c3;go_wp2_with fail;refine pF.mono ?_;rintro r w4 ⟨m4,i4,e4,c4,rfl,O4,b4⟩;have B4:=AB it b4;have bA:=AI B4;obtain⟨z0,z1,z2,z3⟩:=AG B4;obtain⟨E0,E1,E2,E3⟩:=KZ (m':=m4) (i':=i4) (e':=e4) (c':=c4) B4;have HE:=AA (yj E0 (yj E1 (yj E2 E3)));have bD:=Ar w4 (w.heap.size+1+1) m4 i4 e4 c4;have lw:=AA (show Du w _ m4 i4 e4 c4 kr from(O4.yV bD B4).lower kc.size);have lz:=AA (AM (kc.trans (b4.mono kc.size)) bD ω (by have:=kc.size;have:=b4.size;omega));obtain⟨⟨_,_,_,rfl⟩,⟨_,_,_,rfl⟩,⟨_,_,_,rfl⟩,⟨_,_,_,rfl⟩⟩:=O4.Dq;clear E0 E1 E2 E3 O4 b4 B4 bD mJ it H N V R L
 rotate_left
 all_goals
  go_wp2_with fail;exact yB (v:=.tuple #[.agg #[_,_,_,_],_,_]) (by simp[results,Tryz.results65,go_sem,HE.u]) rfl ⟨_,_,_,_,rfl,lw.u,lz.u⟩
def LT(w:Ω)(res:Nu)(r:Ending)(w':Ω):Prop:=∃m i e c,r=.returned (.tuple #[.agg #[m,i,e,c],res.2.1,.bool (res.2.2==0)])/\Du w w' m i e c res.1/\Γ w w w'
theorem GT (h:Ns w m i e c k)(hk:DZ k)(kind a b x:Int)(hx:x<=9223372036854775807):
 Ξ prog 80 #[.agg #[m,i,e,c],.int .i64 kind,.int .i64 a,.int .i64 b,.int .i64 x] w (LT w (Ad k (Ah kind a b x))):=by
 obtain⟨N0,N1,al,gq⟩:=LG w (.cells #[m,i,e,c] 28) (.cells #[ι,ι,ι,ι] 28);have C:=MS (h.below al) hk (Ah kind a b x) ⟨Int.le_refl 0,(ψ:(0:Int)<3)⟩ (ψ:gA.size<=maxLen) hx;simp only[AT.cs,Ah,gA] at C ⊢;generalize Ad k ⟨kind,0,a,b,x,⟨#[97]⟩⟩=res at C ⊢;obtain⟨kr,vr,nr⟩:=res;have C:=AA C;clear h hk hx;obtain⟨H,N,V,R⟩:=AG N0;go_in;go_wp2_with fail;generalize(w.alloc _).alloc _=W0 at*;refine C.mono ?_;rintro r w1 ⟨m1,i1,e1,c1,rfl,O1,b1⟩;obtain⟨⟨ma,mn,mc,rfl⟩,⟨ia,iN,ic,rfl⟩,⟨ea,en,ec,rfl⟩,⟨qa,qn,qc,rfl⟩⟩:=O1.Dq;obtain⟨N2,b2⟩:=EU w1 (.cells #[.slice ma mn mc,.slice ia iN ic,.slice ea en ec,.slice qa qn qc] 28);have it:=AB (AB N1 b1) b2;have O2:=O1.below b2;have HW:=AA (al.trans ((b1.trans (b2.mono b1.size)).mono al.size));have bA:=AI it;obtain⟨z0,z1,z2,z3⟩:=AG it;obtain⟨p0,p1,p2,p3⟩:=AG N2;obtain⟨E0,E1,E2,E3⟩:=KZ (m':=.slice ma mn mc) (i':=.slice ia iN ic) (e':=.slice ea en ec) (c':=.slice qa qn qc) it;have HE:=AA (yj E0 (yj E1 (yj E2 E3)));have bD:=Ar (w1.alloc (.cells #[.slice ma mn mc,.slice ia iN ic,.slice ea en ec,.slice qa qn qc] 28)) (w.heap.size+1) (.slice ma mn mc) (.slice ia iN ic) (.slice ea en ec) (.slice qa qn qc);have lw:=AA (show Du w _ (.slice ma mn mc) (.slice ia iN ic) (.slice ea en ec) (.slice qa qn qc) kr from(O2.yV bD it).lower al.size);have lz:=AA (AM HW bD ω HW.size);clear E0 E1 E2 E3 bD it N0 N1 N2 H N V R O1 O2 b1 b2 al gq C;go_wp2_with fail;exact yB (v:=.tuple #[.agg #[_,_,_,_],_,_]) (by simp[results,Tryz.results80,go_sem,HE.u]) rfl ⟨_,_,_,_,rfl,lw.u,lz.u⟩
def Qt(lo:Nat)(w:Ω)(m i e c:Φ)(k:AR):Prop:=(∃D,AQ lo 29 1 HJ w m D/\Gj (AE lo w) D k.mem)/\AQ lo 115 3 Av w i k.Zh/\(∃ps,AQ lo 81 2 FM w e ps/\Gj (λp e=>AQ lo 9 1 A0 w p.1 e.Pj/\p.2=e.root) ps k.Xr)/\AQ lo 125 4 AY w c k.Xo
def cB(lo:Nat)(w:Ω)(u:Φ)(r:List Int):Prop:=AE lo w u r∨(r=[]/\∃a fm,u=.slice a 0 fm/\fm<=maxLen/\(a=none->fm=0))
theorem cB.rd{r:List Int}(h:cB lo w u r):A1 w u r:=by
 rcases h with h|⟨rfl,a,fm,rfl,h1,K⟩
 .exact AE.rd h
 exact⟨a,fm,rfl,yt _,h1,rfl,K,λh0=>absurd h0 (Nat.lt_irrefl 0)⟩
def Pc(lo:Nat)(w:Ω)(m i e c s l q:Φ)(P:AP):Prop:=Qt lo w m i e c P.V0/\(∃D,AQ lo 29 1 HJ w s D/\Gj (cB lo w) D P.swap)/\AE lo w l P.low/\AQ lo 87 3 DT w q P.Xs
section
variable {lo lo':Nat} {w w':Ω} {m i e c s l q:Φ} {k:AR} {P:AP}
theorem Du.sf(h:Du lo w m i e c k):Qt lo w m i e c k:=by obtain⟨⟨D,h1,K,_⟩,h3,⟨ps,h4,h5,_⟩,h6⟩:=h;exact⟨⟨D,h1,K⟩,h3,⟨ps,h4,h5⟩,h6⟩
theorem Es.sf(h:Es lo w m i e c s l q P):Pc lo w m i e c s l q P:=by
 obtain⟨D,h1,K,_⟩:=h.swp;exact⟨h.ker.sf,⟨D,h1,K.mono λ_ _ h=> .inl h⟩,h.low,h.pgs⟩
theorem Qt.rd(h:Qt lo w m i e c k):Ns w m i e c k:=by
 obtain⟨⟨D,h1,K⟩,h3,⟨ps,h4,h5⟩,h6⟩:=h;exact⟨⟨D,h1.rd,K.mono λ_ _ h=>AE.rd h⟩,h3.rd,⟨ps,h4.rd,h5.mono λ_ _ h=>⟨h.1.rd,h.2⟩⟩,h6.rd⟩
theorem Pc.rd(h:Pc lo w m i e c s l q P):JA w m i e c s l q P:=by
 obtain⟨h0,⟨D,h1,K⟩,h3,h4⟩:=h;exact⟨h0.rd,⟨D,h1.rd,K.mono λ_ _ h=>h.rd⟩,h3.rd,h4.rd⟩
theorem Qt.map(h:Qt lo w m i e c k)(f:∀t sz n v xs,t≠28->t≠32->w.ownsRow lo t sz v n xs->w'.ownsRow lo' t sz v n xs):Qt lo' w' m i e c k:=by
 obtain⟨⟨D,h1,K⟩,h3,⟨ps,h4,h5⟩,h6⟩:=h;exact⟨⟨D,f _ _ _ _ _ ψ ψ h1,K.mono λ_ _ h=>f _ _ _ _ _ ψ ψ h⟩,f _ _ _ _ _ ψ ψ h3,⟨ps,f _ _ _ _ _ ψ ψ h4,h5.mono λ_ _ h=>⟨f _ _ _ _ _ ψ ψ h.1,h.2⟩⟩,f _ _ _ _ _ ψ ψ h6⟩
theorem Pc.map(h:Pc lo w m i e c s l q P)(f:∀t sz n v xs,t≠28->t≠32->w.ownsRow lo t sz v n xs->w'.ownsRow lo' t sz v n xs):Pc lo' w' m i e c s l q P:=by
 obtain⟨h0,⟨D,h1,K⟩,h3,h4⟩:=h;exact⟨h0.map f,⟨D,f _ _ _ _ _ ψ ψ h1,K.mono λ_ _ h=>h.imp (f _ _ _ _ _ ψ ψ) id⟩,f _ _ _ _ _ ψ ψ h3,f _ _ _ _ _ ψ ψ h4⟩
theorem Ge{g:Nat}(hg:w.grownBy w' (some g))(hl:g<lo)(av:lo'<=lo):∀t sz n v xs,t≠28->t≠32->w.ownsRow lo t sz v n xs->w'.ownsRow lo' t sz v n xs:=λ_ _ _ _ _ _ _ h=>Bb (BU h hg (λk hk=>by cases hk;exact hl)) av
theorem Ka(z:Γ w w w')(av:lo'<=lo):∀t sz n v xs,t≠28->t≠32->w.ownsRow lo t sz v n xs->w'.ownsRow lo' t sz v n xs:=λ_ _ _ _ _ _ _ h=>Bb (A8 h z) av
theorem Ls{b T:Nat}{cu:Array Φ}(hg:w.grownBy w' (some b))(hB:w.heap[b]?=some (.cells cu T (0,0)))(hT:T=28∨T=32)(av:lo'<=lo):∀t sz n v xs,t≠28->t≠32->w.ownsRow lo t sz v n xs->w'.ownsRow lo' t sz v n xs:=
 λ_ _ _ _ _ h1 K h=>Bb (Eu h hg hB (by rcases hT with rfl|rfl;(· exact h1);(· exact K))) av
theorem Qt.Dq(h:Qt lo w m i e c k):(∃a n q,m=.slice a n q)/\(∃a n q,i=.slice a n q)/\(∃a n q,e=.slice a n q)/\∃a n q,c=.slice a n q:=by obtain⟨⟨D,h1,K⟩,h3,⟨ps,h4,h5⟩,h6⟩:=h;obtain⟨_,_,rfl,_,_⟩:=h1.rd.shape;obtain⟨_,_,rfl,_,_⟩:=h3.rd.shape;obtain⟨_,_,rfl,_,_⟩:=h4.rd.shape;obtain⟨_,_,rfl,_,_⟩:=h6.rd.shape;exact⟨⟨_,_,_,rfl⟩,⟨_,_,_,rfl⟩,⟨_,_,_,rfl⟩,⟨_,_,_,rfl⟩⟩
theorem Pc.Dq(h:Pc lo w m i e c s l q P):((∃a n q,m=.slice a n q)/\(∃a n q,i=.slice a n q)/\(∃a n q,e=.slice a n q)/\∃a n q,c=.slice a n q)/\(∃a n q,s=.slice a n q)/\(∃a n q,l=.slice a n q)/\∃a n r,q=.slice a n r:=by obtain⟨h0,⟨D,h1,K⟩,h3,h4⟩:=h;have h5:=h0.Dq;obtain⟨_,_,rfl,_,_⟩:=h1.rd.shape;obtain⟨_,_,rfl,_,_⟩:=h3.rd.shape;obtain⟨_,_,rfl,_,_⟩:=h4.rd.shape;exact⟨h5,⟨_,_,_,rfl⟩,⟨_,_,_,rfl⟩,⟨_,_,_,rfl⟩⟩
end
end Go.Proofs.YtlcnbkkcplllhaaGreatDoor
