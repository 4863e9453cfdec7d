/-
  Packed:7 texts.
-/
import Derived.Test.YtinbcpipjfljeaaGreatDoorY1
import Derived.Test.YtinbcpipjfljeaaGreatDoorY9
import Derived.Deep.DeepCutAuto
set_option linter.unusedVariables false
set_option linter.unusedSimpArgs false
set_option maxHeartbeats 16000000
set_option maxRecDepth 100000
open Go Go.Proofs.YtinbcpipjfljeaaGreatDoor
open And renaming intro->ye
open Go.Exit renaming inBlock->xS
open Go.IntKind renaming i64->wR
open Go.IntWalk renaming i64_in->xy
open Go.Lib renaming toList_data->xz
open Go.Proofs.Tryz renaming results212->vi,results215->vh,results217->uA,results218->wE,results219->vR
open Go.RowKit.Below renaming refl->yF
open Go.Value renaming oneCell'->xE
open Go.World renaming block_lt_of_cell?->yC
open Go renaming bodyPost_ret->yp,heap_alloc_new->yw
open Int renaming toNat_natCast->xY
open List renaming foldl_cons->yA,foldl_nil->yy,length->wU,length_append->yl,length_drop->vZ,length_take->xW,mem_singleton->xi,range->yE
open List.range renaming loop->yB
open Nat renaming le_add_right->vX,le_refl->yv,le_trans->yD
variable {k:AN} {lo:Nat} {cv ev iv mv:Value} {w:World} {ss:List ByteArray}
namespace Go.Proofs.YtinbcpipjfljeaaGreatDoor
open Go.Proofs.Tryz
open Go.RowKit
theorem VG {c:Ab} (h:c.k=1):Ad k c=Io k c:=by unfold Ad;rw[if_pos h]
theorem UR {m:Value} (h:DO lo w m iv ev cv k) (au:lo<=w.heap.size) (hk:DI k) (call:Ab) (he:0<=call.e/\call.e<3) (h2:call.k=1) (bv:call.nm.size<=maxLen):
 Calls prog 212 #[.agg #[m,iv,ev,cv], .agg call.cs] w (Kh lo w (Ad k call)):=by
 have a5:=SC.start h au call;have P0:Ad k call=if BN call.nm=false then(k,0,3) else if Bv (AJ k.zZ call.e.toNat).zV call.nm=false then(k,0,1) else if Am k.Os<0 then(k,0,4) else({k with Os:=k.Os.set (Am k.Os).toNat ⟨1,call.nm,0⟩,mem:=k.mem.set (Am k.Os).toNat [0,0,0,0]},Am k.Os,0):=VG h2
 have b7:=(Aw hk).1;have dn:=(Aw hk).2.1;obtain⟨gm,av,rfl,_⟩:=EL.mems a5 b7;obtain⟨am,bh,cm,ai,ni,ci,ae,bp,ce,ac,nc,cc,em,rfl,rfl,rfl⟩:=a5.zS;clear em;have S0:=AA a5;obtain⟨kk,e,a,b,c,nm⟩:=call;simp only at he bv;obtain⟨en,rfl⟩:∃n:Nat,e=(n:Int):=⟨e.toNat,by omega⟩
 simp only[Ab.cs,xY] at S0 P0 ⊢;have HP:=AA P0;have HK:=AA hk;have CR:=AA (fun W=>BM (ED nm W bv));have CM:=AA (fun W (h:Fk W (.slice ae bp ce) k.zZ)=>JP (.slice (some ⟨gm,0,none⟩) 12 av) (.slice ai ni ci) (.slice ae bp ce) (.slice ac nc cc) k en nm W h hk (by omega) bv);have CF:=AA (fun W (h:BU W (.slice ai ni ci) k.Os)=>Nv (.slice ai ni ci) k.Os W h);obtain⟨x0,x1,x2,x3⟩:=S0.out.xs;obtain⟨y0,y1,y2,y3,y4,y5⟩:=S0.out.ys6;have ch:=AA b7;have ex:=AA dn;generalize hrv:BN nm=rv at CR HP;generalize hmb:Bv (AJ k.zZ en).zV nm=mb at CM HP;have eu:=AA hrv;clear h h2 a5 he hk b7 dn bv P0 hrv hmb;generalize hW0:((w.alloc _).alloc _).alloc _=W0 at*;go_in;go_wp2_with fail;refine(CR.out _).mono ?_;rintro r w0 ⟨rfl,ds⟩;have S0:=AA (S0.out.below ds);clear x0 x1 x2 x3 y0 y1 y2 y3 y4 y5 ds hW0;cases rv
 .have al:=AA (show Ad k ⟨kk,(en:Int),a,b,c,nm⟩=(k,0,3) by rw[HP.out];rfl)
  clear HP CR CM CF;obtain⟨⟨x0,x1,x2,x3⟩,⟨⟨z0,z1,z2,z3⟩,a4⟩,HE,HR⟩:=S0.out.yJ au (v:=0) (code:=3) (al.out) (by decide);go_wp2_with ((try simp only[xS,Exit.then]);with_reducible refine yp ?_ rfl HR.out;obtain⟨E0,E1,E2,E3⟩:=HE.out;simp[results,vi,go_sem,E0,E1,E2,E3])
 .obtain⟨x0,x1,x2,x3⟩:=S0.out.xs
  obtain⟨y0,y1,y2,y3,y4,y5⟩:=S0.out.ys6;go_wp2_with fail;refine(CM.out _ S0.out.K.2.2.1).mono ?_;rintro r w1 ⟨rfl,a6⟩;have S1:=AA (S0.out.below a6);clear x0 x1 x2 x3 y0 y1 y2 y3 y4 y5 a6;cases mb
  .have al:=AA (show Ad k ⟨kk,(en:Int),a,b,c,nm⟩=(k,0,1) by rw[HP.out];rfl)
   obtain⟨⟨x0,x1,x2,x3⟩,⟨⟨z0,z1,z2,z3⟩,a4⟩,HE,HR⟩:=S1.out.yJ au (v:=0) (code:=1) (al.out) (by decide);go_wp2_with ((try simp only[xS,Exit.then]);with_reducible refine yp ?_ rfl HR.out;obtain⟨E0,E1,E2,E3⟩:=HE.out;simp[results,vi,go_sem,E0,E1,E2,E3])
  .have ay:=AA (show Ad k ⟨kk,(en:Int),a,b,c,nm⟩=if Am k.Os<0 then(k,0,4) else({k with Os:=k.Os.set (Am k.Os).toNat ⟨1,nm,0⟩,mem:=k.mem.set (Am k.Os).toNat [0,0,0,0]},Am k.Os,0) by rw[HP.out];rfl)
   obtain⟨x0,x1,x2,x3⟩:=S1.out.xs;clear HP;go_wp2_with fail;refine(CF.out _ S1.out.K.2.1).mono ?_;rintro r w2 ⟨rfl,az⟩;have S2:=AA (S1.out.below az);clear x0 x1 x2 x3 az
   by_cases cU:Am k.Os<0
   .have al:=AA (show Ad k ⟨kk,(en:Int),a,b,c,nm⟩=(k,0,4) by rw[ay.out,if_pos cU])
    clear ay;obtain⟨⟨x0,x1,x2,x3⟩,⟨⟨z0,z1,z2,z3⟩,a4⟩,HE,HR⟩:=S2.out.yJ au (v:=0) (code:=4) (al.out) (by decide);go_wp2_with ((try simp only[xS,Exit.then]);with_reducible refine yp ?_ rfl HR.out;obtain⟨E0,E1,E2,E3⟩:=HE.out;simp[results,vi,go_sem,E0,E1,E2,E3])
   .obtain⟨ea,_,_⟩:=FO (Os:=k.Os) (by omega)
    obtain⟨f,hf⟩:∃f:Nat,Am k.Os=(f:Int):=⟨(Am k.Os).toNat,by omega⟩
    have b9:f<12:=by have:=HK.out.len;omega
    have al:=AA (show Ad k ⟨kk,(en:Int),a,b,c,nm⟩=({k with Os:=k.Os.set f ⟨1,nm,0⟩,mem:=k.mem.set f [0,0,0,0]},(f:Int),0) by rw[ay.out,if_neg cU,hf];rfl);have CT:=AA (fun W hi=>Pz (.slice ai ni ci) k.Os nm f W hi ex.out eu.out hf b9);obtain⟨x0,x1,x2,x3⟩:=S2.out.xs;obtain⟨y0,y1,y2,y3,y4,y5⟩:=S2.out.ys6;rw[hf];clear ay hf cU ea;go_wp2_with fail;refine(CT.out _ S2.out.K.2.1).mono ?_;rintro r w3 ⟨v',rfl,hO,ca⟩;clear x0 x1 x2 x3 y0 y1 y2 y3 y4 y5;have S3:=AA (S2.out.zp ca hO);have c6:=AK (S2.out.below ca).yK.1;have dG:=(S2.out.below ca).xs.2.1;obtain⟨a9,c9,e9,_,_⟩:=hO.rd.shape;generalize wU _=n9 at e9;subst e9;clear hO ca;generalize hW9:w3.setCell _ _=W9 at S3;obtain⟨x0,x1,x2,x3⟩:=S3.out.xs;have ax:=S3.out.lts.2.1;have eK:(f:Int)<12:=by omega
    have dl:=(Ah.1 ch.out).1;go_wp2_with fail;refine BS 4 49 [.p w.heap.size 0, .s gm 12 av, .i ((f:Int)), .z] (fun ix vv ww=>match ix with
     |3=>AG W9.heap.size ww vv [0,0,0,0]
     |_=>True) ?_ ?_ ?_
    .intro i hi o ho a wx Hb Hd hG K HK
     have bf:=bc hG ax x0
     match i,hi with
     |0,_|2,_=>exact sP ho HK Hb Hd
     |1,_=>exact sL ho HK Hb Hd (hl:=GM ‹_›)
     |3,_=>clear bf;obtain rfl:=yH ho;clear Hd Hb;obtain⟨i0,dp,dj,di,dh⟩:=info_parts Tryz.zK;obtain⟨w9,a0,h3,h4⟩:=run_make_full (P:=prog) wx wx.heap.size 29 3 i0 _ 1 underlying29 dp dj di .i64 .i64 4 (by rw[dh];decide) (by decide) (yv _);have h5:=Below.zw h4;rw[UX (.int .i64 0) rfl 4] at h3;have dk:(Instr.makeSlice 29 (.int .i64 4) (.int .i64 4)).run prog wx= .ok (.slice (some ⟨wx.heap.size,0,none⟩) 4 4) w9:=a0;clear dp dj di dh a0;refine yG ?_;go_simp;exact HK.out _ _ (BR h3 hG.size) h5
    .intro i hi vv wz bX a7 hz
     match i,hi with
     |3,_=>exact(AG.below hz a7)
     |0,_|1,_|2,_=>exact hz
    .intro vs wx hR hG
     have q1:(vs 1)= .slice (some ⟨gm,0,none⟩) 12 av:=BZ hR 1;have q2:(vs 2)= .int .i64 f:=BZ hR 2;have q3:AG W9.heap.size wx (vs 3) [0,0,0,0]:=BZ hR 3;clear hR;simp only[Al,AV,yE,yB,yA,yy,q1,q2];simp;generalize vs 3=z3 at q3 ⊢;clear q1 q2;have S4:=AA (S3.out.newRow dl.symm hG q3 (by rw[dl];exact b9));obtain⟨eN,dx,eo,cC,eB,e2,_,_,D2,_⟩:=(S3.out.below hG).yK.zf ch.out b9;cases e2;have Fr:=AK (A6 ((S3.out.below hG).yK.2.2.1.choose_spec.1) gm rfl).choose_spec;obtain⟨a9,c9,e9,_,_⟩:=q3.rd.open;rw[show([0,0,0,0]:List Int).length=4 from rfl] at e9;subst e9;generalize hW10:wx.setCell _ _=W10 at S4;clear x0 x1 x2 x3 q3 hG ax;obtain⟨⟨x0,x1,x2,x3⟩,⟨⟨z0,z1,z2,z3⟩,a4⟩,HE,HR⟩:=S4.out.fin au (v:=(f:Int)) (code:=0) (al.out);go_wp2_with ((try simp only[xS,Exit.then]);with_reducible refine yp ?_ rfl HR.out;obtain⟨E0,E1,E2,E3⟩:=HE.out;simp[results,vi,go_sem,E0,E1,E2,E3])
theorem XY {m:List (List Int)} {xs:List AU} {f:Nat} {kind:Int}:(Gz m xs f kind ss).2=0∨(Gz m xs f kind ss).2=1∨(Gz m xs f kind ss).2=2:=by
 unfold Gz
 repeat' split
 all_goals simp
theorem Ur {m:List (List Int)} {xs:List AU} {f:Nat}:(Di m xs f).2=0∨(Di m xs f).2=1∨(Di m xs f).2=2:=by
 unfold Di
 repeat' split
 all_goals simp
theorem Vg (h:DO lo w mv iv ev cv k) (au:lo<=w.heap.size) (hk:DI k) (call:Ab) (he:0<=call.e/\call.e<3) (h2:call.k=4∨call.k=5):
 Calls prog 215 #[.agg #[mv,iv,ev,cv], .agg call.cs] w (Kh lo w (Ad k call)):=by
 have a5:=SC.start h au call;have P0:=Wo (k:=k) h2;obtain⟨gi,aq,e8,cI,_⟩:=a5.Os (by rw[hk.len];omega);rw[hk.len] at e8;obtain⟨am,bh,cm,ai,ni,ci,ae,bp,ce,ac,nc,cc,em,ei,ee,ec⟩:=a5.zS;subst e8;clear ei;have S0:=AA a5;obtain⟨kk,e,a,b,c,nm⟩:=call;simp only at he h2;obtain⟨en,rfl⟩:∃n:Nat,e=(n:Int):=⟨e.toNat,by omega⟩
 have bk:en<3:=by omega
 simp only[Ab.cs] at S0 P0 ⊢;obtain⟨rfl,rfl,rfl⟩:=ye em (ye ee ec);have HP:=AA P0;have HK:=AA hk;have Hl:=AA hk.len;obtain⟨bad,hbad⟩:∃b',decide (Bd a 0 11=false∨(zU k.Os a.toNat).k=0∨(kk=4/\Bb b=false))=b':=⟨_,rfl⟩
 have HB:=AA hbad;obtain⟨x0,x1,x2,x3⟩:=S0.out.xs;obtain⟨y0,y1,y2,y3,y4,y5⟩:=S0.out.ys6;clear h a5 he hk P0 h2 hbad;go_in;go_upto_region 1 with fail;go_cut [33] (fun dJ wx=>dJ= .bool bad/\SC lo w.heap.size ⟨kk,(en:Int),a,b,c,nm⟩ w wx (.slice am bh cm) (.slice (some ⟨gi,0,none⟩) 12 aq) (.slice ae bp ce) (.slice ac nc cc) k)
 case first=>
  go_wp2_with fail;refine(BM (Dx _ _)).mono ?_;rintro r w1 ⟨rfl,a6⟩;have S1:=AA (S0.out.below a6);clear x0 x1 x2 x3 y0 y1 y2 y3 y4 y5 a6;cases e1:Bd a 0 11
  .have E1:=AA e1
   clear e1;go_wp2_with fail;go_meet
   case rel=>exact⟨by rw[<-HB.out];simp[E1.out],S1.out⟩
  have ab:=Ac.1 e1;have E1:=AA e1;clear e1;obtain⟨an,rfl⟩:∃n:Nat,a=(n:Int):=⟨a.toNat,by omega⟩
  have cb:(an:Int)<12:=by omega
  obtain⟨x0,x1,x2,x3⟩:=S1.out.xs;obtain⟨y0,y1,y2,y3,y4,y5⟩:=S1.out.ys6;obtain⟨D0,_,_⟩:=S1.out.zU (f:=an) (by rw[Hl.out];omega);have HB:=AA (show decide (Bd (an:Int) 0 11=false∨(zU k.Os an).k=0∨(kk=4/\Bb b=false))=bad from HB.out);generalize(zU k.Os an).k=kd at*
  by_cases e0:kd=0
  .subst e0
   go_wp2_with fail;go_meet
   case rel=>exact⟨by rw[<-HB.out];simp,S1.out⟩
  have t0:(kd==0)=false:=by simp[e0]
  have E0:=AA e0;clear e0;cases tk:(kk==4)
  .have TK:=AA (show kk≠4 by simpa using tk)
   go_wp2_with fail;go_meet
   case rel=>exact⟨by rw[<-HB.out];simp[E1.out,E0.out,TK.out],S1.out⟩
  have TK:=AA (show kk=4 by simpa using tk);go_wp2_with fail;refine(BM (FT _ _)).mono ?_;rintro r w2 ⟨rfl,az⟩;have S2:=AA (S1.out.below az);clear x0 x1 x2 x3 y0 y1 y2 y3 y4 y5 D0 az;go_wp2_with fail;go_meet
  case rel=>exact⟨by rw[<-HB.out];cases hw:Bb b<;>simp[E1.out,E0.out,TK.out],S2.out⟩
 case rest=>
 obtain⟨rfl,hS⟩:=hcut;have S2:=AA hS;obtain⟨w2,rfl⟩:∃w2,w2=wc:=⟨_,rfl⟩
 clear x0 x1 x2 x3 y0 y1 y2 y3 y4 y5 hS S0;cases bad
 rotate_left
 .have al:=AA (HP.out.trans (if_pos (of_decide_eq_true HB.out)))
  clear HP HB;obtain⟨⟨x0,x1,x2,x3⟩,⟨⟨z0,z1,z2,z3⟩,a4⟩,HE,HR⟩:=S2.out.yJ au (v:=0) (code:=3) (al.out) (by decide);go_wp2_with ((try simp only[xS,Exit.then]);with_reducible refine yp ?_ rfl HR.out;obtain⟨E0,E1,E2,E3⟩:=HE.out;simp[results,vh,go_sem,E0,E1,E2,E3])
 have bZ:=of_decide_eq_false HB.out;have cH:=HP.out.trans (if_neg bZ);have ab:=Ac.1 (show Bd a 0 11=true by cases e1:Bd a 0 11;(· exact absurd (.inl e1) bZ);(· rfl));obtain⟨an,rfl⟩:∃n:Nat,a=(n:Int):=⟨a.toNat,by omega⟩
 have bd:an<12:=by omega
 have cb:(an:Int)<12:=by omega
 have dm:kk=4->Bb b=true:=fun x=>by cases e:Bb b;(· exact absurd (.inr (.inr ⟨x,e⟩)) bZ);(· rfl)
 have HG:=AA (Cb (Aw HK.out).2.1 _ (List.mem_of_getElem? (Ci (show an<k.Os.length by rw[Hl.out];exact bd))));have CP:=AA (fun W (h:MM W (.slice am bh cm) (.slice (some ⟨gi,0,none⟩) 12 aq) (.slice ae bp ce) (.slice ac nc cc) k)=>Qa _ _ _ _ k kk b c en an nm W h HK.out bk bd dm);replace cH:Ad k ⟨kk,(en:Int),(an:Int),b,c,nm⟩=if Bv (AJ k.zZ en).zV (zU k.Os an).g=false then(k,0,1) else EA k (if kk=4 then Gz k.mem k.Os an b (AJ k.zZ en).zV else Di k.mem k.Os an):=cH
 have ay:=AA cH;have HC:=AA (show(if kk=4 then Gz k.mem k.Os an b (AJ k.zZ en).zV else Di k.mem k.Os an).2=0∨(if kk=4 then Gz k.mem k.Os an b (AJ k.zZ en).zV else Di k.mem k.Os an).2=1∨(if kk=4 then Gz k.mem k.Os an b (AJ k.zZ en).zV else Di k.mem k.Os an).2=2 by
  split
  .exact XY
  .exact Ur)
 generalize(if kk=4 then Gz k.mem k.Os an b (AJ k.zZ en).zV else Di k.mem k.Os an)=res at CP ay HC;clear HP HB bZ ab dm cH;obtain⟨x0,x1,x2,x3⟩:=S2.out.xs;obtain⟨y0,y1,y2,y3,y4,y5⟩:=S2.out.ys6;obtain⟨_,D1,_⟩:=S2.out.zU (f:=an) (by rw[Hl.out];exact bd);obtain⟨ba,ax,_,_⟩:=S2.out.lts;have cT:=S2.out.zo;have CM:=AA (fun W (h:Fk W (.slice ae bp ce) k.zZ)=>JP (.slice am bh cm) (.slice (some ⟨gi,0,none⟩) 12 aq) (.slice ae bp ce) (.slice ac nc cc) k en (zU k.Os an).g W h HK.out bk HG.out);generalize(zU k.Os an).g=gd at D1 CM ay;generalize Bv (AJ k.zZ en).zV gd=mb at CM ay;go_wp2_with fail;refine Aa 10 64 [.a #[.slice am bh cm, .slice (some ⟨gi,0,none⟩) 12 aq, .slice ae bp ce, .slice ac nc cc], .p (w.heap.size+1) 1, .i ((en:Int)), .p w.heap.size 1, .s gi 12 aq, .p (w.heap.size+1) 2, .i ((an:Int)), .p gi (an*3), .p gi (an*3+1), .t gd] (fun _ _ _=>True) ?_ ?_
 .intro i hi o ho a wx Hb Hd hG K HK
  have bf:=bc hG ax x0;have bj:=bc hG ax x1;have bq:=bc hG ax x2;have bu:=bc hG ax x3;have cG:=bc hG ba y1;have dg:=bc hG ba y2;have dP:=bc hG cT D1
  match i,hi with
  |0,_=>exact sL ho HK Hb Hd (hl:=NZ ‹_› ‹_› ‹_› ‹_›)
  |1,_|3,_|5,_|8,_=>exact sP ho HK Hb Hd
  |2,_|6,_=>exact sL ho HK Hb Hd (hl:=Fo ‹_›)
  |4,_=>exact sL ho HK Hb Hd (hl:=GF ‹_›)
  |7,_=>exact sI ho HK Hb Hd (hr:=by clear Hd Hb HK;go_simp)
  |9,_=>exact sL ho HK Hb Hd (hl:=Yf ‹_›)
 .intro vs wx hR hG
  have q0:(vs 0)= .agg #[.slice am bh cm, .slice (some ⟨gi,0,none⟩) 12 aq, .slice ae bp ce, .slice ac nc cc]:=BZ hR 0;have q2:(vs 2)= .int .i64 en:=BZ hR 2;have q9:(vs 9)= .string gd:=BZ hR 9;clear hR;simp only[Al,AV,yE,yB,yA,yy,q0,q2,q9];simp;clear q0 q2 q9;have S3:=AA (S2.out.below hG);clear x0 x1 x2 x3 y0 y1 y2 y3 y4 y5 D1 hG;go_wp2_with fail;refine(CM.out _ S3.out.K.2.2.1).mono ?_;rintro r w4 ⟨rfl,bs⟩;have S4:=AA (S3.out.below bs);clear bs;cases mb
  .have al:=AA (show Ad k ⟨kk,(en:Int),(an:Int),b,c,nm⟩=(k,0,1) by rw[ay.out];rfl)
   obtain⟨⟨x0,x1,x2,x3⟩,⟨⟨z0,z1,z2,z3⟩,a4⟩,HE,HR⟩:=S4.out.yJ au (v:=0) (code:=1) (al.out) (by decide);go_wp2_with ((try simp only[xS,Exit.then]);with_reducible refine yp ?_ rfl HR.out;obtain⟨E0,E1,E2,E3⟩:=HE.out;simp[results,vh,go_sem,E0,E1,E2,E3])
  .obtain⟨x0,x1,x2,x3⟩:=S4.out.xs
   obtain⟨y0,y1,y2,y3,y4,y5⟩:=S4.out.ys6;obtain⟨ri,rc⟩:=res;have al:=AA (show Ad k ⟨kk,(en:Int),(an:Int),b,c,nm⟩=EA k (ri,rc) by rw[ay.out];rfl);go_wp2_with fail;refine(CP.out _ S4.out.K).mono ?_;rintro r w5 ⟨v',rfl,hO,bm⟩;simp only at hO ⊢;clear x0 x1 x2 x3 y0 y1 y2 y3 y4 y5 ay
   rcases HC.out with e|e|e<;>subst e
   .have S5:=AA (S4.out.zp bm hO)
    have c6:=AK (S4.out.below bm).yK.1;have dG:=(S4.out.below bm).xs.2.1;obtain⟨a9,c9,e9,_,_⟩:=hO.rd.shape;generalize wU _=n9 at e9;subst e9;clear hO bm;generalize hW9:w5.setCell _ _=W9 at S5;obtain⟨⟨x0,x1,x2,x3⟩,⟨⟨z0,z1,z2,z3⟩,a4⟩,HE,HR⟩:=S5.out.fin au (v:=0) (code:=0) (al.out);go_wp2_with ((try simp only[xS,Exit.then]);with_reducible refine yp ?_ rfl HR.out;obtain⟨E0,E1,E2,E3⟩:=HE.out;simp[results,vh,go_sem,E0,E1,E2,E3])
   all_goals
    have S5:=AA (S4.out.below bm);obtain⟨a9,c9,e9,_,_⟩:=hO.rd.shape;generalize wU _=n9 at e9;subst e9;clear hO bm;obtain⟨⟨x0,x1,x2,x3⟩,⟨⟨z0,z1,z2,z3⟩,a4⟩,HE,HR⟩:=S5.out.yJ au (v:=0) (code:=_) (al.out) (by first|exact(by decide:Mi 1≠0)|exact(by decide:Mi 2≠0));go_wp2_with ((try simp only[xS,Exit.then]);with_reducible refine yp ?_ rfl HR.out;obtain⟨E0,E1,E2,E3⟩:=HE.out;simp[results,vh,Mi,go_sem,E0,E1,E2,E3])
theorem Zt (h:DI k) {o:Int}:(HZ k.Os o).length=12/\∀n<12,0 - 1<=(zU (HZ k.Os o) n).r/\(zU (HZ k.Os o) n).r<=47:=by
 unfold HZ
 split
 .refine⟨Cy.trans h.len,fun n hn=>?_⟩
  have r1:=h.yR hn;rw[FR]
  split
  .next hx=>
   rw[hx.1] at r1
   show 0 - 1<=(zU k.Os _).r+ -1/\(zU k.Os _).r+ -1<=47
   omega
  .omega
 .exact⟨h.len,fun n hn=>by have r1:=h.yR hn;omega⟩
theorem UQ (h:DO lo w mv iv ev cv k) (au:lo<=w.heap.size) (hk:DI k) (call:Ab) (he:0<=call.e/\call.e<3) (h2:call.k=7):
 Calls prog 217 #[.agg #[mv,iv,ev,cv], .agg call.cs] w (Kh lo w (Ad k call)):=by
 have a5:=SC.start h au call;have P0:=(VF (k:=k) h2).trans Y2;obtain⟨ge,ar,e9,_,_⟩:=a5.zZ (by rw[hk.zP];omega);rw[hk.zP] at e9;obtain⟨gi,aq,e8,_,_⟩:=a5.Os (by rw[hk.len];omega);rw[hk.len] at e8;obtain⟨am,bh,cm,ai,ni,ci,ae,bp,ce,ac,nc,cc,em,ei,ee,ec⟩:=a5.zS;subst e8 e9 em ec;clear ei ee;have S0:=AA a5;obtain⟨kk,e,ra,b,c,nm⟩:=call;simp only at he h2;subst h2;obtain⟨en,rfl⟩:∃n:Nat,e=(n:Int):=⟨e.toNat,by omega⟩
 have bk:en<3:=by omega
 have cz:(en:Int)<3:=by omega
 simp only[Ab.cs,xY] at S0 P0 ⊢;obtain⟨rt,hrt⟩:∃r,(AJ k.zZ en).root=r:=⟨_,rfl⟩
 rw[hrt] at P0;have dA:=AA hrt;have HP:=AA P0;have HK:=AA hk;obtain⟨bad,hbad⟩:∃b,decide (ra≠ -1/\(Bd ra 0 11=false∨(zU k.Os ra.toNat).k≠3))=b:=⟨_,rfl⟩
 have HB:=AA hbad;obtain⟨x0,x1,x2,x3⟩:=S0.out.xs;obtain⟨y0,y1,y2,y3,y4,y5⟩:=S0.out.ys6;clear h a5 he hk hrt hbad P0;go_in;go_upto_region 1 with fail;go_cut [26] (fun dM wx=>dM= .bool bad/\SC lo w.heap.size ⟨7,(en:Int),ra,b,c,nm⟩ w wx (.slice am bh cm) (.slice (some ⟨gi,0,none⟩) 12 aq) (.slice (some ⟨ge,0,none⟩) 3 ar) (.slice ac nc cc) k)
 case first=>
  by_cases e1:ra= -1
  .have t1:(ra != -1)=false:=by simp[e1]
   have E1:=AA e1;clear e1;go_wp2_with fail;go_meet
   case rel=>exact⟨by rw[<-HB.out];simp[E1.out],S0.out⟩
  .have t1:(ra != -1)=true:=by simp[e1]
   have E1:=AA e1;clear e1;go_wp2_with fail;refine(BM (Dx _ _)).mono ?_;rintro r w1 ⟨rfl,a6⟩;have S1:=AA (S0.out.below a6);clear x0 x1 x2 x3 y0 y1 y2 y3 y4 y5;cases e2:Bd ra 0 11
   .go_wp2_with fail
    go_meet
    case rel=>exact⟨by rw[<-HB.out];simp[E1.out,e2],S1.out⟩
   .have ab:=Ac.1 e2
    have E2:=AA e2;clear e2;obtain⟨an,rfl⟩:∃n:Nat,ra=(n:Int):=⟨ra.toNat,by omega⟩
    have cb:(an:Int)<12:=by omega
    obtain⟨x0,x1,x2,x3⟩:=S1.out.xs;obtain⟨y0,y1,y2,y3,y4,y5⟩:=S1.out.ys6;obtain⟨d0,_,_⟩:=S1.out.zU (f:=an) (by rw[HK.out.len];omega);go_wp2_with fail;go_meet
    case rel=>exact⟨by rw[<-HB.out];by_cases h3:(zU k.Os an).k=3<;>simp[E1.out,E2.out,h3],S1.out⟩
 case rest=>
 obtain⟨rfl,hS⟩:=hcut;have S2:=AA hS;obtain⟨w2,rfl⟩:∃w2,w2=wc:=⟨_,rfl⟩
 clear x0 x1 x2 x3 y0 y1 y2 y3 y4 y5 hS S0;cases bad
 .have ay:=AA (HP.out.trans (if_neg (of_decide_eq_false HB.out)))
  have Ha:=AA (show(ra= -1∨0<=ra)/\ra<12 by
   have:=of_decide_eq_false HB.out
   by_cases e1:ra= -1
   .omega
   .cases e2:Bd ra 0 11
    .exact absurd ⟨e1, .inl e2⟩ this
    .have:=Ac.1 e2
     omega)
  clear HP HB;obtain⟨x0,x1,x2,x3⟩:=S2.out.xs;obtain⟨y0,y1,y2,y3,y4,y5⟩:=S2.out.ys6;obtain⟨ba,ax,_,_⟩:=S2.out.lts;have bD:=S2.out.yW;obtain⟨ua,uc,D0,D1,R⟩:=S2.out.env (j:=en) (by rw[HK.out.zP];exact bk);have RM:=S2.out.K.1;have RI:=S2.out.K.2.1;have CX:=AA (fun W (hW:Below w2.heap.size w2 W)=>It _ k.mem ra W (RM.below hW) (Aw HK.out).1 Ha.out.2);have CA:=AA (fun W (hW:Below w2.heap.size w2 W) v2 (h2:Ax W v2 (Ay (EY k.mem ra)))=>by have:=Fz _ v2 _ k.Os (EY k.mem ra) (AJ k.zZ en).zV W (BJ.below RI hW) h2 (BJ.below R hW) (fun f hf=>by have:=zy Ha.out.2 f ((F5 Ha.out.2 f).1 hf);have:=HK.out.len;omega) (Cb (Aw HK.out).2.1) (H7 HK.out bk);rw[Fq (F5 Ha.out.2)] at this;exact this);generalize BC k.Os (BY k.mem ra) (AJ k.zZ en).zV=bb at CA ay;clear RM RI R;go_wp2_with fail;refine BS 14 98 [.p w.heap.size 1, .s gi 12 aq, .p w.heap.size 0, .v (.slice am bh cm), .p (w.heap.size+1) 2, .i ra, .z, .p w.heap.size 2, .s ge 3 ar, .p (w.heap.size+1) 1, .i ((en:Int)), .p ge (en*2), .p ge (en*2), .v (.slice ua (AJ k.zZ en).zV.length uc)] (fun ix vv ww=>match ix with
   |6=>AG w2.heap.size ww vv (Ay (EY k.mem (ra)))
   |_=>True) ?_ ?_ ?_
  .intro i hi o ho a wx Hb Hd hG K HK
   have bf:=bc hG ax x1;have bj:=bc hG ax x0;have bq:=bc hG ba y2;have bu:=bc hG ax x2;have cG:=bc hG ba y1;have dg:=bc hG bD D0
   match i,hi with
   |0,_|2,_|4,_|7,_|9,_|12,_=>exact sP ho HK Hb Hd
   |1,_=>exact sL ho HK Hb Hd (hl:=GF ‹_›)
   |3,_=>exact sL ho HK Hb Hd (hl:=GM ‹_›)
   |5,_|10,_=>exact sL ho HK Hb Hd (hl:=Fo ‹_›)
   |6,_=>exact sC ho HK Hb Hd (CX.out _ hG) (by rintro e w_ ⟨v',rfl,hO,az⟩;exact⟨_,rfl,(BR hO hG.size),az⟩)
   |8,_=>exact sL ho HK Hb Hd (hl:=NX ‹_›)
   |11,_=>exact sI ho HK Hb Hd (hr:=by clear Hd Hb HK;go_simp)
   |13,_=>exact sL ho HK Hb Hd (hl:=K9 ‹_›)
  .intro i hi vv wz bX a7 hz
   match i,hi with
   |6,_=>exact(AG.below hz a7)
   |0,_|1,_|2,_|3,_|4,_|5,_|7,_|8,_|9,_|10,_|11,_|12,_|13,_=>exact hz
  .intro vs wx hR hG
   have q1:(vs 1)= .slice (some ⟨gi,0,none⟩) 12 aq:=BZ hR 1;have q6:AG w2.heap.size wx (vs 6) (Ay (EY k.mem (ra))):=BZ hR 6;have bg:(vs 13)= .slice ua (AJ k.zZ en).zV.length uc:=BZ hR 13;clear hR;simp only[Al,AV,yE,yB,yA,yy,q1,bg];simp;generalize vs 6=z6 at q6 ⊢;clear q1 bg;have S3:=AA (S2.out.below hG);obtain⟨a8,c8,e8,_⟩:=q6.rd.open;have HQ:=AA q6.rd;generalize wU _=n8 at e8;subst e8;have bV:=AA hG;clear x0 x1 x2 x3 y0 y1 y2 y3 y4 y5 D0 D1 hG q6;go_wp2_with fail;refine(CA.out _ bV.out _ HQ.out).mono ?_;rintro r w4 ⟨rfl,bs⟩;have S4:=AA (S3.out.below bs);clear bs bV HQ CA;cases bb
   .have al:=AA (ay.out.trans (if_pos rfl))
    obtain⟨⟨x0,x1,x2,x3⟩,⟨⟨z0,z1,z2,z3⟩,a4⟩,HE,HR⟩:=S4.out.yJ au (v:=0) (code:=1) (al.out) (by decide);go_wp2_with ((try simp only[xS,Exit.then]);with_reducible refine yp ?_ rfl HR.out;obtain⟨E0,E1,E2,E3⟩:=HE.out;simp[results,uA,go_sem,E0,E1,E2,E3])
   have al:=AA (ay.out.trans (if_neg (by decide)));clear ay;obtain⟨x0,x1,x2,x3⟩:=S4.out.xs;obtain⟨y0,y1,y2,y3,y4,y5⟩:=S4.out.ys6;obtain⟨_,_,_,D1,_⟩:=S4.out.env (j:=en) (by rw[HK.out.zP];exact bk);rw[dA.out] at D1;go_upto_if 53 with fail;clear x0 x1 x2 x3 y0 y1 y2 y3 y4 y5 D1;go_cut [] (fun wx=>SC lo w.heap.size ⟨7,(en:Int),ra,b,c,nm⟩ w wx (.slice am bh cm) (.slice (some ⟨gi,0,none⟩) 12 aq) (.slice (some ⟨ge,0,none⟩) 3 ar) (.slice ac nc cc) {k with Os:=HZ k.Os rt})
   case first=>
    by_cases ho:rt<0
    .have t5:¬(0:Int)<=rt:=by omega
     go_wp2_with fail;go_meet
     case rel=>exact(by unfold HZ;rw[if_neg (by omega)];exact S4.out)
    .obtain⟨rn,rfl⟩:∃n:Nat,rt=(n:Int):=⟨rt.toNat,by omega⟩
     have be:rn<12:=by have:=zC HK.out bk;rw[dA.out] at this;omega
     have t5:(0:Int)<=(rn:Int):=by omega
     clear ho;obtain⟨x0,x1,x2,x3⟩:=S4.out.xs;obtain⟨y0,y1,y2,y3,y4,y5⟩:=S4.out.ys6;obtain⟨ba,ax,_,_⟩:=S4.out.lts;have cI:=S4.out.zo;obtain⟨_,_,d2⟩:=S4.out.zU (f:=rn) (by show rn<(k.Os).length;have:=HK.out.len;omega)
     try simp only at d2
     have b6:=HK.out.yR be;generalize hrv:(zU (k.Os) rn).r=rv at d2 b6;obtain⟨nr,hnr⟩:∃nr,rv - 1=nr:=⟨_,rfl⟩
     have cE:=AA hnr;clear hnr;have cZ:(rn:Int)<12:=by omega
     go_wp2_with fail;refine Aa 10 98 [.p w.heap.size 1, .s gi 12 aq, .i ((rn:Int)), .p w.heap.size 1, .s gi 12 aq, .i ((rn:Int)), .p gi (rn*3), .p gi (rn*3+2), .i rv, .i nr] (fun _ _ _=>True) ?_ ?_
     .intro i hi o ho a wx Hb Hd hG K HK
      have bf:=bc hG ax x1;have bj:=bc hG cI d2
      match i,hi with
      |0,_|2,_|3,_|5,_|7,_=>exact sP ho HK Hb Hd
      |1,_|4,_=>exact sL ho HK Hb Hd (hl:=GF ‹_›)
      |6,_=>exact sI ho HK Hb Hd (hr:=by clear Hd Hb HK;go_simp)
      |8,_=>exact sL ho HK Hb Hd (hl:=Fo ‹_›)
      |9,_=>clear bf bj;obtain rfl:=yH ho;have d8:(a.tmps[62]?.getD undef)= .int .i64 rv:=BT Hd 8;clear Hd Hb;refine yG ?_;go_simp;exact HK.out _ _ (by show Value.int .i64 (wR.wrap (rv - 1))= .int .i64 nr;rw[xy _ (by omega),cE.out]) (yF _ _)
     .intro vs wx hR hG
      have q1:(vs 1)= .slice (some ⟨gi,0,none⟩) 12 aq:=BZ hR 1;have q2:(vs 2)= .int .i64 rn:=BZ hR 2;have q9:(vs 9)= .int .i64 nr:=BZ hR 9;clear hR;simp only[Al,AV,yE,yB,yA,yy,q1,q2,q9];simp;clear q1 q2 q9;have SB:=AA (S4.out.below hG);obtain⟨_,_,cA⟩:=SB.out.zU (f:=rn) (by show rn<(k.Os).length;have:=HK.out.len;omega);have Fr:=SB.out.fzi (rn*3+2);have S5:=SB.out.info (by show 12=(k.Os).length;have:=HK.out.len;omega) (f:=rn) (by show rn<(k.Os).length;have:=HK.out.len;omega) (-1)
      try simp only at S5 cA
      rw[hrv] at S5 cA;rw[show rv+ -1=nr by have:=cE.out;omega] at S5;replace S5:=AA S5;generalize hW5:wx.setCell _ _=W5 at S5;clear x0 x1 x2 x3 y0 y1 y2 y3 y4 y5 d2 hG SB;go_wp2_with fail;go_meet
      case rel=>exact(by unfold HZ;rw[if_pos (by omega),xY];exact S5.out)
   case rest=>
   have hX:=Zt (o:=rt) HK.out;generalize HZ k.Os rt=X at*;obtain⟨eM,dt⟩:=hX;have S5:=AA hcut;obtain⟨W5,rfl⟩:∃W5,W5=wc:=⟨_,rfl⟩
   clear hcut S4;obtain⟨y0,y1,y2,y3,y4,y5⟩:=S5.out.ys6;go_upto_if 68 with fail;clear y0 y1 y2 y3 y4 y5;go_cut [] (fun wx=>SC lo w.heap.size ⟨7,(en:Int),ra,b,c,nm⟩ w wx (.slice am bh cm) (.slice (some ⟨gi,0,none⟩) 12 aq) (.slice (some ⟨ge,0,none⟩) 3 ar) (.slice ac nc cc) {k with Os:=Mn X ra})
   case first=>
    by_cases ho:ra<0
    .have t7:¬(0:Int)<=ra:=by omega
     go_wp2_with fail;go_meet
     case rel=>exact(by unfold Mn;rw[if_neg (by omega)];exact S5.out)
    .obtain⟨an,rfl⟩:∃n:Nat,ra=(n:Int):=⟨ra.toNat,by omega⟩
     have bd:an<12:=by have:=Ha.out.2;omega
     have t7:(0:Int)<=(an:Int):=by omega
     clear ho;obtain⟨x0,x1,x2,x3⟩:=S5.out.xs;obtain⟨y0,y1,y2,y3,y4,y5⟩:=S5.out.ys6;obtain⟨ba,ax,_,_⟩:=S5.out.lts;have cI:=S5.out.zo;obtain⟨_,_,d2⟩:=S5.out.zU (f:=an) (by show an<(X).length;have:=HK.out.len;omega)
     try simp only at d2
     have b6:=dt an bd;generalize hrv:(zU (X) an).r=rv at d2 b6;obtain⟨nr,hnr⟩:∃nr,rv+1=nr:=⟨_,rfl⟩
     have cE:=AA hnr;clear hnr;have cZ:(an:Int)<12:=by omega
     go_wp2_with fail;refine Aa 12 98 [.p w.heap.size 1, .s gi 12 aq, .p (w.heap.size+1) 2, .i ((an:Int)), .p w.heap.size 1, .s gi 12 aq, .p (w.heap.size+1) 2, .i ((an:Int)), .p gi (an*3), .p gi (an*3+2), .i rv, .i nr] (fun _ _ _=>True) ?_ ?_
     .intro i hi o ho a wx Hb Hd hG K HK
      have bf:=bc hG ax x1;have bj:=bc hG ba y2;have bq:=bc hG cI d2
      match i,hi with
      |0,_|2,_|4,_|6,_|9,_=>exact sP ho HK Hb Hd
      |1,_|5,_=>exact sL ho HK Hb Hd (hl:=GF ‹_›)
      |3,_|7,_|10,_=>exact sL ho HK Hb Hd (hl:=Fo ‹_›)
      |8,_=>exact sI ho HK Hb Hd (hr:=by clear Hd Hb HK;go_simp)
      |11,_=>clear bf bj bq;obtain rfl:=yH ho;have bz:(a.tmps[79]?.getD undef)= .int .i64 rv:=BT Hd 10;clear Hd Hb;refine yG ?_;go_simp;exact HK.out _ _ (by show Value.int .i64 (wR.wrap (rv+1))= .int .i64 nr;rw[xy _ (by omega),cE.out]) (yF _ _)
     .intro vs wx hR hG
      have q1:(vs 1)= .slice (some ⟨gi,0,none⟩) 12 aq:=BZ hR 1;have q3:(vs 3)= .int .i64 an:=BZ hR 3;have b5:(vs 11)= .int .i64 nr:=BZ hR 11;clear hR;simp only[Al,AV,yE,yB,yA,yy,q1,q3,b5];simp;clear q1 q3 b5;have SB:=AA (S5.out.below hG);obtain⟨_,_,cA⟩:=SB.out.zU (f:=an) (by show an<(X).length;have:=HK.out.len;omega);have Fr:=SB.out.fzi (an*3+2);have S6:=SB.out.info (by show 12=(X).length;have:=HK.out.len;omega) (f:=an) (by show an<(X).length;have:=HK.out.len;omega) (1)
      try simp only at S6 cA
      rw[hrv] at S6 cA;rw[show rv+1=nr by have:=cE.out;omega] at S6;replace S6:=AA S6;generalize hW6:wx.setCell _ _=W6 at S6;clear x0 x1 x2 x3 y0 y1 y2 y3 y4 y5 d2 hG SB;go_wp2_with fail;go_meet
      case rel=>exact(by unfold Mn;rw[if_pos (by omega),xY];exact S6.out)
   case rest=>
   have S6:=AA hcut;obtain⟨W6,rfl⟩:∃W6,W6=wc:=⟨_,rfl⟩
   clear hcut S5 dt;obtain⟨x0,x1,x2,x3⟩:=S6.out.xs;obtain⟨y0,y1,y2,y3,y4,y5⟩:=S6.out.ys6;obtain⟨_,_,D0,D1,_⟩:=S6.out.env (j:=en) (by show en<k.zZ.length;rw[HK.out.zP];exact bk);have Fe:=S6.out.fze (en*2+1);have T1:=AA (S6.out.root HK.out.zP.symm (by show en<k.zZ.length;rw[HK.out.zP];exact bk) ra);generalize hW7:W6.setCell _ _=W7 at T1;have CD:=AA (fun W (h:Dt W (.slice ac nc cc) k.zY)=>PT (.slice ac nc cc) k.zY (en:Int) W h (by have:=PM HK.out;omega));have dd:=T1.out.xs.2.2.2;obtain⟨_,yo,_⟩:=T1.out.ys6;go_wp2_with fail;refine(CD.out _ T1.out.K.2.2.2).mono ?_;rintro r w8 ⟨v',rfl,hO,cK⟩;have T2:=AA (T1.out.zY cK hO);have c6:=AK (T1.out.below cK).yK.1;have eA:=(T1.out.below cK).xs.2.2.2;clear x0 x1 x2 x3 y0 y1 y2 y3 y4 y5 dd yo D0 D1 Fe hW7;obtain⟨a9,c9,e9,_,_⟩:=hO.rd.shape;generalize wU _=n9 at e9;subst e9;clear hO cK;generalize hW10:w8.setCell _ _=W10 at T2;obtain⟨⟨x0,x1,x2,x3⟩,⟨⟨z0,z1,z2,z3⟩,a4⟩,HE,HR⟩:=T2.out.fin au (v:=0) (code:=0) (al.out);go_wp2_with ((try simp only[xS,Exit.then]);with_reducible refine yp ?_ rfl HR.out;obtain⟨E0,E1,E2,E3⟩:=HE.out;simp[results,uA,go_sem,E0,E1,E2,E3])
 .have al:=AA (HP.out.trans (if_pos (of_decide_eq_true HB.out)))
  clear HP HB;obtain⟨⟨x0,x1,x2,x3⟩,⟨⟨z0,z1,z2,z3⟩,a4⟩,HE,HR⟩:=S2.out.yJ au (v:=0) (code:=3) (al.out) (by decide);go_wp2_with ((try simp only[xS,Exit.then]);with_reducible refine yp ?_ rfl HR.out;obtain⟨E0,E1,E2,E3⟩:=HE.out;simp[results,uA,go_sem,E0,E1,E2,E3])
theorem ZP {s:ByteArray} (h1:BO ss=true) (h2:BN s=true):Gh ss s=if(decide (NR ss s<ss.length)&&decide (DZ ss (NR ss s)=s))=true then(ss,true) else if ss.length=6 then(ss,false) else(Du ss (NR ss s) s,true):=by
 unfold Gh;rw[h1,h2,<-ZS h1]
 show Cl ss s=_
 unfold Cl;rw[X9];rfl
theorem Ns {k:Nat} {s:ByteArray}:Du ss k s=(ss.take k++[s])++ss.drop k:=by simp[Du]
theorem Ml {g T:Nat} {x:Value} (h:w.heap[g]? =some (.cells #[x] T (0,0))):Rd w (.slice (some ⟨g,0,none⟩) 1 1) 1 1 [x]:=by
 have h0:=cell_of_row _ _ 0 _ _ _ h;refine⟨_,_,rfl,yv _,by simp[maxLen],rfl,nofun,fun _=>⟨g,0,rfl,fun j hj=>?_⟩⟩;rw[Nat.zero_add]
 match j,hj with
 |0,_=>exact h0
 |_+1,hj=>exact absurd hj (by omega)
theorem Un {a:Option Addr} {c:Nat} (h:BP w (.slice a ss.length c) ss) (a':Option Addr) (ha:a'=none->a=none):BP w (.slice a' 0 (c - ss.length)) (ss.drop ss.length):=by
 obtain⟨ao,c',hv,eH,dr,hl,cQ,hc⟩:=h;simp only[Value.slice.injEq] at hv;obtain⟨rfl,_,rfl⟩:=hv;rw[List.drop_length];exact⟨_,_,rfl,Nat.zero_le _,by omega,rfl,fun h=>by have:=cQ (ha h);omega,fun h=>absurd h (Nat.lt_irrefl 0)⟩
theorem LH (v:Value) (ss:List ByteArray) (s:ByteArray) (w:World) (h:BP w v ss) (hs:DP ss) (hz:s.size<=maxLen):Calls prog 159 #[v, .string s] w (ZJ w (Gh ss s)):=by
 have C1:=AA (TG (GC v ss w h hs));have C2:=AA (fun W=>BM (ED s W hz));obtain⟨pa,c,rfl,hc,dr,H⟩:=BJ.open Gp (by decide) h;have HR:=AA (fun W (hW:Below w.heap.size w W)=>BJ.below h hW);have HH:=AA H;unfold maxLen at dr;clear h hs hz H;generalize hrv:BO ss=rv at C1;generalize hsv:BN s=sv at C2;have HV:=AA (ye hrv hsv);clear hrv hsv;cases rv
 .have P:=AA (show Gh ss s=([],false) by unfold Gh;rw[HV.out.1];rfl)
  go_in;go_wp2_with fail;refine C1.out.mono ?_;rintro r w1 ⟨rfl,b1⟩;go_wp2_with fail;go_ret2;exact⟨_,by rw[P.out];rfl,by rw[P.out];exact AP.lower (By BB _ _ _) b1.size,b1.alloc b1.size _⟩
 .cases sv
  .have P:=AA (show Gh ss s=([],false) by unfold Gh;rw[HV.out.1,HV.out.2];rfl)
   go_in;go_wp2_with fail;refine C1.out.mono ?_;rintro r w1 ⟨rfl,b1⟩;go_wp2_with fail;refine(C2.out _).mono ?_;rintro r w2 ⟨rfl,b2⟩;have b3:=b1.trans (b2.mono b1.size);clear b1 b2;go_wp2_with fail;go_ret2;exact⟨_,by rw[P.out];rfl,by rw[P.out];exact AP.lower (By BB _ _ _) b3.size,b3.alloc b3.size _⟩
  .have eI:=(GH.1 HV.out.1).2.2
   have HP:=AA (ZP (ss:=ss) (s:=s) HV.out.1 HV.out.2);go_in;go_wp2_with fail;refine C1.out.mono ?_;rintro r w1 ⟨rfl,b1⟩;go_wp2_with fail;refine(C2.out _).mono ?_;rintro r w2 ⟨rfl,b2⟩;have b3:=b1.trans (b2.mono b1.size);clear b1 b2 C1 C2;go_wp2_with fail;go_loopw [6] (fun ix wr=>∃k:Nat,k<=ss.length/\ix= .int .i64 k/\(∀j,j<k->Qh (DZ ss j) s=true)/\Below w.heap.size w wr) (fun ix _=>ss.length - (intOf ix).toNat)
   case atStart=>exact⟨0,Nat.zero_le _,rfl,fun j hj=>absurd hj (Nat.not_lt_zero _),b3⟩
   case round=>
    obtain⟨k,hk,rfl,cq,hb⟩:=hrel;have cg:=AA cq;have HB:=AA hb;clear cq b3
    by_cases cr:k<ss.length
    .have dX:(k:Int)<(ss.length:Int):=by omega
     obtain⟨b,bY,rfl,D⟩:=(HH.out.below hb).str cr;cases ht:Op.bytesLess (DZ ss k).toList s.toList
     .have bW:=AA (show NR ss s=k from Se hk cg.out (fun _=>ht))
      have Ht:=AA ht;clear hb
      by_cases he:DZ ss k=s
      .have te:((DZ ss k).toList==s.toList)=true:=by rw[he];simp
       have P:=AA (show Gh ss s=(ss,true) by rw[HP.out,bW.out,if_pos (by simp[cr,he])]);clear he HP;go_wp2_with (at_builtin;go_must (refine FI (cs:=BB) rfl rfl 9 (.string ⟨#[]⟩) 1 16 underlying60 Tryz.zL rfl (by decide) rfl (By BB _ _ _) rfl (HR.out _ (HB.out.trans ((AD _ _).mono HB.out.size))) (Gk _) (by omega) (by decide) (by simp) ?_;intro v' w9 hO bl));have HO:=AA hO;obtain⟨a9,c9,e9,_,_⟩:=hO.rd.shape;generalize wU _=n9 at e9;subst e9;have bK:=AA ((HB.out.trans ((AD _ _).mono HB.out.size)).trans (bl.mono HB.out.size));clear hO bl;go_wp2_with fail;go_ret2;exact⟨_,by rw[P.out];rfl,by rw[P.out];exact HO.out.lower HB.out.size,bK.out⟩
      .have te:((DZ ss k).toList==s.toList)=false:=by
        rw[beq_eq_false_iff_ne];exact fun e=>he (ByteArray.ext (Array.toList_inj.mp (by rw[<-xz,<-xz];exact e)))
       have ay:=AA (show Gh ss s=if ss.length=6 then(ss,false) else(Du ss k s,true) by rw[HP.out,bW.out,if_neg (by simp[he])]);clear he HP
       by_cases h6:ss.length=6
       .have P:=AA (show Gh ss s=(ss,false) by rw[ay.out,if_pos h6])
        have c4:(6:Int)<=(ss.length:Int):=by omega
        clear h6;go_wp2_with (at_builtin;go_must (refine FI (cs:=BB) rfl rfl 9 (.string ⟨#[]⟩) 1 16 underlying60 Tryz.zL rfl (by decide) rfl (By BB _ _ _) rfl (HR.out _ (HB.out.trans ((AD _ _).mono HB.out.size))) (Gk _) (by omega) (by decide) (by simp) ?_;intro v' w9 hO bl));have HO:=AA hO;obtain⟨a9,c9,e9,_,_⟩:=hO.rd.shape;generalize wU _=n9 at e9;subst e9;have bK:=AA ((HB.out.trans ((AD _ _).mono HB.out.size)).trans (bl.mono HB.out.size));clear hO bl;go_wp2_with fail;go_ret2;exact⟨_,by rw[P.out];rfl,by rw[P.out];exact HO.out.lower HB.out.size,bK.out⟩
       .have P:=AA (show Gh ss s=(Du ss k s,true) by rw[ay.out,if_neg h6])
        have c4:¬(6:Int)<=(ss.length:Int):=by omega
        have dY:k<=c:=by omega
        clear h6;go_wp2_with fail;refine Dz 14 63 (fun ix=>ix==7||ix==11) [.z, .v (.slice (some ⟨b,bY,none⟩) ss.length c), .i ((k:Int)), .z, .z, .t s, .z, .z, .v (.slice (some ⟨b,bY,none⟩) ss.length c), .i ((k:Int)), .z, .z, .z, .b true] (fun ll ix vv ww=>match ix with
         |0=>(ll 4=false->Ke wr.heap.size 9 ww vv)
         |3=>(∀W',Below wr.heap.size wr W'->BP W' vv (ss.take k))
         |4=>(ll 7=false->AP wr.heap.size 9 1 BB ww vv (ss.take k))
         |6=>(ll 7=false->∃g,vv= .slice (some ⟨g,0,none⟩) 1 1/\ww.heap[g]? =some (.cells #[.string s] 9 (0,0)))
         |7=>(ll 11=false->AP wr.heap.size 9 1 BB ww vv (ss.take k++[s]))
         |10=>(∀W',Below wr.heap.size wr W'->BP W' vv (ss.drop k))
         |11|12=>AP wr.heap.size 9 1 BB ww vv (Du ss k s)
         |_=>True) (fun ll ww=>Below wr.heap.size wr ww) ?_ ?_ ?_ ?_ ?_ ?_
        .exact A9 (yF _ _) 1
        .intro j hj ll i vv wz bX hi hS cL el a7 hz
         match j,hj with
         |0,_=>exact(fun hL=>Ke.below (hz (DQ hL)) a7)
         |3,_|10,_=>exact hz
         |4,_|7,_=>exact(fun hL=>AP.below (hz (DQ hL)) a7)
         |6,_=>exact(fun hL=>by obtain⟨g,h0,h1⟩:=hz (DQ hL);exact⟨g,h0,AC h1 a7⟩)
         |11,_|12,_=>exact(AP.below hz a7)
         |1,_|2,_|5,_|8,_|9,_|13,_=>exact hz
        .intro ll i wz bX hi hS cL a7 hg
         exact hg.trans (a7.mono hg.size)
        .intro i hi hS o ho a wx Hb ll Hd HL hG K HK
         match i,hi,hS with
         |1,_,_|2,_,_|5,_,_|8,_,_|9,_,_|13,_,_=>exact WR ho HK Hb Hd HL
         |7,_,hs|11,_,hs=>cases hs
         |0,_,_=>obtain rfl:=yH ho;clear Hd Hb;refine yG ?_;go_simp;exact HK.out _ _ (fun _=>⟨_,rfl,hG.size,yw _ _⟩) (AD _ _)
         |3,_,_=>obtain rfl:=yH ho;have d1:(a.tmps[52]?.getD undef)= .slice (some ⟨b,bY,none⟩) ss.length c:=DT Hd HL 1;have d2:(a.tmps[53]?.getD undef)= .int .i64 k:=DT Hd HL 2;clear Hd Hb;refine yG ?_;go_simp;exact HK.out _ _ (fun W' hW=>Ry (HR.out W' (HB.out.trans (hW.mono HB.out.size))) rfl (by omega)) (yF _ _)
         |4,_,_=>obtain rfl:=yH ho;have d0:(ll 4=false->Ke wr.heap.size 9 wx (a.tmps[51]?.getD undef)):=DT Hd HL 0;have d3:(∀W',Below wr.heap.size wr W'->BP W' (a.tmps[54]?.getD undef) (ss.take k)):=DT Hd HL 3;have u7:=Ba HL 7;clear Hd Hb;refine yG ?_;obtain⟨g_,db,da,c7⟩:=d0 HL.out.1;obtain⟨v7,w4,a0,r1,r2,_⟩:=DV (lo:=wr.heap.size) (w:=wx) (t:=60) (ty:=60) 9 _ 1 16 underlying60 Tryz.zL rfl (by decide) c7 da (d3 _ hG) (Gk _) (by rw[xW];omega);refine Cr rfl (Bk db) (Bk rfl) a0 ?_;exact HK.out _ _ (fun _=>r1) r2
         |6,_,_=>obtain rfl:=yH ho;have d5:(a.tmps[56]?.getD undef)= .string s:=DT Hd HL 5;have u7:=Ba HL 7;clear Hd Hb;refine yG ?_;go_simp;exact HK.out _ _ (fun _=>⟨_,rfl,yw _ _⟩) (AD _ _)
         |10,_,_=>obtain rfl:=yH ho;have d8:(a.tmps[59]?.getD undef)= .slice (some ⟨b,bY,none⟩) ss.length c:=DT Hd HL 8;have d9:(a.tmps[60]?.getD undef)= .int .i64 k:=DT Hd HL 9;have bt:=Ba HL 11;clear Hd Hb;refine yG ?_;go_simp;rw[show(if c=k then some (⟨b,bY,none⟩:Addr) else some ⟨b,bY+k,none⟩)=some ⟨b,if c=k then bY else bY+k,none⟩ by split<;>rfl];exact HK.out _ _ (fun W' hW=>Xo (HR.out W' (HB.out.trans (hW.mono HB.out.size))) rfl (by omega) b _ (fun h=>⟨rfl,if_neg (by omega)⟩)) (yF _ _)
         |12,_,_=>obtain rfl:=yH ho;have cB:AP wr.heap.size 9 1 BB wx (a.tmps[62]?.getD undef) (Du ss k s):=DT Hd HL 11;have u7:ll 7=true:=HL.out.2.1 7 (by kernel_rfl);have bt:ll 11=true:=HL.out.2.1 11 (by kernel_rfl);clear Hd Hb;refine yG ?_;go_simp;exact HK.out _ _ cB (yF _ _)
        .intro i hi hS o ho a wx Hb ll Hd HL hG K HK
         match i,hi,hS with
         |0,_,hs|1,_,hs|2,_,hs|3,_,hs|4,_,hs|5,_,hs|6,_,hs|8,_,hs|9,_,hs|10,_,hs|12,_,hs|13,_,hs=>cases hs
         |7,_,_=>
          obtain rfl:=yH ho;have d4:(ll 7=false->AP wr.heap.size 9 1 BB wx (a.tmps[55]?.getD undef) (ss.take k)):=DT Hd HL 4;have d6:(ll 7=false->∃g,(a.tmps[57]?.getD undef)= .slice (some ⟨g,0,none⟩) 1 1/\wx.heap[g]? =some (.cells #[.string s] 9 (0,0))):=DT Hd HL 6;have bt:=Ba HL 11;clear Hd Hb;refine yG ?_;have D4:=d4 HL.out.1;obtain⟨g6,e6,B6⟩:=d6 HL.out.1;obtain⟨v7,w4,a0,r1,_,r3⟩:=Ji (lo:=wr.heap.size) (w:=wx) (t:=60) 60 9 _ 1 16 underlying60 Tryz.zL rfl (by decide) D4 (Ml B6) (by simp[xE]) (by rw[xW];unfold maxLen;omega) (by rw[xW];omega) hG.size;refine Cr rfl (Bk rfl) (Bk e6) a0 ?_;have b4:AP wr.heap.size 9 1 BB w4 v7 (ss.take k++[s]):=by unfold AP;rw[Bl,El,yl];exact r1
          exact HK.out _ _ (fun _=>b4) (hG.trans r3) (fun j bx bC bw hu=>match j,bC with
           |1,_|2,_|3,_|5,_|8,_|9,_|10,_|13,_=>hu
           |0,_=>(fun h=>absurd ((DQ h).symm.trans (HL.out.2.1 4 (by kernel_rfl))) (by decide))
           |4,_|6,_=>(fun h=>absurd h (by rw[Ge];decide))
           |7,_=>absurd rfl bx
           |11,_=>absurd (bt.symm.trans bw) (by decide)
           |12,_=>absurd (bt.symm.trans (HL.out.2.2 12 11 bw (by kernel_rfl))) (by decide))
         |11,_,_=>
          obtain rfl:=yH ho;have d7:(ll 11=false->AP wr.heap.size 9 1 BB wx (a.tmps[58]?.getD undef) (ss.take k++[s])):=DT Hd HL 7;have bz:(∀W',Below wr.heap.size wr W'->BP W' (a.tmps[61]?.getD undef) (ss.drop k)):=DT Hd HL 10;have u7:ll 7=true:=HL.out.2.1 7 (by kernel_rfl);clear Hd Hb;refine yG ?_;have D7:=d7 HL.out.1;obtain⟨v7,w4,a0,r1,_,r3⟩:=Ji (lo:=wr.heap.size) (w:=wx) (t:=60) 60 9 _ 1 16 underlying60 Tryz.zL rfl (by decide) D7 (bz _ hG) (Gk _) (by simp only[yl,xW,vZ];unfold maxLen;simp;omega) (by simp only[yl,xW,vZ];simp;omega) hG.size;refine Cr rfl (Bk rfl) (Bk rfl) a0 ?_;have b4:AP wr.heap.size 9 1 BB w4 v7 (Du ss k s):=by unfold AP;rw[Ns,Bl,yl];exact r1
          exact HK.out _ _ b4 (hG.trans r3) (fun j bx bC bw hu=>match j,bC with
           |1,_|2,_|3,_|5,_|8,_|9,_|10,_|13,_=>hu
           |0,_=>(fun h=>absurd ((DQ h).symm.trans (HL.out.2.2 7 4 u7 (by kernel_rfl))) (by decide))
           |4,_|6,_=>(fun h=>absurd ((DQ h).symm.trans (u7)) (by decide))
           |7,_=>(fun h=>absurd h (by rw[Ge];decide))
           |11,_=>absurd rfl bx
           |12,_=>absurd (HL.out.1.symm.trans (HL.out.2.2 12 11 bw (by kernel_rfl))) (by decide))
        .intro vs wx ll cf hR hG
         have bi:AP wr.heap.size 9 1 BB wx (vs 12) (Du ss k s):=BZ hR 12;have bg:(vs 13)= .bool true:=BZ hR 13;clear hR;simp only[Dc,Bq,yE,yB,yA,yy,bg];simp;generalize vs 12=z12 at bi ⊢;clear bg;have HO:=AA bi;have bK:=AA (HB.out.trans (hG.mono HB.out.size));go_wp2_with fail;go_ret2;exact⟨_,by rw[P.out];rfl,by rw[P.out];exact HO.out.lower HB.out.size,bK.out⟩
     .have Ht:=AA (show Qh (DZ ss k) s=true from ht)
      go_wp2_with fail;go_roundw
      case rel=>exact⟨k+1,by omega,by go_num,Aj cg.out Ht.out,hb⟩
      case measure=>simp[intOf];omega
    .obtain rfl:k=ss.length:=by omega
     have bW:=AA (show NR ss s=ss.length from Se hk cg.out (fun h=>absurd h (by omega)));have ay:=AA (show Gh ss s=if ss.length=6 then(ss,false) else(Du ss ss.length s,true) by rw[HP.out,bW.out,if_neg (by simp)]);clear HP
     by_cases h6:ss.length=6
     .have P:=AA (show Gh ss s=(ss,false) by rw[ay.out,if_pos h6])
      have c4:(6:Int)<=(ss.length:Int):=by omega
      clear h6;go_wp2_with (at_builtin;go_must (refine FI (cs:=BB) rfl rfl 9 (.string ⟨#[]⟩) 1 16 underlying60 Tryz.zL rfl (by decide) rfl (By BB _ _ _) rfl (HR.out _ (HB.out.trans ((AD _ _).mono HB.out.size))) (Gk _) (by omega) (by decide) (by simp) ?_;intro v' w9 hO bl));have HO:=AA hO;obtain⟨a9,c9,e9,_,_⟩:=hO.rd.shape;generalize wU _=n9 at e9;subst e9;have bK:=AA ((HB.out.trans ((AD _ _).mono HB.out.size)).trans (bl.mono HB.out.size));clear hO bl;go_wp2_with fail;go_ret2;exact⟨_,by rw[P.out];rfl,by rw[P.out];exact HO.out.lower HB.out.size,bK.out⟩
     .have P:=AA (show Gh ss s=(Du ss ss.length s,true) by rw[ay.out,if_neg h6])
      have c4:¬(6:Int)<=(ss.length:Int):=by omega
      have dY:ss.length<=c:=by omega
      clear h6;go_wp2_with fail;refine Dz 14 63 (fun ix=>ix==7||ix==11) [.z, .v (.slice pa ss.length c), .i ((ss.length:Int)), .z, .z, .t s, .z, .z, .v (.slice pa ss.length c), .i ((ss.length:Int)), .z, .z, .z, .b true] (fun ll ix vv ww=>match ix with
       |0=>(ll 4=false->Ke wr.heap.size 9 ww vv)
       |3=>(∀W',Below wr.heap.size wr W'->BP W' vv (ss.take ss.length))
       |4=>(ll 7=false->AP wr.heap.size 9 1 BB ww vv (ss.take ss.length))
       |6=>(ll 7=false->∃g,vv= .slice (some ⟨g,0,none⟩) 1 1/\ww.heap[g]? =some (.cells #[.string s] 9 (0,0)))
       |7=>(ll 11=false->AP wr.heap.size 9 1 BB ww vv (ss.take ss.length++[s]))
       |10=>(∀W',Below wr.heap.size wr W'->BP W' vv (ss.drop ss.length))
       |11|12=>AP wr.heap.size 9 1 BB ww vv (Du ss ss.length s)
       |_=>True) (fun ll ww=>Below wr.heap.size wr ww) ?_ ?_ ?_ ?_ ?_ ?_
      .exact A9 (yF _ _) 1
      .intro j hj ll i vv wz bX hi hS cL el a7 hz
       match j,hj with
       |0,_=>exact(fun hL=>Ke.below (hz (DQ hL)) a7)
       |3,_|10,_=>exact hz
       |4,_|7,_=>exact(fun hL=>AP.below (hz (DQ hL)) a7)
       |6,_=>exact(fun hL=>by obtain⟨g,h0,h1⟩:=hz (DQ hL);exact⟨g,h0,AC h1 a7⟩)
       |11,_|12,_=>exact(AP.below hz a7)
       |1,_|2,_|5,_|8,_|9,_|13,_=>exact hz
      .intro ll i wz bX hi hS cL a7 hg
       exact hg.trans (a7.mono hg.size)
      .intro i hi hS o ho a wx Hb ll Hd HL hG K HK
       match i,hi,hS with
       |1,_,_|2,_,_|5,_,_|8,_,_|9,_,_|13,_,_=>exact WR ho HK Hb Hd HL
       |7,_,hs|11,_,hs=>cases hs
       |0,_,_=>obtain rfl:=yH ho;clear Hd Hb;refine yG ?_;go_simp;exact HK.out _ _ (fun _=>⟨_,rfl,hG.size,yw _ _⟩) (AD _ _)
       |3,_,_=>obtain rfl:=yH ho;have d1:(a.tmps[52]?.getD undef)= .slice pa ss.length c:=DT Hd HL 1;have d2:(a.tmps[53]?.getD undef)= .int .i64 ((ss.length:Int)):=DT Hd HL 2;clear Hd Hb;refine yG ?_;go_simp;exact HK.out _ _ (fun W' hW=>Ry (HR.out W' (HB.out.trans (hW.mono HB.out.size))) rfl (by omega)) (yF _ _)
       |4,_,_=>obtain rfl:=yH ho;have d0:(ll 4=false->Ke wr.heap.size 9 wx (a.tmps[51]?.getD undef)):=DT Hd HL 0;have d3:(∀W',Below wr.heap.size wr W'->BP W' (a.tmps[54]?.getD undef) (ss.take ss.length)):=DT Hd HL 3;have u7:=Ba HL 7;clear Hd Hb;refine yG ?_;obtain⟨g_,db,da,c7⟩:=d0 HL.out.1;obtain⟨v7,w4,a0,r1,r2,_⟩:=DV (lo:=wr.heap.size) (w:=wx) (t:=60) (ty:=60) 9 _ 1 16 underlying60 Tryz.zL rfl (by decide) c7 da (d3 _ hG) (Gk _) (by rw[xW];omega);refine Cr rfl (Bk db) (Bk rfl) a0 ?_;exact HK.out _ _ (fun _=>r1) r2
       |6,_,_=>obtain rfl:=yH ho;have d5:(a.tmps[56]?.getD undef)= .string s:=DT Hd HL 5;have u7:=Ba HL 7;clear Hd Hb;refine yG ?_;go_simp;exact HK.out _ _ (fun _=>⟨_,rfl,yw _ _⟩) (AD _ _)
       |10,_,_=>
        obtain rfl:=yH ho;have d8:(a.tmps[59]?.getD undef)= .slice pa ss.length c:=DT Hd HL 8;have d9:(a.tmps[60]?.getD undef)= .int .i64 ((ss.length:Int)):=DT Hd HL 9;have bt:=Ba HL 11;clear Hd Hb;refine yG ?_;go_simp
        rcases pa with _|ad
        .go_simp
         exact HK.out _ _ (fun W' hW=>Un (HR.out W' (HB.out.trans (hW.mono HB.out.size))) none (fun _=>rfl)) (yF _ _)
        .go_simp
         exact HK.out _ _ (fun W' hW=>Un (HR.out W' (HB.out.trans (hW.mono HB.out.size))) _ (fun h=>by split at h<;>cases h)) (yF _ _)
       |12,_,_=>obtain rfl:=yH ho;have cB:AP wr.heap.size 9 1 BB wx (a.tmps[62]?.getD undef) (Du ss ss.length s):=DT Hd HL 11;have u7:ll 7=true:=HL.out.2.1 7 (by kernel_rfl);have bt:ll 11=true:=HL.out.2.1 11 (by kernel_rfl);clear Hd Hb;refine yG ?_;go_simp;exact HK.out _ _ cB (yF _ _)
      .intro i hi hS o ho a wx Hb ll Hd HL hG K HK
       match i,hi,hS with
       |0,_,hs|1,_,hs|2,_,hs|3,_,hs|4,_,hs|5,_,hs|6,_,hs|8,_,hs|9,_,hs|10,_,hs|12,_,hs|13,_,hs=>cases hs
       |7,_,_=>
        obtain rfl:=yH ho;have d4:(ll 7=false->AP wr.heap.size 9 1 BB wx (a.tmps[55]?.getD undef) (ss.take ss.length)):=DT Hd HL 4;have d6:(ll 7=false->∃g,(a.tmps[57]?.getD undef)= .slice (some ⟨g,0,none⟩) 1 1/\wx.heap[g]? =some (.cells #[.string s] 9 (0,0))):=DT Hd HL 6;have bt:=Ba HL 11;clear Hd Hb;refine yG ?_;have D4:=d4 HL.out.1;obtain⟨g6,e6,B6⟩:=d6 HL.out.1;obtain⟨v7,w4,a0,r1,_,r3⟩:=Ji (lo:=wr.heap.size) (w:=wx) (t:=60) 60 9 _ 1 16 underlying60 Tryz.zL rfl (by decide) D4 (Ml B6) (by simp[xE]) (by rw[xW];unfold maxLen;omega) (by rw[xW];omega) hG.size;refine Cr rfl (Bk rfl) (Bk e6) a0 ?_;have b4:AP wr.heap.size 9 1 BB w4 v7 (ss.take ss.length++[s]):=by unfold AP;rw[Bl,El,yl];exact r1
        exact HK.out _ _ (fun _=>b4) (hG.trans r3) (fun j bx bC bw hu=>match j,bC with
         |1,_|2,_|3,_|5,_|8,_|9,_|10,_|13,_=>hu
         |0,_=>(fun h=>absurd ((DQ h).symm.trans (HL.out.2.1 4 (by kernel_rfl))) (by decide))
         |4,_|6,_=>(fun h=>absurd h (by rw[Ge];decide))
         |7,_=>absurd rfl bx
         |11,_=>absurd (bt.symm.trans bw) (by decide)
         |12,_=>absurd (bt.symm.trans (HL.out.2.2 12 11 bw (by kernel_rfl))) (by decide))
       |11,_,_=>
        obtain rfl:=yH ho;have d7:(ll 11=false->AP wr.heap.size 9 1 BB wx (a.tmps[58]?.getD undef) (ss.take ss.length++[s])):=DT Hd HL 7;have bz:(∀W',Below wr.heap.size wr W'->BP W' (a.tmps[61]?.getD undef) (ss.drop ss.length)):=DT Hd HL 10;have u7:ll 7=true:=HL.out.2.1 7 (by kernel_rfl);clear Hd Hb;refine yG ?_;have D7:=d7 HL.out.1;obtain⟨v7,w4,a0,r1,_,r3⟩:=Ji (lo:=wr.heap.size) (w:=wx) (t:=60) 60 9 _ 1 16 underlying60 Tryz.zL rfl (by decide) D7 (bz _ hG) (Gk _) (by simp only[yl,xW,vZ];unfold maxLen;simp;omega) (by simp only[yl,xW,vZ];simp;omega) hG.size;refine Cr rfl (Bk rfl) (Bk rfl) a0 ?_;have b4:AP wr.heap.size 9 1 BB w4 v7 (Du ss ss.length s):=by unfold AP;rw[Ns,Bl,yl];exact r1
        exact HK.out _ _ b4 (hG.trans r3) (fun j bx bC bw hu=>match j,bC with
         |1,_|2,_|3,_|5,_|8,_|9,_|10,_|13,_=>hu
         |0,_=>(fun h=>absurd ((DQ h).symm.trans (HL.out.2.2 7 4 u7 (by kernel_rfl))) (by decide))
         |4,_|6,_=>(fun h=>absurd ((DQ h).symm.trans (u7)) (by decide))
         |7,_=>(fun h=>absurd h (by rw[Ge];decide))
         |11,_=>absurd rfl bx
         |12,_=>absurd (HL.out.1.symm.trans (HL.out.2.2 12 11 bw (by kernel_rfl))) (by decide))
      .intro vs wx ll cf hR hG
       have bi:AP wr.heap.size 9 1 BB wx (vs 12) (Du ss ss.length s):=BZ hR 12;have bg:(vs 13)= .bool true:=BZ hR 13;clear hR;simp only[Dc,Bq,yE,yB,yA,yy,bg];simp;generalize vs 12=z12 at bi ⊢;clear bg;have HO:=AA bi;have bK:=AA (HB.out.trans (hG.mono HB.out.size));go_wp2_with fail;go_ret2;exact⟨_,by rw[P.out];rfl,by rw[P.out];exact HO.out.lower HB.out.size,bK.out⟩
theorem EL.zV {T:Nat} {cs:Array Value} {R:List Nat} {g b0:Nat} {W W':World} {m i c:Value} {ge n dy:Nat} (h:EL T cs R lo g b0 w W m i (.slice (some ⟨ge,0,none⟩) n dy) c k) (hn:n=k.zZ.length) (hb:Below W.heap.size W W') {j:Nat} (hj:j<k.zZ.length) {u:Value} {ss:List ByteArray} (hu:AP W.heap.size 9 1 BB W' u ss):
 EL T cs R lo g b0 w (W'.setCell ⟨ge,j*2,none⟩ u) m i (.slice (some ⟨ge,0,none⟩) n dy) c {k with zZ:=Ar k.zZ j (BV ss)}:=by
 have S:=h.yK.zV hn h.lo hb hj hu;have h':=h.below hb;obtain⟨ps,o⟩:=h'.yK.2.2.2.2.1;obtain⟨c2,h2⟩:=A6 o.1 ge rfl;exact⟨S.1,Ap h'.yM S.2.1 (Bo h2 h'.yM h.ty.2.2.1),AM h'.bel S.2.1 S.2.2 h'.lo,yD h'.lo S.2.1.size,h.ty,h'.kf.row S.2.1 h2 (by decide),fun b hr=>⟨(h.rs b hr).1,Ap (h'.rs b hr).2 S.2.1 (Bo h2 (h'.rs b hr).2 (by decide))⟩⟩
theorem Qb (h:DO lo w mv iv ev cv k) (au:lo<=w.heap.size) (hk:DI k) (call:Ab) (he:0<=call.e/\call.e<3) (h2:call.k=8∨call.k=9) (bv:call.nm.size<=maxLen):
 Calls prog 218 #[.agg #[mv,iv,ev,cv], .agg call.cs] w (Kh lo w (Ad k call)):=by
 have a5:=SC.start h au call;obtain⟨ge,ar,e9,_,_⟩:=a5.zZ (by rw[hk.zP];omega);rw[hk.zP] at e9;obtain⟨gi,aq,e8,_,_⟩:=a5.Os (by rw[hk.len];omega);rw[hk.len] at e8;obtain⟨am,bh,cm,ai,ni,ci,ae,bp,ce,ac,nc,cc,em,ei,ee,ec⟩:=a5.zS;subst e8 e9 em ec;clear ei ee;have S0:=AA a5;obtain⟨kk,e,ra,b,c,nm⟩:=call;simp only at he h2 bv;obtain⟨en,rfl⟩:∃n:Nat,e=(n:Int):=⟨e.toNat,by omega⟩
 have bk:en<3:=by omega
 have cz:(en:Int)<3:=by omega
 simp only[Ab.cs] at S0 ⊢;have HK:=AA hk;have CR:=AA (fun W=>BM (ED nm W bv));have HN:=AA bv;have CM:=AA (fun W (h:Fk W (.slice (some ⟨ge,0,none⟩) 3 ar) k.zZ)=>JP (.slice am bh cm) (.slice (some ⟨gi,0,none⟩) 12 aq) (.slice (some ⟨ge,0,none⟩) 3 ar) (.slice ac nc cc) k en nm W h hk bk bv);obtain⟨x0,x1,x2,x3⟩:=S0.out.xs;obtain⟨y0,y1,y2,y3,y4,y5⟩:=S0.out.ys6;have HP:Hid (Ad k ⟨kk,(en:Int),ra,b,c,nm⟩=if Bd ra 0 2=false∨BN nm=false∨(kk=9/\ra=(en:Int)) then(k,0,3)
  else if Bv (AJ k.zZ en).zV nm=false then(k,0,1)
  else if kk=8 then(if(Cl (AJ k.zZ ra.toNat).zV nm).2=false then(k,0,4) else({k with zZ:=Ar k.zZ ra.toNat (BV (Cl (AJ k.zZ ra.toNat).zV nm).1)},0,0))
  else(if BC k.Os (BY k.mem (AJ k.zZ ra.toNat).root) (DB (AJ k.zZ ra.toNat).zV nm)=false then(k,0,2) else({k with zZ:=Ar k.zZ ra.toNat (BV (DB (AJ k.zZ ra.toNat).zV nm))},0,0))):=by
  refine Lib.hid ?_
  rcases h2 with rfl|rfl
  .rw[Tp rfl]
   unfold Kx FV;simp
  .rw[Sa rfl]
   unfold Jg FV;simp only[xY]
   by_cases a1:Bd ra 0 2=false<;>by_cases a2:BN nm=false<;>by_cases a3:ra=(en:Int)<;>simp[a1,a2,a3]
 have H2:=AA h2;clear h a5 he hk h2 bv;generalize hW0:((w.alloc _).alloc _).alloc _=W0 at*;cases e1:Bd ra 0 2
 .have al:=AA (show Ad k ⟨kk,(en:Int),ra,b,c,nm⟩=(k,0,3) by rw[HP.out,if_pos (.inl e1)])
  have E1:=AA e1;clear e1 HP;go_in;go_wp2_with fail;refine(BM (JC _ _)).mono ?_;rintro r w1 ⟨rfl,a6⟩;rw[E1.out];have S1:=AA (S0.out.below a6);clear x0 x1 x2 x3 y0 y1 y2 y3 y4 y5 a6 hW0;obtain⟨⟨x0,x1,x2,x3⟩,⟨⟨z0,z1,z2,z3⟩,a4⟩,HE,HR⟩:=S1.out.yJ au (v:=0) (code:=3) (al.out) (by decide);go_wp2_with ((try simp only[xS,Exit.then]);with_reducible refine yp ?_ rfl HR.out;obtain⟨E0,E1,E2,E3⟩:=HE.out;simp[results,wE,go_sem,E0,E1,E2,E3])
 .have E1:=AA e1
  have ab:=Ac.1 e1;obtain⟨an,rfl⟩:∃n:Nat,ra=(n:Int):=⟨ra.toNat,by omega⟩
  have bd:an<3:=by omega
  have cb:(an:Int)<3:=by omega
  generalize hrv:BN nm=rv at CR;have HV:=AA hrv;clear e1 ab hrv;cases rv
  .have al:=AA (show Ad k ⟨kk,(en:Int),(an:Int),b,c,nm⟩=(k,0,3) by rw[HP.out,if_pos (.inr (.inl HV.out))])
   clear HP;go_in;go_wp2_with fail;refine(BM (JC _ _)).mono ?_;rintro r w1 ⟨rfl,a6⟩;rw[E1.out];have S1:=AA (S0.out.below a6);clear x0 x1 x2 x3 y0 y1 y2 y3 y4 y5 a6 hW0;obtain⟨y0,y1,y2,y3,y4,y5⟩:=S1.out.ys6;go_wp2_with fail;refine(CR.out _).mono ?_;rintro r w2 ⟨rfl,az⟩;have S2:=AA (S1.out.below az);clear y0 y1 y2 y3 y4 y5 az;obtain⟨⟨x0,x1,x2,x3⟩,⟨⟨z0,z1,z2,z3⟩,a4⟩,HE,HR⟩:=S2.out.yJ au (v:=0) (code:=3) (al.out) (by decide);go_wp2_with ((try simp only[xS,Exit.then]);with_reducible refine yp ?_ rfl HR.out;obtain⟨E0,E1,E2,E3⟩:=HE.out;simp[results,wE,go_sem,E0,E1,E2,E3])
  .rcases H2.out with rfl|rfl
   .have ay:=AA (show Ad k ⟨8,(en:Int),(an:Int),b,c,nm⟩=if Bv (AJ k.zZ en).zV nm=false then(k,0,1) else if(Cl (AJ k.zZ an).zV nm).2=false then(k,0,4) else({k with zZ:=Ar k.zZ an (BV (Cl (AJ k.zZ an).zV nm).1)},0,0) by rw[HP.out,if_neg (by rintro(x|x|⟨x,_⟩);(· rw[E1.out] at x;cases x);(· rw[HV.out] at x;cases x);cases x)];rfl)
    clear HP;go_in;go_wp2_with fail;refine(BM (JC _ _)).mono ?_;rintro r w1 ⟨rfl,a6⟩;rw[E1.out];have S1:=AA (S0.out.below a6);clear x0 x1 x2 x3 y0 y1 y2 y3 y4 y5 a6 hW0;obtain⟨y0,y1,y2,y3,y4,y5⟩:=S1.out.ys6;go_wp2_with fail;refine(CR.out _).mono ?_;rintro r w2 ⟨rfl,az⟩;have S2:=AA (S1.out.below az);clear y0 y1 y2 y3 y4 y5 az;obtain⟨y0,y1,y2,y3,y4,y5⟩:=S2.out.ys6;obtain⟨x0,x1,x2,x3⟩:=S2.out.xs;generalize hmb:Bv (AJ k.zZ en).zV nm=mb at CM ay;clear hmb;go_wp2_with fail;refine(CM.out _ S2.out.K.2.2.1).mono ?_;rintro r w4 ⟨rfl,bs⟩;have S4:=AA (S2.out.below bs);clear x0 x1 x2 x3 y0 y1 y2 y3 y4 y5 bs CM;cases mb
    .have al:=AA (show Ad k ⟨8,(en:Int),(an:Int),b,c,nm⟩=(k,0,1) by rw[ay.out];rfl)
     obtain⟨⟨x0,x1,x2,x3⟩,⟨⟨z0,z1,z2,z3⟩,a4⟩,HE,HR⟩:=S4.out.yJ au (v:=0) (code:=1) (al.out) (by decide);go_wp2_with ((try simp only[xS,Exit.then]);with_reducible refine yp ?_ rfl HR.out;obtain⟨E0,E1,E2,E3⟩:=HE.out;simp[results,wE,go_sem,E0,E1,E2,E3])
    .skip
     obtain⟨x0,x1,x2,x3⟩:=S4.out.xs;obtain⟨y0,y1,y2,y3,y4,y5⟩:=S4.out.ys6;obtain⟨ba,ax,_,_⟩:=S4.out.lts;have bD:=S4.out.yW;obtain⟨ua,uc,D0,D1,R⟩:=S4.out.env (j:=an) (by rw[HK.out.zP];exact bd);have CP:=AA (fun W (hW:Below w4.heap.size w4 W)=>by have:=LH _ (AJ k.zZ an).zV nm W (BJ.below R hW) (H7 HK.out bd) HN.out;rw[show Gh (AJ k.zZ an).zV nm=Cl (AJ k.zZ an).zV nm by unfold Gh;rw[show BO (AJ k.zZ an).zV=true from HK.out.zV an bd,HV.out];rfl] at this;exact this);have al:=AA (show Ad k ⟨8,(en:Int),(an:Int),b,c,nm⟩=if(Cl (AJ k.zZ an).zV nm).2=false then(k,0,4) else({k with zZ:=Ar k.zZ an (BV (Cl (AJ k.zZ an).zV nm).1)},0,0) by rw[ay.out];rfl);generalize Cl (AJ k.zZ an).zV nm=res at CP al;clear R ay;go_wp2_with fail;refine BS 14 102 [.p w.heap.size 2, .s ge 3 ar, .p (w.heap.size+1) 2, .i ((an:Int)), .p ge (an*2), .p ge (an*2), .v (.slice ua (AJ k.zZ an).zV.length uc), .p (w.heap.size+1) 5, .t nm, .z, .z, .z, .b (res.2), .z] (fun ix vv ww=>match ix with
      |9|10=>∃v',vv= .tuple #[v', .bool res.2]/\AP w4.heap.size 9 1 BB ww v' res.1
      |11|13=>AP w4.heap.size 9 1 BB ww vv res.1
      |_=>True) ?_ ?_ ?_
     .intro i hi o ho a wx Hb Hd hG K HK
      have bf:=bc hG ax x2;have bj:=bc hG ba y2;have bq:=bc hG bD D0;have bu:=bc hG ba y5
      match i,hi with
      |0,_|2,_|5,_|7,_=>exact sP ho HK Hb Hd
      |1,_=>exact sL ho HK Hb Hd (hl:=NX ‹_›)
      |3,_=>exact sL ho HK Hb Hd (hl:=Fo ‹_›)
      |4,_=>exact sI ho HK Hb Hd (hr:=by clear Hd Hb HK;go_simp)
      |6,_=>exact sL ho HK Hb Hd (hl:=K9 ‹_›)
      |8,_=>exact sL ho HK Hb Hd (hl:=Yf ‹_›)
      |9,_=>exact sC ho HK Hb Hd (CP.out _ hG) (by rintro e w_ ⟨v',rfl,hO,az⟩;exact⟨_,rfl,⟨_,rfl,hO.lower hG.size⟩,az⟩)
      |10,_=>
       clear bf bj bq bu;obtain rfl:=yH ho;have d9:∃v',(a.tmps[54]?.getD undef)= .tuple #[v', .bool res.2]/\AP w4.heap.size 9 1 BB wx v' res.1:=BT Hd 9
       clear Hd Hb;refine yG ?_;go_simp;exact HK.out _ _ d9 (yF _ _)
      |11,_=>
       clear bf bj bq bu;obtain rfl:=yH ho;have bz:∃v',(a.tmps[44]?.getD undef)= .tuple #[v', .bool res.2]/\AP w4.heap.size 9 1 BB wx v' res.1:=BT Hd 10
       clear Hd Hb;obtain⟨v',bz,hO⟩:=bz;refine yG ?_;go_simp;exact HK.out _ _ hO (yF _ _)
      |12,_=>
       clear bf bj bq bu;obtain rfl:=yH ho;have bz:∃v',(a.tmps[44]?.getD undef)= .tuple #[v', .bool res.2]/\AP w4.heap.size 9 1 BB wx v' res.1:=BT Hd 10
       clear Hd Hb;obtain⟨v',bz,hO⟩:=bz;refine yG ?_;go_simp;exact HK.out _ _ rfl (yF _ _)
      |13,_=>clear bf bj bq bu;obtain rfl:=yH ho;have cB:AP w4.heap.size 9 1 BB wx (a.tmps[55]?.getD undef) res.1:=BT Hd 11;clear Hd Hb;refine yG ?_;go_simp;exact HK.out _ _ cB (yF _ _)
     .intro i hi vv wz bX a7 hz
      match i,hi with
      |9,_|10,_=>exact(by obtain⟨v',h0,h1⟩:=hz;exact⟨v',h0,AP.below h1 a7⟩)
      |11,_|13,_=>exact(AP.below hz a7)
      |0,_|1,_|2,_|3,_|4,_|5,_|6,_|7,_|8,_|12,_=>exact hz
     .intro vs wx hR hG
      have bi:(vs 12)= .bool (res.2):=BZ hR 12;have bg:AP w4.heap.size 9 1 BB wx (vs 13) res.1:=BZ hR 13;clear hR;simp only[Al,AV,yE,yB,yA,yy,bi];simp;generalize vs 13=z13 at bg ⊢;clear bi;have S5:=AA (S4.out.below hG);have HO:=AA bg;have bV:=AA hG;obtain⟨a9,c9,e9,_,_⟩:=bg.rd.shape;generalize wU _=n9 at e9;subst e9;clear x0 x1 x2 x3 y0 y1 y2 y3 y4 y5 D0 D1 bg hG;obtain⟨rs,rb⟩:=res;cases rb
      focus
       have bn:=AA (show Ad k ⟨8,(en:Int),(an:Int),b,c,nm⟩=(k,0,4) by rw[al.out];rfl)
       obtain⟨⟨x0,x1,x2,x3⟩,⟨⟨z0,z1,z2,z3⟩,a4⟩,HE,HR⟩:=S5.out.yJ au (v:=0) (code:=4) (bn.out) (by decide)
      rotate_left
      focus
       have bn:=AA (show Ad k ⟨8,(en:Int),(an:Int),b,c,nm⟩=({k with zZ:=Ar k.zZ an (BV rs)},0,0) by rw[al.out];rfl)
       have T:=AA (S4.out.zV HK.out.zP.symm bV.out (j:=an) (by rw[HK.out.zP];exact bd) HO.out);obtain⟨_,_,ep,_,_⟩:=S5.out.env (j:=an) (by rw[HK.out.zP];exact bd);have Fe:=S5.out.fze (an*2);have dE:=S5.out.xs.2.2.1;obtain⟨_,_,yo,_⟩:=S5.out.ys6;generalize hW9:wx.setCell _ _=W9 at T;obtain⟨⟨x0,x1,x2,x3⟩,⟨⟨z0,z1,z2,z3⟩,a4⟩,HE,HR⟩:=T.out.fin au (v:=0) (code:=0) (bn.out)
      rotate_left
      all_goals
       go_wp2_with ((try simp only[xS,Exit.then]);with_reducible refine yp ?_ rfl HR.out;obtain⟨E0,E1,E2,E3⟩:=HE.out;simp[results,wE,go_sem,E0,E1,E2,E3])
   .by_cases ee:an=en
    .have al:=AA (show Ad k ⟨9,(en:Int),(an:Int),b,c,nm⟩=(k,0,3) by rw[HP.out,if_pos (.inr (.inr ⟨rfl,by rw[ee]⟩))])
     have te:((an:Int)==(en:Int))=true:=by rw[ee];simp
     clear HP ee;go_in;go_wp2_with fail;refine(BM (JC _ _)).mono ?_;rintro r w1 ⟨rfl,a6⟩;rw[E1.out];have S1:=AA (S0.out.below a6);clear x0 x1 x2 x3 y0 y1 y2 y3 y4 y5 a6 hW0;obtain⟨y0,y1,y2,y3,y4,y5⟩:=S1.out.ys6;go_wp2_with fail;refine(CR.out _).mono ?_;rintro r w2 ⟨rfl,az⟩;have S2:=AA (S1.out.below az);clear y0 y1 y2 y3 y4 y5 az;obtain⟨y0,y1,y2,y3,y4,y5⟩:=S2.out.ys6;obtain⟨⟨x0,x1,x2,x3⟩,⟨⟨z0,z1,z2,z3⟩,a4⟩,HE,HR⟩:=S2.out.yJ au (v:=0) (code:=3) (al.out) (by decide);go_wp2_with ((try simp only[xS,Exit.then]);with_reducible refine yp ?_ rfl HR.out;obtain⟨E0,E1,E2,E3⟩:=HE.out;simp[results,wE,go_sem,E0,E1,E2,E3])
    .have ay:=AA (show Ad k ⟨9,(en:Int),(an:Int),b,c,nm⟩=if Bv (AJ k.zZ en).zV nm=false then(k,0,1) else if BC k.Os (BY k.mem (AJ k.zZ an).root) (DB (AJ k.zZ an).zV nm)=false then(k,0,2) else({k with zZ:=Ar k.zZ an (BV (DB (AJ k.zZ an).zV nm))},0,0) by rw[HP.out,if_neg (by rintro(x|x|⟨_,x⟩);(· rw[E1.out] at x;cases x);(· rw[HV.out] at x;cases x);exact ee (by omega))];rfl)
     have te:((an:Int)==(en:Int))=false:=by simp;omega
     clear HP ee;go_in;go_wp2_with fail;refine(BM (JC _ _)).mono ?_;rintro r w1 ⟨rfl,a6⟩;rw[E1.out];have S1:=AA (S0.out.below a6);clear x0 x1 x2 x3 y0 y1 y2 y3 y4 y5 a6 hW0;obtain⟨y0,y1,y2,y3,y4,y5⟩:=S1.out.ys6;go_wp2_with fail;refine(CR.out _).mono ?_;rintro r w2 ⟨rfl,az⟩;have S2:=AA (S1.out.below az);clear y0 y1 y2 y3 y4 y5 az;obtain⟨y0,y1,y2,y3,y4,y5⟩:=S2.out.ys6;obtain⟨x0,x1,x2,x3⟩:=S2.out.xs;generalize hmb:Bv (AJ k.zZ en).zV nm=mb at CM ay;clear hmb;go_wp2_with fail;refine(CM.out _ S2.out.K.2.2.1).mono ?_;rintro r w4 ⟨rfl,bs⟩;have S4:=AA (S2.out.below bs);clear x0 x1 x2 x3 y0 y1 y2 y3 y4 y5 bs CM;cases mb
     .have al:=AA (show Ad k ⟨9,(en:Int),(an:Int),b,c,nm⟩=(k,0,1) by rw[ay.out];rfl)
      obtain⟨⟨x0,x1,x2,x3⟩,⟨⟨z0,z1,z2,z3⟩,a4⟩,HE,HR⟩:=S4.out.yJ au (v:=0) (code:=1) (al.out) (by decide);go_wp2_with ((try simp only[xS,Exit.then]);with_reducible refine yp ?_ rfl HR.out;obtain⟨E0,E1,E2,E3⟩:=HE.out;simp[results,wE,go_sem,E0,E1,E2,E3])
     .skip
      obtain⟨x0,x1,x2,x3⟩:=S4.out.xs;obtain⟨y0,y1,y2,y3,y4,y5⟩:=S4.out.ys6;obtain⟨ba,ax,_,_⟩:=S4.out.lts;have bD:=S4.out.yW;obtain⟨ua,uc,D0,D1,R⟩:=S4.out.env (j:=an) (by rw[HK.out.zP];exact bd);have cO:=H7 HK.out bd;have CD:=AA (fun W (hW:Below w4.heap.size w4 W)=>UM _ (AJ k.zZ an).zV nm W (BJ.below R hW) cO HN.out (by have:(AJ k.zZ an).zV.length<=6:=(GH.1 (HK.out.zV an bd)).2.2;omega));have al:=AA (show Ad k ⟨9,(en:Int),(an:Int),b,c,nm⟩=if BC k.Os (BY k.mem (AJ k.zZ an).root) (DB (AJ k.zZ an).zV nm)=false then(k,0,2) else({k with zZ:=Ar k.zZ an (BV (DB (AJ k.zZ an).zV nm))},0,0) by rw[ay.out];rfl);have cP:DP (DB (AJ k.zZ an).zV nm):=fun s hs=>cO s (List.mem_filter.1 hs).1
      generalize DB (AJ k.zZ an).zV nm=rs at CD al cP;have es:=AA cP;clear R ay cO cP;go_wp2_with fail;refine Aa 9 102 [.p w.heap.size 2, .s ge 3 ar, .p (w.heap.size+1) 2, .i ((an:Int)), .p ge (an*2), .p ge (an*2), .v (.slice ua (AJ k.zZ an).zV.length uc), .p (w.heap.size+1) 5, .t nm] (fun _ _ _=>True) ?_ ?_
      .intro i hi o ho a wx Hb Hd hG K HK
       have bf:=bc hG ax x2;have bj:=bc hG ba y2;have bq:=bc hG bD D0;have bu:=bc hG ba y5
       match i,hi with
       |0,_|2,_|5,_|7,_=>exact sP ho HK Hb Hd
       |1,_=>exact sL ho HK Hb Hd (hl:=NX ‹_›)
       |3,_=>exact sL ho HK Hb Hd (hl:=Fo ‹_›)
       |4,_=>exact sI ho HK Hb Hd (hr:=by clear Hd Hb HK;go_simp)
       |6,_=>exact sL ho HK Hb Hd (hl:=K9 ‹_›)
       |8,_=>exact sL ho HK Hb Hd (hl:=Yf ‹_›)
      .intro vs wx hR hG
       have q6:(vs 6)= .slice ua (AJ k.zZ an).zV.length uc:=BZ hR 6;have q8:(vs 8)= .string nm:=BZ hR 8;clear hR;simp only[Al,AV,yE,yB,yA,yy,q6,q8];simp;clear q6 q8;have bV:=AA hG;clear x0 x1 x2 x3 y0 y1 y2 y3 y4 y5 D0 D1 hG ba ax bD;go_wp2_with fail;refine(CD.out _ bV.out).mono ?_;rintro r w5 ⟨v',rfl,hO,bm⟩;have cj:=AA (bV.out.trans (bm.mono bV.out.size));have S5:=AA (S4.out.below cj.out);have HO:=AA (hO.lower bV.out.size);obtain⟨a9,c9,e9,_,_⟩:=hO.rd.shape;have ey:=AA hO.rd;generalize wU _=n9 at e9;subst e9;clear hO bm CD;obtain⟨x0,x1,x2,x3⟩:=S5.out.xs;obtain⟨y0,y1,y2,y3,y4,y5⟩:=S5.out.ys6;obtain⟨ba,ax,_,_⟩:=S5.out.lts;have bD:=S5.out.yW;obtain⟨_,_,D0,D1,_⟩:=S5.out.env (j:=an) (by rw[HK.out.zP];exact bd);have be:(AJ k.zZ an).root<12:=by have:=zC HK.out bd;omega
       have RM:=S5.out.K.1;have RI:=S5.out.K.2.1;have CX:=AA (fun W (hW:Below w5.heap.size w5 W)=>It _ k.mem (AJ k.zZ an).root W (RM.below hW) (Aw HK.out).1 be);have CA:=AA (fun W (hW:Below w5.heap.size w5 W) v2 (h2:Ax W v2 (Ay (EY k.mem (AJ k.zZ an).root)))=>by have:=Fz _ v2 _ k.Os (EY k.mem (AJ k.zZ an).root) rs W (BJ.below RI hW) h2 (BJ.below ey.out hW) (fun f hf=>by have:=zy be f ((F5 be f).1 hf);have:=HK.out.len;omega) (Cb (Aw HK.out).2.1) es.out;rw[Fq (F5 be)] at this;exact this);generalize hbb:BC k.Os (BY k.mem (AJ k.zZ an).root) rs=bb at CA al;clear hbb RM RI be;go_wp2_with fail;refine BS 13 102 [.p w.heap.size 1, .s gi 12 aq, .p w.heap.size 0, .v (.slice am bh cm), .p w.heap.size 2, .s ge 3 ar, .p (w.heap.size+1) 2, .i ((an:Int)), .p ge (an*2), .p ge (an*2+1), .i ((AJ k.zZ an).root), .z, .v (.slice a9 n9 c9)] (fun ix vv ww=>match ix with
        |11=>AG w5.heap.size ww vv (Ay (EY k.mem (AJ k.zZ an).root))
        |_=>True) ?_ ?_ ?_
       .intro i hi o ho a wx Hb Hd hG K HK
        have bf:=bc hG ax x1;have bj:=bc hG ax x0;have bq:=bc hG ax x2;have bu:=bc hG ba y2;have cG:=bc hG bD D1
        match i,hi with
        |0,_|2,_|4,_|6,_|9,_|12,_=>exact sP ho HK Hb Hd
        |1,_=>exact sL ho HK Hb Hd (hl:=GF ‹_›)
        |3,_=>exact sL ho HK Hb Hd (hl:=GM ‹_›)
        |5,_=>exact sL ho HK Hb Hd (hl:=NX ‹_›)
        |7,_|10,_=>exact sL ho HK Hb Hd (hl:=Fo ‹_›)
        |8,_=>exact sI ho HK Hb Hd (hr:=by clear Hd Hb HK;go_simp)
        |11,_=>exact sC ho HK Hb Hd (CX.out _ hG) (by rintro e w_ ⟨v9,rfl,hO,az⟩;exact⟨_,rfl,(BR hO hG.size),az⟩)
       .intro i hi vv wz bX a7 hz
        match i,hi with
        |11,_=>exact(AG.below hz a7)
        |0,_|1,_|2,_|3,_|4,_|5,_|6,_|7,_|8,_|9,_|10,_|12,_=>exact hz
       .intro vs wx hR hG
        have q1:(vs 1)= .slice (some ⟨gi,0,none⟩) 12 aq:=BZ hR 1;have b5:AG w5.heap.size wx (vs 11) (Ay (EY k.mem (AJ k.zZ an).root)):=BZ hR 11;have bi:(vs 12)= .slice a9 n9 c9:=BZ hR 12;clear hR;simp only[Al,AV,yE,yB,yA,yy,q1,bi];simp;generalize vs 11=z11 at b5 ⊢;clear q1 bi;have HQ:=AA b5.rd;obtain⟨a8,c8,e8,_⟩:=b5.rd.open;generalize wU _=n8 at e8;subst e8;have cN:=AA hG;clear x0 x1 x2 x3 y0 y1 y2 y3 y4 y5 D0 D1 hG ba ax bD b5;go_wp2_with fail;refine(CA.out _ cN.out _ HQ.out).mono ?_;rintro r w7 ⟨rfl,cX⟩;have dB:=AA ((cj.out.trans (cN.out.mono cj.out.size)).trans (cX.mono (yD cj.out.size cN.out.size)));have S7:=AA (S4.out.below dB.out);have ez:=AA (AP.below (AP.below HO.out cN.out) cX);clear cX CA HQ;cases bb
        focus
         have bn:=AA (show Ad k ⟨9,(en:Int),(an:Int),b,c,nm⟩=(k,0,2) by rw[al.out];rfl)
         obtain⟨⟨x0,x1,x2,x3⟩,⟨⟨z0,z1,z2,z3⟩,a4⟩,HE,HR⟩:=S7.out.yJ au (v:=0) (code:=2) (bn.out) (by decide)
        rotate_left
        focus
         have bn:=AA (show Ad k ⟨9,(en:Int),(an:Int),b,c,nm⟩=({k with zZ:=Ar k.zZ an (BV rs)},0,0) by rw[al.out];rfl)
         have T:=AA (S4.out.zV HK.out.zP.symm dB.out (j:=an) (by rw[HK.out.zP];exact bd) ez.out);obtain⟨_,_,ep,_,_⟩:=S7.out.env (j:=an) (by rw[HK.out.zP];exact bd);have Fe:=S7.out.fze (an*2);have dE:=S7.out.xs.2.2.1;obtain⟨_,_,yo,_⟩:=S7.out.ys6;generalize hW9:w7.setCell _ _=W9 at T;obtain⟨⟨x0,x1,x2,x3⟩,⟨⟨z0,z1,z2,z3⟩,a4⟩,HE,HR⟩:=T.out.fin au (v:=0) (code:=0) (bn.out)
        rotate_left
        all_goals
         go_wp2_with ((try simp only[xS,Exit.then]);with_reducible refine yp ?_ rfl HR.out;obtain⟨E0,E1,E2,E3⟩:=HE.out;simp[results,wE,go_sem,E0,E1,E2,E3])
theorem Vf (h:DO lo w mv iv ev cv k) (au:lo<=w.heap.size) (hk:DI k) (call:Ab) (he:0<=call.e/\call.e<3) (h2:call.k=10∨call.k=11):
 Calls prog 219 #[.agg #[mv,iv,ev,cv], .agg call.cs] w (Kh lo w (Ad k call)):=by
 have a5:=SC.start h au call;have P0:=(Wq (k:=k) h2).trans Zu;have b7:=(Aw hk).1;obtain⟨gm,av,e7,_⟩:=EL.mems a5 b7;obtain⟨ge,ar,e9,_,_⟩:=a5.zZ (by rw[hk.zP];omega);rw[hk.zP] at e9;obtain⟨am,bh,cm,ai,ni,ci,ae,bp,ce,ac,nc,cc,em,ei,ee,ec⟩:=a5.zS;subst e7 e9 ei ec;clear em ee;have S0:=AA a5;obtain⟨kk,e,ra,b,c,nm⟩:=call;simp only at he h2;obtain⟨en,rfl⟩:∃n:Nat,e=(n:Int):=⟨e.toNat,by omega⟩
 have bk:en<3:=by omega
 have cz:(en:Int)<3:=by omega
 simp only[Ab.cs,xY] at S0 P0 ⊢;obtain⟨x0,x1,x2,x3⟩:=S0.out.xs;obtain⟨y0,y1,y2,y3,y4,y5⟩:=S0.out.ys6;obtain⟨_,_,_,D1,_⟩:=S0.out.env (j:=en) (by rw[hk.zP];exact bk);obtain⟨rt,hrt⟩:∃r,(AJ k.zZ en).root=r:=⟨_,rfl⟩
 rw[hrt] at P0 D1;have cp:=AA hrt;have HP:=AA P0;have HK:=AA hk;have ch:=AA b7;obtain⟨bad,hbad⟩:∃b',decide (Bd ra 0 63=false∨rt<0∨(kk=11/\Dy b=false))=b':=⟨_,rfl⟩
 have HB:=AA hbad;clear h a5 he hk P0 b7 hrt hbad h2;go_in;go_upto_region 2 with fail;clear D1;go_cut [37] (fun dI wx=>dI= .bool bad/\SC lo w.heap.size ⟨kk,(en:Int),ra,b,c,nm⟩ w wx (.slice (some ⟨gm,0,none⟩) 12 av) (.slice ai ni ci) (.slice (some ⟨ge,0,none⟩) 3 ar) (.slice ac nc cc) k)
 case first=>
  go_wp2_with fail;refine(BM (Jn _ _)).mono ?_;rintro r w1 ⟨rfl,a6⟩;have S1:=AA (S0.out.below a6);clear x0 x1 x2 x3 y0 y1 y2 y3 y4 y5 a6;obtain⟨y0,y1,y2,y3,y4,y5⟩:=S1.out.ys6;cases e1:Bd ra 0 63
  .have E1:=AA e1
   clear e1;go_wp2_with fail;go_meet
   case rel=>exact⟨by rw[<-HB.out];simp[E1.out],S1.out⟩
  have E1:=AA e1;clear e1
  by_cases h0:rt<0
  .have H0:=AA h0
   go_wp2_with fail;go_meet
   case rel=>exact⟨by rw[<-HB.out];simp[H0.out],S1.out⟩
  have H0:=AA h0;cases tk:(kk==11)
  .have TK:=AA (show kk≠11 by simpa using tk)
   go_wp2_with fail;go_meet
   case rel=>exact⟨by rw[<-HB.out];simp[E1.out,H0.out,TK.out],S1.out⟩
  have TK:=AA (show kk=11 by simpa using tk);go_wp2_with fail;refine(BM (Cv _ _ _ _)).mono ?_;rintro r w2 ⟨rfl,az⟩;have S2:=AA (S1.out.below az);clear y0 y1 y2 y3 y4 y5 az;go_wp2_with fail;go_meet
  case rel=>exact⟨by rw[<-HB.out];unfold Dy;cases hw:Bd b 0 9999<;>simp[E1.out,H0.out,TK.out,hw],S2.out⟩
 case rest=>
 obtain⟨rfl,hS⟩:=hcut;have S2:=AA hS;obtain⟨w2,rfl⟩:∃w2,w2=wc:=⟨_,rfl⟩
 clear x0 x1 x2 x3 y0 y1 y2 y3 y4 y5 hS S0;cases bad
 rotate_left
 .have al:=AA (HP.out.trans (if_pos (of_decide_eq_true HB.out)))
  clear HP HB;obtain⟨⟨x0,x1,x2,x3⟩,⟨⟨z0,z1,z2,z3⟩,a4⟩,HE,HR⟩:=S2.out.yJ au (v:=0) (code:=3) (al.out) (by decide);go_wp2_with ((try simp only[xS,Exit.then]);with_reducible refine yp ?_ rfl HR.out;obtain⟨E0,E1,E2,E3⟩:=HE.out;simp[results,vR,go_sem,E0,E1,E2,E3])
 have bB:=HP.out.trans (if_neg (of_decide_eq_false HB.out));have bZ:=of_decide_eq_false HB.out;have ab:=Ac.1 (show Bd ra 0 63=true by cases e1:Bd ra 0 63;(· exact absurd (.inl e1) bZ);(· rfl));obtain⟨an,rfl⟩:∃n:Nat,ra=(n:Int):=⟨ra.toNat,by omega⟩
 have bd:an<64:=by omega
 obtain⟨rn,rfl⟩:∃n:Nat,rt=(n:Int):=⟨rt.toNat,by have:¬rt<0:=fun x=>bZ (.inr (.inl x));omega⟩
 have be:rn<12:=by have:=zC HK.out bk;rw[cp.out] at this;omega
 simp only[xY] at bB;have dc:=AA bB;clear bB HP HB bZ ab;obtain⟨x0,x1,x2,x3⟩:=S2.out.xs;obtain⟨y0,y1,y2,y3,y4,y5⟩:=S2.out.ys6;have CF:=AA (PU _ k.zY (en:Int) ((an:Int)/4) w2 S2.out.K.2.2.2);go_wp2_with fail;refine CF.out.mono ?_;rintro r w3 ⟨rfl,ca⟩;have S3:=AA (S2.out.below ca);clear x0 x1 x2 x3 y0 y1 y2 y3 y4 y5 ca CF;obtain⟨x0,x1,x2,x3⟩:=S3.out.xs;obtain⟨y0,y1,y2,y3,y4,y5⟩:=S3.out.ys6;have FC:=AA (fun h=>VM (c:=k.zY) (e:=(en:Int)) (p:=((an:Int)/4)) h);generalize hat:Hj k.zY (en:Int) ((an:Int)/4)=at_ at*;have dC:=AA hat;clear hat;go_upto_if 52 with fail;have bm:=AD w3 (.cells #[.int .i64 0, .int .i64 ((an:Int)%4), .bool false] 100);have n5:=yw w3 (.cells #[.int .i64 0, .int .i64 ((an:Int)%4), .bool false] 100);have eF:=S3.out.lts.2.1;have S5:=AA (S3.out.below bm);have cD:=AA S3.out.lo;have cj:=AA bm;have ek:=bm.size;clear x0 x1 x2 x3 y0 y1 y2 y3 y4 y5 bm;generalize hW5:w3.alloc _=W5 at*;generalize hqq:w3.heap.size=q at*;have ew:=AA hqq;clear hqq;have N5:=AA n5;clear n5 hW5;have eG:q≠w.heap.size:=by omega
 have dZ:w.heap.size≠q:=by omega
 go_cut [10,11] (fun cF eC wx=>∃(fr:Nat) (wb:Bool),fr<12/\Bu k.mem rn an=(0,fr,wb)/\(SC lo w.heap.size ⟨kk,(en:Int),(an:Int),b,c,nm⟩ w wx (.slice (some ⟨gm,0,none⟩) 12 av) (.slice ai ni ci) (.slice (some ⟨ge,0,none⟩) 3 ar) (.slice ac nc cc) k)/\wx.heap[q]? =some (.cells #[.int .i64 fr, .int .i64 ((an:Int)%4), .bool wb] 100 (0,0)))
 case first=>
  obtain⟨x0,x1,x2,x3⟩:=S5.out.xs;obtain⟨y0,y1,y2,y3,y4,y5⟩:=S5.out.ys6;obtain⟨c0,c1,c2⟩:=Fs N5.out;have a4:=AK N5.out
  by_cases cr:at_<0
  .have CW:=AA (PR _ k.mem rn an W5 S5.out.K.1 ch.out be bd)
   go_wp2_with fail;refine CW.out.mono ?_;rintro r w6 ⟨rfl,cY⟩;have S6:=AA (S5.out.below cY);have N6:=AA (AC N5.out cY);clear x0 x1 x2 x3 y0 y1 y2 y3 y4 y5 c0 c1 c2 a4 cY CW;rw[show Ib k.mem rn an= .tuple #[if(Bu k.mem rn an).1=0 then MI (Bu k.mem rn an).2.1 an (Bu k.mem rn an).2.2 else En, .int .i64 (Bu k.mem rn an).1] from rfl];have er:=AA (fun fr wb (h:Bu k.mem rn an=(0,fr,wb))=>WL h);generalize bA:Bu k.mem rn an=res at*;clear bA;obtain⟨cd,fr,wb⟩:=res
   by_cases cJ:cd=0
   .subst cJ
    have b8:=er.out fr wb rfl;rw[if_pos rfl];unfold MI;rw[show((an%4:Nat):Int)=(an:Int)%4 by omega];have B7:=AD w6 (.cells #[.int .i64 fr, .int .i64 ((an:Int)%4), .bool wb] 100);obtain⟨T8,n8⟩:=(S6.out.below B7).place (by decide) (AC N6.out B7) (yD cD.out (yv _)) (.int .i64 fr) (.int .i64 ((an:Int)%4)) (.bool wb);have T8:=AA T8;have N8:=AA n8;obtain⟨c0,c1,c2⟩:=Fs (AC N6.out B7);have a4:=AK (AC N6.out B7);have dU:q≠w6.heap.size:=by have:=AY N6.out;omega
    have dT:w6.heap.size≠q:=fun e=>dU e.symm
    clear B7 n8;go_wp2_with fail;go_meet
    case rel=>exact⟨fr,wb,b8,rfl,T8.out,N8.out⟩
   .rw[if_neg cJ]
    unfold En;have B7:=AD w6 (.cells #[.int .i64 0, .int .i64 0, .bool false] 100);have S7:=AA (S6.out.below B7);have ef:(cd !=0)=true:=by simp[cJ]
    have al:=AA (dc.out.trans (if_pos cJ));clear B7;obtain⟨⟨x0,x1,x2,x3⟩,⟨⟨z0,z1,z2,z3⟩,a4⟩,HE,HR⟩:=S7.out.yJ au (v:=0) (code:=3) (al.out) (by decide);go_wp2_with ((try simp only[xS,Exit.then]);with_reducible refine yp ?_ rfl HR.out;obtain⟨E0,E1,E2,E3⟩:=HE.out;simp[results,vR,go_sem,E0,E1,E2,E3])
  .obtain⟨j,hj,ej,hs⟩:=FC.out (by omega)
   rw[show(an:Int)/4=((an/4:Nat):Int) by omega] at hs;obtain⟨fr,b8,cV,bA⟩:=To HK.out hj hs rfl;generalize(AT k.zY j).w=wb at cV bA;obtain⟨a8,c8,e8,_,_,H8⟩:=BJ.open Cg (by decide) S3.out.K.2.2.2;cases e8;obtain⟨bc,co,rfl,cW,D0,D1,D2,D3⟩:=H8.zN hj;rw[cV] at D2 D3;rw[ew.out] at cW;simp only at D2 D3;have eP:=(cj.out.cell (p:=⟨bc,co+j*4+2,none⟩) cW).trans D2;have eO:=(cj.out.cell (p:=⟨bc,co+j*4+3,none⟩) cW).trans D3;obtain⟨T8,n8⟩:=S5.out.place2 (by decide) N5.out (yD cD.out (yv _)) (.int .i64 fr) (.bool wb);have T8:=AA T8;have N8:=AA n8;have bx:(j:Int)<k.zY.length:=by omega
   have eh:bc≠q:=by omega
   have dS:q≠bc:=by omega
   rw[cp.out] at bA;rw[xY] at bA;subst ej;clear hs cV D0 D1 D2 D3 n8 H8;go_wp2_with fail;go_meet
   case rel=>exact⟨fr,wb,b8,bA,T8.out,N8.out⟩
 case rest=>
  obtain⟨fr,wb,b8,bA,s8,n8⟩:=hcut;generalize wc=w8 at*;have S8:=AA s8;have N8:=AA n8;have bB:=dc.out;rw[bA,if_neg (by simp),show((an:Int)%4).toNat=an%4 by omega] at bB;simp only at bB;clear s8 n8 dc bA;obtain⟨x0,x1,x2,x3⟩:=S8.out.xs;obtain⟨y0,y1,y2,y3,y4,y5⟩:=S8.out.ys6;obtain⟨p0,p1,p2⟩:=Fs N8.out;go_upto_region 13 with fail;go_cut [87] (fun dH wx=>dH= .bool ((kk==11)&&!wb)/\wx=w8)
  case first=>
   cases tk:(kk==11)
   all_goals
    go_wp2_with fail;go_meet
    case rel=>exact⟨by rw[tk];rfl,rfl⟩
  case rest=>
  obtain⟨rfl,rfl⟩:=hcut;obtain⟨w8,rfl⟩:∃w8,w8=wc:=⟨_,rfl⟩
  cases az:((kk==11)&&!wb)
  rotate_left
  .have al:=AA (bB.trans (if_pos (by simpa using az)))
   obtain⟨⟨x0,x1,x2,x3⟩,⟨⟨z0,z1,z2,z3⟩,a4⟩,HE,HR⟩:=S8.out.yJ au (v:=0) (code:=1) (al.out) (by decide);go_wp2_with ((try simp only[xS,Exit.then]);with_reducible refine yp ?_ rfl HR.out;obtain⟨E0,E1,E2,E3⟩:=HE.out;simp[results,vR,go_sem,E0,E1,E2,E3])
  have al:=AA (bB.trans (if_neg (by simpa using az)));clear bB az;go_upto_if 90 with fail;clear x0 x1 x2 x3 y0 y1 y2 y3 y4 y5 p0 p1 p2;go_cut [] (fun wx=>∃cv,(SC lo w.heap.size ⟨kk,(en:Int),(an:Int),b,c,nm⟩ w wx (.slice (some ⟨gm,0,none⟩) 12 av) (.slice ai ni ci) (.slice (some ⟨ge,0,none⟩) 3 ar) cv {k with zY:=Mw k.zY (en:Int) ((an:Int)/4) fr wb})/\wx.heap[q]? =some (.cells #[.int .i64 fr, .int .i64 ((an:Int)%4), .bool wb] 100 (0,0)))
  case first=>
   by_cases cr:at_<0
   .obtain⟨x0,x1,x2,x3⟩:=S8.out.xs
    obtain⟨y0,y1,y2,y3,y4,y5⟩:=S8.out.ys6;obtain⟨p0,p1,p2⟩:=Fs N8.out;have CP:=AA (RZ _ k.zY ⟨(en:Int),(an:Int)/4,(fr:Int),wb⟩ w8 S8.out.K.2.2.2 (PM HK.out));go_wp2_with fail;refine CP.out.mono ?_;rintro r w9 ⟨v',rfl,hO,bl⟩;have T9:=AA (S8.out.zY bl hO);have N9:=AA (show(w9.setCell ⟨w.heap.size,3,none⟩ v').heap[q]? =_ from Ap (AC N8.out bl) (Aq w9 w.heap.size 3 v') dZ);have hU:=AA (show Mw k.zY (en:Int) ((an:Int)/4) fr wb=Mk k.zY ⟨(en:Int),(an:Int)/4,(fr:Int),wb⟩ by unfold Mw;rw[dC.out,if_pos cr]);have c6:=AK (S8.out.below bl).yK.1;have dd:=(S8.out.below bl).xs.2.2.2;clear x0 x1 x2 x3 y0 y1 y2 y3 y4 y5 p0 p1 p2 CP;obtain⟨a9,c9,e9,_,_⟩:=hO.rd.shape;generalize wU _=n9 at e9;subst e9;clear hO bl;go_wp2_with fail;go_meet
    case rel=>exact⟨_,by rw[hU.out];exact T9.out,N9.out⟩
   .have hU:=AA (show Mw k.zY (en:Int) ((an:Int)/4) fr wb=k.zY by unfold Mw;rw[dC.out,if_neg (by omega)])
    go_wp2_with fail;go_meet
    case rel=>exact⟨_,by rw[hU.out];exact S8.out,N8.out⟩
  case rest=>
   obtain⟨cv,cF,df⟩:=hcut;generalize wc=w10 at*;have br:=AA cF;have cM:=AA df;obtain⟨cn,c9,e9,_,_⟩:=(cF.K.2.2.2).shape;generalize wU _=nc9 at e9;subst e9;generalize c9=cc9 at*;clear cF df S8 N8;obtain⟨x0,x1,x2,x3⟩:=br.out.xs;obtain⟨y0,y1,y2,y3,y4,y5⟩:=br.out.ys6;obtain⟨p0,p1,p2⟩:=Fs cM.out;obtain⟨ba,ax,_,_⟩:=br.out.lts;have ct:=AY cM.out;cases tk:(kk==11)
   .have ck:=AA tk
    obtain⟨gw,bo,D,cS,dq,hC,_,_,_,cR,_⟩:=EL.mrow br.out ch.out b8;have cx:gm<w10.heap.size:=yC _ _ D;have cy:(fr:Int)<12:=by omega
    have dw:(an:Int)%4<4:=by omega
    have Dw:=hC (an%4) (by omega);obtain⟨dW,cl⟩:=br.out.rs _ (xi.2 rfl);have dN:gw≠w.heap.size+2:=cR _ _ _ cl (by decide);clear cR;have de:q≠w.heap.size+2:=fun e=>by rw[e] at cM;rw[cM.out] at cl;simp at cl
    have dO:gm≠w.heap.size+2:=fun e=>by obtain⟨vs,o⟩:=br.out.yK.2.2.1;obtain⟨cu,ed⟩:=A6 o.1 gm rfl;exact Bo ed cl (by decide) e
    have bn:=al.out.trans (if_neg (by simpa using ck.out));generalize As k.mem fr (an%4)=wd at Dw bn;have bn:=AA bn;obtain⟨⟨z0,z1,z2,z3⟩,a4⟩:=br.out.zs;go_wp2_with fail;refine Dz 14 131 (fun ix=>ix==11) [.a #[.slice (some ⟨gm,0,none⟩) 12 av, .slice ai ni ci, .slice (some ⟨ge,0,none⟩) 3 ar, .slice cn nc9 cc9], .p w.heap.size 0, .s gm 12 av, .p q 0, .i ((fr:Int)), .p gm fr, .s gw 4 bo, .p q 1, .i (((an:Int)%4)), .p gw (an%4), .i wd, .z, .i wd, .i 0] (fun ll ix vv ww=>match ix with
     |_=>True) (fun ll ww=>GA w10 (w.heap.size+2) (.slice (some ⟨gm,0,none⟩) 12 av) (.slice ai ni ci) (.slice (some ⟨ge,0,none⟩) 3 ar) (.slice cn nc9 cc9) (ll 11) ww) ?_ ?_ ?_ ?_ ?_ ?_
    .exact A9 (yF _ _) 1
    .exact fun _ _ _ _ _ _ _ _ _ _ _ _ h=>h
    .intro ll i wz bX hi hS cL a7 hg
     show GA _ _ _ _ _ _ (F8 ll i 11) _
     rw[F9 (by rintro rfl;cases hS)];exact GA.grow hg a7
    .intro i hi hS o ho a wx Hb ll Hd HL hG K HK
     match i,hi,hS with
     |0,_,_=>have bt:=Ba HL 11;have bf:=(show wx.cell? ⟨w.heap.size,0,none⟩=some (.slice (some ⟨gm,0,none⟩) 12 av) from(GA.cell hG ax (by simp)).trans x0);have bj:=(show wx.cell? ⟨w.heap.size,1,none⟩=some (.slice ai ni ci) from(GA.cell hG ax (by simp)).trans x1);have bq:=(show wx.cell? ⟨w.heap.size,2,none⟩=some (.slice (some ⟨ge,0,none⟩) 3 ar) from(GA.cell hG ax (by simp)).trans x2);have bu:=(show wx.cell? ⟨w.heap.size,3,none⟩=some (.slice cn nc9 cc9) from(GA.cell hG ax (by simp)).trans x3);exact NU ho HK Hb Hd HL (hl:=NZ ‹_› ‹_› ‹_› ‹_›)
     |1,_,_|3,_,_|7,_,_|12,_,_|13,_,_=>exact WR ho HK Hb Hd HL
     |2,_,_=>have bf:=(show wx.cell? ⟨w.heap.size,0,none⟩=some (.slice (some ⟨gm,0,none⟩) 12 av) from(GA.cell hG ax (by simp)).trans x0);exact NU ho HK Hb Hd HL (hl:=GM ‹_›)
     |4,_,_=>have cG:=(show wx.cell? ⟨q,0,none⟩=some (.int .i64 fr) from(GA.cell hG ct de).trans p0);exact NU ho HK Hb Hd HL (hl:=Fo ‹_›)
     |6,_,_=>have dg:=(show wx.cell? ⟨gm,fr,none⟩=some (.slice (some ⟨gw,0,none⟩) 4 bo) from(GA.cell hG cx dO).trans D);exact NU ho HK Hb Hd HL (hl:=Jx ‹_›)
     |8,_,_=>have dP:=(show wx.cell? ⟨q,1,none⟩=some (.int .i64 (((an:Int)%4))) from(GA.cell hG ct de).trans p1);exact NU ho HK Hb Hd HL (hl:=Fo ‹_›)
     |10,_,_=>have eE:=(show wx.cell? ⟨gw,an%4,none⟩=some (.int .i64 wd) from(GA.cell hG cS dN).trans Dw);exact NU ho HK Hb Hd HL (hl:=Fo ‹_›)
     |11,_,hs=>cases hs
     |5,_,_=>obtain rfl:=yH ho;have d2:(a.tmps[122]?.getD undef)= .slice (some ⟨gm,0,none⟩) 12 av:=DT Hd HL 2;have d4:(a.tmps[124]?.getD undef)= .int .i64 fr:=DT Hd HL 4;clear Hd Hb;refine yG ?_;go_simp;exact HK.out _ _ rfl (yF _ _)
     |9,_,_=>obtain rfl:=yH ho;have d6:(a.tmps[126]?.getD undef)= .slice (some ⟨gw,0,none⟩) 4 bo:=DT Hd HL 6;have d8:(a.tmps[128]?.getD undef)= .int .i64 (((an:Int)%4)):=DT Hd HL 8;clear Hd Hb;refine yG ?_;go_simp;exact HK.out _ _ rfl (yF _ _)
    .intro i hi hS o ho a wx Hb ll Hd HL hG K HK
     match i,hi,hS with
     |0,_,hs|1,_,hs|2,_,hs|3,_,hs|4,_,hs|5,_,hs|6,_,hs|7,_,hs|8,_,hs|9,_,hs|10,_,hs|12,_,hs|13,_,hs=>cases hs
     |11,_,_=>
      obtain rfl:=yH ho;have e4:a.tmps[4]?.getD undef= .pointer (some ⟨w.heap.size+2,0,none⟩):=eg (OV Hb 4);have d0:(a.tmps[120]?.getD undef)= .agg #[.slice (some ⟨gm,0,none⟩) 12 av, .slice ai ni ci, .slice (some ⟨ge,0,none⟩) 3 ar, .slice cn nc9 cc9]:=DT Hd HL 0;clear Hd Hb;rw[HL.out.1] at hG;replace hG:Below w10.heap.size w10 wx:=hG;have B2:=AC cl hG;obtain⟨c0,c1,c2,c3⟩:=AF B2;have eL:=AK B2;refine yG ?_;go_simp;exact HK.out undef _ trivial (by show GA _ _ _ _ _ _ (F8 ll 11 11) _;rw[Ge];exact⟨wx,hG,yF _ _⟩) (fun j bx bC bw hu=>match j,bC with
       |0,_|1,_|2,_|3,_|4,_|5,_|6,_|7,_|8,_|9,_|10,_|12,_|13,_=>hu
       |11,_=>absurd rfl bx)
    .intro vs wx ll cf hR hG
     have bi:(vs 12)= .int .i64 wd:=BZ hR 12;have bg:(vs 13)= .int .i64 0:=BZ hR 13;clear hR;simp only[Dc,Bq,yE,yB,yA,yy,bi,bg];simp;clear bi bg;rw[cf 11 (by decide)] at hG;obtain⟨wz,h1,h2⟩:=hG;have c5:Below (Es wz (w.heap.size+2) (.slice (some ⟨gm,0,none⟩) 12 av) (.slice ai ni ci) (.slice (some ⟨ge,0,none⟩) 3 ar) (.slice cn nc9 cc9)).heap.size (Es wz (w.heap.size+2) (.slice (some ⟨gm,0,none⟩) 12 av) (.slice ai ni ci) (.slice (some ⟨ge,0,none⟩) 3 ar) (.slice cn nc9 cc9)) wx:=by simpa[Es] using h2
     obtain⟨du,dD⟩:=(br.out.below h1).ret (yD au (vX _ _)) (vX _ _) (v:=wd) (code:=0) bn.out;obtain⟨E0,E1,E2,E3⟩:=AF (AC du c5);have HR:=AA (dD.below (by have:=(br.out.below h1).lo;simpa using this) c5);have HE:=AA (ye E0 (ye E1 (ye E2 E3)));clear x0 x1 x2 x3 y0 y1 y2 y3 y4 y5 p0 p1 p2 z0 z1 z2 z3 a4 D Dw E0 E1 E2 E3 du dD h1 h2 c5 cl;go_wp2_with fail;exact yp (v:= .tuple #[.agg #[_,_,_,_], .int .i64 wd, .int .i64 0]) (by simp[results,vR,go_sem,HE.out]) rfl HR.out
   .have ck:=AA tk
    obtain⟨gw,bo,D,cS,dq,_⟩:=EL.mrow br.out ch.out b8;have cx:gm<w10.heap.size:=yC _ _ D;have cy:(fr:Int)<12:=by omega
    have dw:(an:Int)%4<4:=by omega
    have bn:=AA (al.out.trans (if_pos (by simpa using ck.out)));go_wp2_with fail;refine Aa 10 131 [.p w.heap.size 0, .s gm 12 av, .p q 0, .i ((fr:Int)), .p gm fr, .s gw 4 bo, .p q 1, .i (((an:Int)%4)), .p (w.heap.size+1) 3, .i b] (fun _ _ _=>True) ?_ ?_
    .intro i hi o ho a wx Hb Hd hG K HK
     have bf:=bc hG ax x0;have bj:=bc hG ct p0;have bq:=bc hG cx D;have bu:=bc hG ct p1;have cG:=bc hG ba y3
     match i,hi with
     |0,_|2,_|6,_|8,_=>exact sP ho HK Hb Hd
     |1,_=>exact sL ho HK Hb Hd (hl:=GM ‹_›)
     |3,_|7,_|9,_=>exact sL ho HK Hb Hd (hl:=Fo ‹_›)
     |4,_=>exact sI ho HK Hb Hd (hr:=by clear Hd Hb HK;go_simp)
     |5,_=>exact sL ho HK Hb Hd (hl:=Jx ‹_›)
    .intro vs wx hR hG
     have q5:(vs 5)= .slice (some ⟨gw,0,none⟩) 4 bo:=BZ hR 5;have q7:(vs 7)= .int .i64 (((an:Int)%4)):=BZ hR 7;have q9:(vs 9)= .int .i64 b:=BZ hR 9;clear hR;simp only[Al,AV,yE,yB,yA,yy,q5,q7,q9];simp;clear q5 q7 q9;have eq:=AA (br.out.below hG);obtain⟨eo,cC,D2,_,_,hC,Fr,_,_,dQ,hS⟩:=EL.mrow eq.out ch.out b8;clear dQ;have eD:=D2.symm.trans ((hG.cell (p:=⟨gm,fr,none⟩) cx).trans D);cases eD;have D3:=hC (an%4) (by omega);have dz:=AA (hS (an%4) b (by omega));generalize hW9:wx.setCell _ _=W9 at dz;clear x0 x1 x2 x3 y0 y1 y2 y3 y4 y5 p0 p1 p2 D D2 hS hG br hC cy dw cS dq cx ba ax ct;obtain⟨⟨x0,x1,x2,x3⟩,⟨⟨z0,z1,z2,z3⟩,a4⟩,HE,HR⟩:=dz.out.fin au (v:=0) (code:=0) (bn.out);go_wp2_with ((try simp only[xS,Exit.then]);with_reducible refine yp ?_ rfl HR.out;obtain⟨E0,E1,E2,E3⟩:=HE.out;simp[results,vR,go_sem,E0,E1,E2,E3])
def Zw (w w':World):Prop:=∀(b:Nat) (cu:Array Value),w.heap[b]? =some (.cells cu 28 (0,0))->w'.heap[b]? =w.heap[b]?
theorem Kh.up {T:Nat} {cs:Array Value} {b0 b:Nat} {W W1:World} {m i e c m' i' e' c':Value} {res:L8} (h:EL T cs [b] lo w.heap.size b0 w W m i e c k) (au:lo<=b) (eJ:w.heap.size<=b)
 (hs:bJ m' i' e' c') (hK:res.2.2=0->DO lo W1 m' i' e' c' res.1) (hb:Below lo W W1) (hf:Zw W W1):
 W1.heap[b]? =some (.cells #[.slice none 0 0, .slice none 0 0, .slice none 0 0, .slice none 0 0] 28 (0,0))/\
 ((((W1.setCell ⟨b,0,none⟩ m').setCell ⟨b,1,none⟩ i').setCell ⟨b,2,none⟩ e').setCell ⟨b,3,none⟩ c').heap[b]? =some (.cells #[m',i',e',c'] 28 (0,0))/\
 Kh lo w res (.returned (.tuple #[.agg #[m',i',e',c'], .int .i64 res.2.1, .int .i64 res.2.2])) ((((W1.setCell ⟨b,0,none⟩ m').setCell ⟨b,1,none⟩ i').setCell ⟨b,2,none⟩ e').setCell ⟨b,3,none⟩ c'):=by
 obtain⟨cR,dv⟩:=h.rs b (xi.2 rfl);have hB:=(hf b _ dv).trans dv;have cw:=An (An (An (Aq W1 b 0 m') 1 i') 2 e') 3 c';refine⟨hB,Cs hB,m',i',e',c',rfl,hs,fun hc=>?_,((((h.bel.trans hb).setCell au _).setCell au _).setCell au _).setCell au _,fun q cu hq=>?_⟩
 .obtain⟨⟨vs,o1⟩,o2,⟨ps,o3⟩,o4⟩:=hK hc
  exact⟨⟨vs,o1.yN cw hB⟩,o2.yN cw hB,⟨ps,o3.yN cw hB⟩,o4.yN cw hB⟩
 .have e1:=(h.kf q cu (by have:=AY hq;omega) hq).trans hq
  have e2:=(hf q cu e1).trans e1;exact(Ap e2 cw (by have:=AY hq;omega)).trans hq.symm
end Go.Proofs.YtinbcpipjfljeaaGreatDoor
