/-
  Packed:14 texts.
-/
import Derived.Test.YtinbcpipjfljeaaGreatDoorY1
import Derived.Test.YtinbcpipjfljeaaGreatDoorY12
import Derived.Test.YtinbcpipjfljeaaGreatDoorY7
import Derived.Test.YtinbcpipjfljeaaGreatDoorY9
import Derived.Test.YtinbcpipjfljeaaGreatDoorY2
import Derived.Test.YtinbcpipjfljeaaGreatDoorY4
import Derived.Deep.DeepCutAuto
import Derived.Deep.CutBlock
import Derived.Test.YtinbcpipjfljeaaGreatDoorY11
set_option linter.unusedVariables false
set_option linter.unusedSimpArgs false
set_option maxHeartbeats 16000000
set_option maxRecDepth 100000
open Go Go.Proofs.YtinbcpipjfljeaaGreatDoor
open Bool renaming and_eq_true_iff->vT
open Go.Oper renaming upon_enter->ur
open Go.Proofs.Tryz renaming results10->sS,results104->vg,results108->sV,results155->we
open Go.Region renaming waitsFor->ym
open Go.RowKit.Below renaming refl->yF
open Go.World renaming cell?_alloc_new->tY,cell?_of_block->wt,size_alloc->xG
open Go renaming bodyPost_ret->yp,cell_of_row->yi,heap_alloc_new->yw,heap_setCell_other->wT,heap_setCell_same->yu
open Int renaming eq_ofNat_of_zero_le->yd,toNat_natCast->xY
open List renaming filter_cons->uW,length_filter_le->wV,mem_cons->xm,not_mem_nil->wM,range->yE
open Nat renaming add_le_add_left->tx,le_refl->yv,le_trans->yD,lt_of_lt_of_le->xZ,mul_le_mul_left->wG
variable {w1:World} {lo:Nat}
namespace Go.Proofs.YtinbcpipjfljeaaGreatDoor
open Go.Proofs.Tryz
open Go.RowKit
theorem P7 (mv iv ev cv sv lv qv:Value) (P:AR) (n:Int) (w:World) (h:Lr w mv iv ev cv sv lv qv P) (hs:EQ P.zX) (dh:(Bz P&&Bd n 0 15)=false):
 Calls prog 10 #[AQ mv iv ev cv sv lv qv P.zT P.zW, .int .i64 n] w fun r w'=>U3 r/\Below w.heap.size w w':=by
 unfold AQ U3 AQ;obtain⟨N0,N1,ax,be⟩:=Jp w (.cells #[mv,iv,ev,cv,sv,lv,qv, .int .i64 P.zT, .int .i64 P.zW] 32) (.cells #[.slice none 0 0, .slice none 0 0, .slice none 0 0, .slice none 0 0, .slice none 0 0, .slice none 0 0, .slice none 0 0, .int .i64 0, .int .i64 0] 32);have h0:=h.below ax;obtain⟨x0,x1,x2,x3,x4,x5,x6,x7,x8⟩:=AE N0;have cM:=AA be;clear be;go_in;go_wp2_with fail;generalize(w.alloc _).alloc _=W0 at*;have CV:=GT mv iv ev cv sv lv qv P W0 h0 hs;unfold AQ at CV;have aq:=AA ax;have bo:=AA N1;generalize Bz P=ok at*;clear h h0 ax N0 N1 x0 x1 x2 x3 x4 x5 x6 x7 x8;refine CV.mono ?_;rintro r w1 ⟨rfl,b1⟩;have Bw:=AA (aq.out.trans (b1.mono aq.out.size));clear CV;cases ok
 focus
  skip
 rotate_left
 focus
  go_wp2_with fail
  refine(Cv _ _ _ _).mono ?_;rintro r w2 ⟨rfl,rfl⟩;rw[show Bd n 0 15=false by simpa using dh];clear dh
 rotate_left
 all_goals
  have N1:=AC bo.out b1;have f1:=AK N1;obtain⟨a0,a1,a2,a3,a4,a5,a6,a7,a8⟩:=AE N1;have S2:=AA (LT N1 (Bw.out) (by omega));clear N1;go_wp2_with fail;clear a0 a1 a2 a3 a4 a5 a6 a7 a8 f1;obtain⟨N2,B2⟩:=S2.out;unfold Er at N2 B2;exact yp (v:= .tuple #[.agg #[_,_,_,_,_,_,_,_,_],_]) (by simp[results,sS,go_sem,AE N2]) rfl ⟨rfl,B2⟩
theorem Ij (mv iv ev cv sv lv qv:Value) (P:AR) (w:World) (h:Lr w mv iv ev cv sv lv qv P) (hP:EC P) {n:Nat} (hn:n<16):
 Calls prog 10 #[AQ mv iv ev cv sv lv qv P.zT P.zW, .int .i64 n] w (IM w (BI P n)):=by
 have al:=fun lo W m i e c s l q (O:Ez lo W m i e c s l q P) (hl:lo<=W.heap.size)=>Sr O hl hP hn
 have HT:=fun(h:(BI P n).2=false)=>Gd hP hn h
 generalize BI P n=t at al HT ⊢;obtain⟨Q,bb⟩:=t;unfold L9 AQ at al;dsimp only at al HT ⊢;have al:=AA al;have HT:=AA HT;unfold AQ IM AQ;obtain⟨N0,N1,ax,be⟩:=Jp w (.cells #[mv,iv,ev,cv,sv,lv,qv, .int .i64 P.zT, .int .i64 P.zW] 32) (.cells #[.slice none 0 0, .slice none 0 0, .slice none 0 0, .slice none 0 0, .slice none 0 0, .slice none 0 0, .slice none 0 0, .int .i64 0, .int .i64 0] 32);have h0:=h.below ax;have cj:Bz P=true:=Ep.2 hP;obtain⟨x0,x1,x2,x3,x4,x5,x6,x7,x8⟩:=AE N0;have cM:=AA be;clear be;go_in;go_wp2_with fail;generalize(w.alloc _).alloc _=W0 at*;have CV:=GT mv iv ev cv sv lv qv P W0 h0 (Ce hP.k);have CO:=AA (fun W (hW:Below W0.heap.size W0 W)=>K5 mv iv ev cv sv lv qv P W (h0.below hW) hP);rw[cj] at CV;unfold AQ at CV CO;have aq:=AA ax;have cl:=AA N0;have bo:=AA N1;have eF:=AA hP;have d9:Bd (n:Int) 0 15=true:=Ac.2 (by omega);clear h h0 ax N0 N1 hP cj x0 x1 x2 x3 x4 x5 x6 x7 x8;refine CV.mono ?_;rintro r w1 ⟨rfl,b1⟩;obtain⟨x0,x1,x2,x3,x4,x5,x6,x7,x8⟩:=AE (AC cl.out b1);have a9:=AA b1;clear b1 CV;go_wp2_with fail;refine(Cv _ _ _ _).mono ?_;rintro r w2 ⟨rfl,rfl⟩;rw[d9];go_wp2_with fail;refine(CO.out w1 a9.out).mono ?_;rintro r w2 ⟨m2,i2,e2,c2,s2,l2,q2,rfl,O2,b2⟩;unfold AQ;obtain⟨⟨⟨ma,mn,mc,rfl⟩,⟨ia,iN,ic,rfl⟩,⟨ea,en,ec,rfl⟩,⟨ka,kn,kc,rfl⟩⟩,⟨sa,sn,sc,rfl⟩,⟨la,ln,lc,rfl⟩,⟨pa,pn,pc,rfl⟩⟩:=O2.zS;have CT:=AA (al.out _ _ _ _ _ _ _ _ _ O2 b2.size);clear al;have dt:=AA b2;clear O2 b2 x0 x1 x2 x3 x4 x5 x6 x7 x8;go_wp2_with fail;refine CT.out.mono ?_;rintro r w3 ⟨hy,cT,b3,s3⟩;have cH:=a9.out.trans ((dt.out.trans b3).mono a9.out.size);have B2:=AC (AC bo.out a9.out) dt.out;have N3:=s3 _ _ B2;cases bb
 focus
  obtain rfl:=cT rfl
  obtain rfl:=HT.out rfl;have b4:=AD w3 (.cells #[.slice ma mn mc, .slice ia iN ic, .slice ea en ec, .slice ka kn kc, .slice sa sn sc, .slice la ln lc, .slice pa pn pc, .int .i64 Q.zT, .int .i64 Q.zW] 32);have B4:=AC N3 b4;have cL:=cH.trans (b4.mono cH.size);obtain⟨x0,x1,x2,x3,x4,x5,x6,x7,x8⟩:=AE (AC cl.out cL);have ar:=AA (aq.out.trans (cL.mono aq.out.size));have dw:=AA (CO.out _ cL);have dv:=AA B4;clear hy cT b3 s3 cH B2 N3 b4 cL CT B4;go_wp2_with fail;refine dw.out.mono ?_;rintro r w5 ⟨m5,i5,e5,c5,s5,l5,q5,rfl,O5,b5⟩;unfold AQ;clear x0 x1 x2 x3 x4 x5 x6 x7 x8 dw;generalize w3.alloc _=W4 at*;obtain⟨⟨⟨_,_,_,rfl⟩,⟨_,_,_,rfl⟩,⟨_,_,_,rfl⟩,⟨_,_,_,rfl⟩⟩,⟨_,_,_,rfl⟩,⟨_,_,_,rfl⟩,⟨_,_,_,rfl⟩⟩:=O5.zS;have N5:=AC dv.out b5;have S5:=DD N5 O5;obtain⟨a0,a1,a2,a3,a4,a5,a6,a7,a8⟩:=AE N5;have f5:=AK N5;have cw:=AA S5;have dc:=AA b5;have ds:=AA (AY dv.out)
 rotate_left
 focus
  obtain⟨m3,i3,e3,c3,ew,l3,q3,rfl,O3⟩:=hy rfl
  obtain⟨⟨⟨dH,dE,dG,rfl⟩,⟨dS,dT,dQ,rfl⟩,⟨ep,em,eo,rfl⟩,⟨dP,dN,dO,rfl⟩⟩,⟨dA,dy,dz,rfl⟩,⟨dM,dI,dJ,rfl⟩,⟨dD,dB,dC,rfl⟩⟩:=O3.zS;have b5:=AD w3 (.cells #[.slice dH dE dG, .slice dS dT dQ, .slice ep em eo, .slice dP dN dO, .slice dA dy dz, .slice dM dI dJ, .slice dD dB dC, .int .i64 Q.zT, .int .i64 Q.zW] 32);have O5:=(O3.below b5).lower (lo':=w.heap.size) (yD aq.out.size a9.out.size);have ar:=AA (aq.out.trans (cH.mono aq.out.size));have du:=AA N3;clear hy cT b3 s3 cH B2 CT O3 N3;have N5:=AC du.out b5;have S5:=DD N5 O5;obtain⟨a0,a1,a2,a3,a4,a5,a6,a7,a8⟩:=AE N5;have f5:=AK N5;have cw:=AA S5;have dc:=AA b5;have ds:=AA (AY du.out)
 rotate_left
 all_goals
  clear O5 S5 N5 b5;go_wp2_with fail;clear a0 a1 a2 a3 a4 a5 a6 a7 a8 f5;obtain⟨N6,O6,ao⟩:=cw.out;have B6:=AM (ar.out.trans (dc.out.mono (by have:=ar.out.size;have:=ds.out;omega))) ao (by omega) (by have:=ar.out.size;have:=dc.out.size;omega);have O7:=O6.lower (lo':=w.heap.size) (by have:=ar.out.size;omega);unfold Er at N6 O7 B6;exact yp (v:= .tuple #[.agg #[_,_,_,_,_,_,_,_,_],_]) (by simp[results,sS,go_sem,AE N6]) rfl ⟨_,_,_,_,_,_,_,rfl,O7,B6⟩
theorem Lr.shp {w:World} {m i e c s l q:Value} {P:AR} (h:Lr w m i e c s l q P):((∃a n q,m= .slice a n q)/\(∃a n q,i= .slice a n q)/\(∃a n q,e= .slice a n q)/\∃a n q,c= .slice a n q)/\(∃a n q,s= .slice a n q)/\(∃a n q,l= .slice a n q)/\∃a n r,q= .slice a n r:=by obtain⟨⟨h1,h2,h3,h4⟩,h5,h6,h7⟩:=h;obtain⟨_,_,rfl,_⟩:=h1.open;obtain⟨_,_,rfl,_⟩:=h2.shape;obtain⟨_,_,rfl,_⟩:=h3.open;obtain⟨_,_,rfl,_⟩:=h4.shape;obtain⟨_,_,rfl,_⟩:=h5.open;obtain⟨_,_,rfl,_⟩:=h6.open;obtain⟨_,_,rfl,_⟩:=h7.shape;exact⟨⟨⟨_,_,_,rfl⟩,⟨_,_,_,rfl⟩,⟨_,_,_,rfl⟩,⟨_,_,_,rfl⟩⟩,⟨_,_,_,rfl⟩,⟨_,_,_,rfl⟩,⟨_,_,_,rfl⟩⟩
def Z7:AR:=⟨⟨[],[],[],[]⟩,[],[],[],0,0⟩
theorem Uy (w:World):Lr w (.slice none 0 0) (.slice none 0 0) (.slice none 0 0) (.slice none 0 0) (.slice none 0 0) (.slice none 0 0) (.slice none 0 0) Z7:=
 ⟨⟨⟨[],AP.rd (Lf F3 0 29 1 w),Fb.nil⟩,AP.rd (Lf A2 0 93 3 w),⟨[],AP.rd (Lf EX 0 62 2 w),Fb.nil⟩,AP.rd (Lf Ae 0 98 4 w)⟩,⟨[],AP.rd (Lf F3 0 29 1 w),Fb.nil⟩,AG.rd (lo:=0) (World.ownsRow_nil _ _ _ _),AP.rd (Lf Cz 0 40 3 w)⟩
def JT (P:AR) (n:Int):AR×Bool:=if(Bz P&&Bd n 0 15)=true then BI P n.toNat else(Z7,false)
def ah (w:World) (t:AR×Bool) (r:Ending) (w':World):Prop:=∃m i e c s l q,r= .returned (.tuple #[AQ m i e c s l q t.1.zT t.1.zW, .bool t.2])/\Lr w' m i e c s l q t.1/\Below w.heap.size w w'
theorem ZB (mv iv ev cv sv lv qv:Value) (P:AR) (n:Int) (w:World) (h:Lr w mv iv ev cv sv lv qv P) (hs:EQ P.zX):
 Calls prog 9 #[AQ mv iv ev cv sv lv qv P.zT P.zW, .int .i64 n] w (ah w (JT P n)):=by
 unfold JT;cases hb:(Bz P&&Bd n 0 15)
 .exact(QU _ _ _ _ _ _ _ P n w h hs hb).mono fun _ w' ⟨h1,h2⟩=>⟨_,_,_,_,_,_,_,h1,Uy w',h2⟩
 .obtain⟨h1,h2⟩:=vT.1 hb
  obtain⟨h3,h4⟩:=Ac.1 h2;obtain⟨a,rfl⟩:=yd h3;exact(Ot _ _ _ _ _ _ _ P w h (Ep.1 h1) (n:=a) (by omega)).mono fun _ _ ⟨m,i,e,c,s,l,q,h1,h2,h3⟩=>⟨m,i,e,c,s,l,q,h1,h2.rd,h3⟩
theorem aS (mv iv ev cv sv lv qv:Value) (P:AR) (n:Int) (w:World) (h:Lr w mv iv ev cv sv lv qv P) (hs:EQ P.zX):
 Calls prog 10 #[AQ mv iv ev cv sv lv qv P.zT P.zW, .int .i64 n] w (ah w (JT P n)):=by
 unfold JT;cases hb:(Bz P&&Bd n 0 15)
 .exact(P7 _ _ _ _ _ _ _ P n w h hs hb).mono fun _ w' ⟨h1,h2⟩=>⟨_,_,_,_,_,_,_,h1,Uy w',h2⟩
 .obtain⟨h1,h2⟩:=vT.1 hb
  obtain⟨h3,h4⟩:=Ac.1 h2;obtain⟨a,rfl⟩:=yd h3;exact(Ij _ _ _ _ _ _ _ P w h (Ep.1 h1) (n:=a) (by omega)).mono fun _ _ ⟨m,i,e,c,s,l,q,h1,h2,h3⟩=>⟨m,i,e,c,s,l,q,h1,h2.rd,h3⟩
theorem WH {P:AR} {n:Int} (h:(JT P n).2=true):EC P/\0<=n/\n<16/\JT P n=BI P n.toNat:=by
 unfold JT at h ⊢
 by_cases hb:(Bz P&&Bd n 0 15)=true
 .rw[if_pos hb]
  obtain⟨h1,h2⟩:=vT.1 hb;obtain⟨h3,h4⟩:=Ac.1 h2;exact⟨Ep.1 h1,h3,by omega,rfl⟩
 .rw[if_neg hb] at h
  cases h
theorem Tc {P Q:AR} {n:Int} (h:JT P n=(Q,true)):EC Q/\JT Q n=(Q,true):=by obtain⟨h1,h2,h3,h4⟩:=WH (P:=P) (n:=n) (by rw[h]);obtain⟨a,rfl⟩:=yd h2;rw[h] at h4;rw[xY] at h4;have h5:=Uq h1 (n:=a) (by omega) (by rw[<-h4]);have h6:=Ln h1 (n:=a) (by omega);rw[<-h4] at h5 h6;refine⟨h6,?_⟩;unfold JT;rw[if_pos (by rw[Ep.2 h6,Ac.2 ⟨h2,by omega⟩];rfl),xY];exact h5
def Dr (w0:World) (g N:Nat) (w:World):Prop:=Ef w0 w (.pointer (some ⟨g,0,none⟩)) N/\Below w0.heap.size w0 w/\w0.heap.size<=g/\g<w.heap.size
theorem Dr.of {w0 w:World} {R:Value} {N:Nat} (h:Ef w0 w R N) (hb:Below w0.heap.size w0 w):∃g,R= .pointer (some ⟨g,0,none⟩)/\Dr w0 g N w:=by obtain⟨g,da,bs,p,rfl,hg,b9,hr⟩:=h;exact⟨g,rfl,⟨g,da,bs,p,rfl,hg,b9,hr⟩,hb,hg,(Array.getElem?_eq_some_iff.1 b9).1⟩
theorem Dr.keep {w0 w w':World} {g N:Nat} {row:Option Nat} (h:Dr w0 g N w) (hg:w.grownBy w' row) (h1:row≠some g) (h2:∀k,row=some k->w0.heap.size<=k):Dr w0 g N w':=by
 obtain⟨⟨g',da,bs,p,hR,ef,b9,hr⟩,hb,an,ae⟩:=h;obtain rfl:g=g':=by simpa using hR
 exact⟨⟨g,da,bs,p,rfl,ef,(hg.block g ae (fun e=>h1 e.symm)).trans b9,hr⟩,hb.grown hg hb.size h2,an,xZ ae hg.size⟩
theorem Dr.below {w0 w w':World} {g N:Nat} (h:Dr w0 g N w) (hb:Below w.heap.size w w'):Dr w0 g N w':=h.keep (AW hb none) (by simp) (fun k hk=>by cases hk)
theorem Dr.alloc {w0 w:World} {g N:Nat} (h:Dr w0 g N w) (o:Obj):Dr w0 g N (w.alloc o):=h.below (AD _ _)
theorem Dr.mono {w0 w:World} {g N M:Nat} (h:Dr w0 g N w) (hm:N<=M):Dr w0 g M w:=⟨h.1.mono hm,h.2⟩
theorem Dr.set {w0 w:World} {g N b j:Nat} {u:Value} (h:Dr w0 g N w) (bC:b≠g) (hb:w0.heap.size<=b):Dr w0 g N (w.setCell ⟨b,j,none⟩ u):=
 h.keep (Aq w b j u) (by simpa using bC) (fun k hk=>by cases hk;exact hb)
theorem Dr.lt {w0 w:World} {g N:Nat} (h:Dr w0 g N w):g<w.heap.size:=h.2.2.2
theorem Dr.pick {w0 w:World} {g N:Nat} (n:Int) (h:Dr w0 g N w) (hN:N<=1000000:=by omega) (hn:n<=1000000:=by decide):
 Calls prog 20 #[.pointer (some ⟨g,0,none⟩), .int .i64 n] w fun e w'=>∃x:Int,e= .returned (.int .i64 x)/\0<=x/\(0<n->x<n)/\Dr w0 g (N+1) w'/\w.grownBy w' (some g):=
 (Yx w0 _ N n w h.1 h.2.1 hN hn).mono fun _ _ hp=>by
  obtain⟨x,rfl,⟨bm,cm,eA⟩,hr,cf,g1,ee,ad⟩:=hp;obtain rfl:g=g1:=by simpa using ee
  exact⟨x,rfl,bm,cm,⟨hr,cf,h.2.2.1,xZ h.2.2.2 ad.size⟩,ad⟩
theorem Gj {w0 w:World} {row:Option Nat} (h:w0.grownBy w row) (o:Obj):w0.grownBy (w.alloc o) row:=AO h (AW (AD _ _) row)
theorem Bh {w0 w:World} {row:Option Nat} (h:w0.grownBy w row) {b j:Nat} (hb:w0.heap.size<=b) (u:Value):w0.grownBy (w.setCell ⟨b,j,none⟩ u) row:=
 ⟨h.os,h.tape,h.output,by simpa using h.size,fun k hk bC=>(wT w ⟨b,j,none⟩ k u (by intro e;simp at e;omega)).trans (h.block k hk bC)⟩
def GK (w0:World) (g N:Nat) (w:World) (P:Value->Prop) (e:Ending) (w':World):Prop:=∃v,e= .returned v/\P v/\Dr w0 g N w'/\w.grownBy w' (some g)
theorem Na {w0 w:World} {g N:Nat} (b n:Nat) (ss:List ByteArray) (h:Dr w0 g N w) (hN:N<=1000000) (hn:ss.length=n) (h0:0<n) (h1:n<=1000) (bC:b≠g) (hb:b<w.heap.size) (hc:∀k,k<n->w.cell? ⟨b,k,none⟩=some (.string (DZ ss k))):
 Calls prog 156 #[.pointer (some ⟨g,0,none⟩), .slice (some ⟨b,0,none⟩) n n] w (GK w0 g (N+1) w fun v=>∃s,s∈ss/\v= .string s):=by
 have Hc:=AA hc;clear hc;have Hn:=AA hn;clear hn;go_in;go_wp2_with fail;refine(h.pick _ hN (by omega)).mono ?_;rintro e w1 ⟨x,rfl,cx,bm,h',ad⟩;have bm:=bm (by omega);obtain⟨x,rfl⟩:=yd cx;have D:w1.cell? ⟨b,x,none⟩=some (.string (DZ ss x)):=(wt (ad.block b hb (by simpa using bC))).trans (Hc.out x (by omega));have cm:x<n:=by omega
 go_wp2_with fail;go_ret;exact⟨_,rfl,⟨DZ ss x,List.mem_of_getElem? (IH (by rw[Hn.out];exact cm)),rfl⟩,h',ad⟩
theorem XJ (f:Int) (b:Bool) (w:World) (h0:0<=f) (h1:f<=1000):
 Calls prog 99 #[.int .i64 f, .bool b] w fun e w'=>e= .returned (.int .i64 (if b then 4*f+3 else 4*f+1))/\w=w':=by
 cases b<;>(go_in;go_wp2_with fail;go_ret;exact⟨rfl,rfl⟩)
theorem Dn {w:World} {g:Nat} {vs:Array Value} {t j:Nat} {u:Value} (ad:(w.alloc (.cells vs t)).grownBy w1 (some g)) (ae:g<w.heap.size) (hj:vs[j]? =some u):w1.cell? ⟨w.heap.size,j,none⟩=some u:=by refine(wt (ad.block w.heap.size (by simp) (by simp;omega))).trans ?_;rw[tY];exact hj
theorem Me {w0 w:World} {g N:Nat} (h:Dr w0 g N w) (hN:N<=900000):
 Calls prog 107 #[.pointer (some ⟨g,0,none⟩)] w (GK w0 g (N+3) w fun v=>∃x:Int,v= .int .i64 x/\ -1<=x/\x<=9999):=by
 go_in;go_wp2_with fail;refine(h.pick _).mono ?_;rintro e w1 ⟨x,rfl,cx,bm,h1,g1⟩;have bm:=bm (by decide)
 by_cases hx:x=0
 .subst hx
  go_wp2_with fail;go_ret;exact⟨_,rfl,⟨0,rfl,by decide,by decide⟩,h1.mono (by omega),g1⟩
 by_cases cK:x=1
 .subst cK
  go_wp2_with fail;go_ret;exact⟨_,rfl,⟨0,rfl,by decide,by decide⟩,h1.mono (by omega),g1⟩
 by_cases cm:x=2
 .subst cm
  clear hx cK;go_wp2_with fail;refine((h1.alloc _).pick _).mono ?_;rintro e w2 ⟨y,rfl,bZ,av,h2,g2⟩;have av:=av (by decide);have c0:=Dn (j:=0) g2 h1.lt rfl;have c1:=Dn (j:=1) g2 h1.lt rfl;have c2:=Dn (j:=2) g2 h1.lt rfl;have c3:=Dn (j:=3) g2 h1.lt rfl;have c4:=Dn (j:=4) g2 h1.lt rfl;have c5:=Dn (j:=5) g2 h1.lt rfl;have c6:=Dn (j:=6) g2 h1.lt rfl;have G:=AA (AO g1 (AO (AW (AD _ _) _) g2));clear g1 g2
  rcases(show y=0∨y=1∨y=2∨y=3∨y=4∨y=5∨y=6 by omega) with rfl|rfl|rfl|rfl|rfl|rfl|rfl
  all_goals
   go_wp2_with fail;go_ret;exact⟨_,rfl,⟨_,rfl,by decide,by decide⟩,h2.mono (by omega),G.out⟩
 .have t0:(x==0)=false:=by simp[hx]
  have t1:(x==1)=false:=by simp[cK]
  have t2:(x==2)=false:=by simp[cm]
  clear hx cK cm;go_wp2_with fail;refine(h1.pick _).mono ?_;rintro e w2 ⟨y,rfl,bZ,av,h2,g2⟩;have av:=av (by decide);go_wp2_with fail;refine(h2.pick _).mono ?_;rintro e w3 ⟨z,rfl,ey,dd,h3,g3⟩;have dd:=dd (by decide);have G:=AA (AO (AO g1 g2) g3);clear g1 g2 g3;go_wp2_with fail;go_ret;exact⟨_,rfl,⟨_,rfl,by omega,by omega⟩,h3.mono (by omega),G.out⟩
theorem Jy (w:World) (ss:List ByteArray) (t:TypeId) {k:Nat} (hk:k<ss.length):(w.alloc (.cells (ss.map Value.string).toArray t)).cell? ⟨w.heap.size,k,none⟩=some (.string (DZ ss k)):=by rw[tY];simp only[List.getElem?_toArray,List.getElem?_map];rw[IH hk];rfl
theorem Iu {w0 w:World} {g N:Nat} (h:Dr w0 g N w) (hN:N<=900000):
 Calls prog 158 #[.pointer (some ⟨g,0,none⟩)] w (GK w0 g (N+2) w fun v=>∃s,s.size<=8/\v= .string s):=by
 go_in;go_wp2_with fail;refine(h.pick _).mono ?_;rintro e w1 ⟨x,rfl,cx,bm,h1,g1⟩
 by_cases hx:x=0
 .subst hx
  go_wp2_with fail;refine(Na w1.heap.size 4 [⟨#[100]⟩,⟨#[65]⟩,⟨#[97,98,99,97,98]⟩,⟨#[97,32,98]⟩] (h1.alloc _) (by omega) rfl (by decide) (by decide) (by have:=h1.lt;omega) (by simp) (fun k hk=>Jy w1 [⟨#[100]⟩,⟨#[65]⟩,⟨#[97,98,99,97,98]⟩,⟨#[97,32,98]⟩] _ hk)).mono ?_;rintro e w2 ⟨v,rfl,⟨s,hs,rfl⟩,h2,g2⟩;have G:=AA (AO g1 (AO (AW (AD _ _) _) g2));have hl:s.size<=8:=by
   simp only[xm,wM,or_false] at hs
   rcases hs with rfl|rfl|rfl|rfl<;>decide
  clear g1 g2 hs;go_wp2_with fail;go_ret;exact⟨_,rfl,⟨s,hl,rfl⟩,h2,G.out⟩
 .have t0:(x==0)=false:=by simp[hx]
  clear hx;go_wp2_with fail;refine(Na w1.heap.size 12 [⟨#[]⟩,⟨#[97]⟩,⟨#[98]⟩,⟨#[99]⟩,⟨#[97,98]⟩,⟨#[97,97]⟩,⟨#[97,98,99]⟩,⟨#[98,97]⟩,⟨#[98]⟩,⟨#[97]⟩,⟨#[97,98,99,97]⟩,⟨#[97,99]⟩] (h1.alloc _) (by omega) rfl (by decide) (by decide) (by have:=h1.lt;omega) (by simp) (fun k hk=>Jy w1 [⟨#[]⟩,⟨#[97]⟩,⟨#[98]⟩,⟨#[99]⟩,⟨#[97,98]⟩,⟨#[97,97]⟩,⟨#[97,98,99]⟩,⟨#[98,97]⟩,⟨#[98]⟩,⟨#[97]⟩,⟨#[97,98,99,97]⟩,⟨#[97,99]⟩] _ hk)).mono ?_;rintro e w2 ⟨v,rfl,⟨s,hs,rfl⟩,h2,g2⟩;have G:=AA (AO g1 (AO (AW (AD _ _) _) g2));have hl:s.size<=8:=by
   simp only[xm,wM,or_false] at hs
   rcases hs with rfl|rfl|rfl|rfl|rfl|rfl|rfl|rfl|rfl|rfl|rfl|rfl<;>decide
  clear g1 g2 hs;go_wp2_with fail;go_ret;exact⟨_,rfl,⟨s,hl,rfl⟩,h2,G.out⟩
theorem SJ.info {w:World} {a:Option Addr} {xs:List AU} (h:SJ 3 A2 w a xs) {k:Nat} {x:AU} (hk:xs[k]? =some x):∃b bl,a=some ⟨b,bl,none⟩/\b<w.heap.size/\w.cell? ⟨b,bl+k*3,none⟩=some (.int .i64 x.k)/\w.cell? ⟨b,bl+k*3+1,none⟩=some (.string x.g)/\w.cell? ⟨b,bl+k*3+2,none⟩=some (.int .i64 x.r):=by obtain⟨b,bl,rfl,ae,hc⟩:=h k x hk;exact⟨b,bl,rfl,ae,hc 0 _ rfl,hc 1 _ rfl,hc 2 _ rfl⟩
def ZN (xs:List Int):Prop:=∀x∈xs,0<=x/\x<12
theorem OC {w0 w:World} {g N:Nat} (m i e c:Value) (xs:List AU) (kind:Int) (h:Dr w0 g N w) (hN:N<=900000) (hi:BU w i xs) (hl:xs.length<=12):
 Calls prog 181 #[.pointer (some ⟨g,0,none⟩), .agg #[m,i,e,c], .int .i64 kind] w (GK w0 g (N+1) w fun v=>∃x:Int,v= .int .i64 x/\0<=x/\x<12):=by
 obtain⟨a,cG,rfl,hc,ei,H0⟩:=BJ.open Az (by decide) hi;unfold maxLen at ei;clear hi;go_in;go_wp2_with fail;have cf:=AD w (.cells #[m, .slice a xs.length cG,e,c] 28);have dn:(w.alloc (.cells #[m, .slice a xs.length cG,e,c] 28)).heap[w.heap.size]? =some (.cells #[m, .slice a xs.length cG,e,c] 28 (0,0)):=yw w _;have dg:w.heap.size+1=(w.alloc (.cells #[m, .slice a xs.length cG,e,c] 28)).heap.size:=by simp
 generalize w.alloc (.cells #[m, .slice a xs.length cG,e,c] 28)=W at cf dn dg;rw[dg];go_loopw [7,8] (fun o i wr=>∃k:Nat,∃ys:List Int,k<=xs.length/\ys.length<=k/\ZN ys/\i= .int .i64 k/\AG W.heap.size wr o ys/\Below W.heap.size W wr) (fun _ i _=>xs.length - (intOf i).toNat)
 case atStart=>exact⟨0,[],Nat.zero_le _,Nat.zero_le _,fun x hx=>(by cases hx),rfl,Cp _ _ _,AD _ _⟩
 case round=>
  obtain⟨k,ys,hk,ez,de,rfl,bi,az⟩:=hrel;have db:=AA de;clear de;obtain⟨c0,c1,c2,c3⟩:=AF ((az.block _ (by omega)).trans dn);clear c0 c2 c3
  by_cases ae:k<xs.length
  .obtain⟨x,hx⟩:∃x,xs[k]? =some x:=⟨_,List.getElem?_eq_getElem ae⟩
   obtain⟨b,bl,rfl,ej,D0,_,_⟩:=H0.info hx;have D:wr.cell? ⟨b,bl+k*3,none⟩=some (.int .i64 x.k):=((cf.trans (az.mono cf.size)).cell (p:=⟨b,bl+k*3,none⟩) ej).trans D0;clear D0 hx
   by_cases bf:x.k=kind
   .have t0:(x.k==kind)=true:=by simp[bf]
    clear bf;have an:=az.size;go_wp2_with (at_builtin;go_must (refine Be (lo:=W.heap.size) (n:=ys.length) (xs:=ys.map (Value.int .i64)) (m:=1) (news:=[.int .i64 k]) rfl rfl 3 (.int .i64 0) 1 8 underlying29 Tryz.zK rfl (by decide) rfl (Co bi (AD _ _)) rfl (Rd.zE _ #[_] _ 1 1 _ (by simp) rfl (by simp[maxLen])) (by simp[Value.oneCell']) (by unfold maxLen;omega) (by omega) (by simp;omega) ?_;intro o' w4 g1 g2 g3 g4));go_roundw
    case rel=>exact⟨k+1,ys++[(k:Int)],by omega,by simp;omega,fun y hy=>by
     rcases List.mem_append.1 hy with h'|h'
     .exact db.out y h'
     .simp at h';subst h';omega,by go_num,by simpa[AG] using g1,(az.alloc az.size _).trans g4⟩
    case measure=>simp[intOf];omega
   .have t0:(x.k==kind)=false:=by simp[bf]
    clear bf;go_wp2_with fail;go_roundw
    case rel=>exact⟨k+1,ys,by omega,by omega,db.out,by go_num,bi,az⟩
    case measure=>simp[intOf];omega
  .have hD:Dr w0 g N wr:=(h.below cf).below az
   have dl:w.grownBy wr (some g):=AW (cf.trans (az.mono cf.size)) _;have eE:g<W.heap.size:=xZ h.lt cf.size
   by_cases hz:ys.length=0
   .obtain⟨_,_,rfl,_,_⟩:=(AG.rd bi).open
    have t0:((ys.length:Int)==0)=true:=by simp[hz]
    clear hz;go_wp2_with fail;refine(hD.pick _).mono ?_;rintro e w2 ⟨y,rfl,bZ,av,h2,g2⟩;have av:=av (by decide);go_wp2_with fail;go_ret;exact⟨_,rfl,⟨_,rfl,bZ,av⟩,h2,AO dl g2⟩
   .obtain⟨q,cq,rfl,hq,eC⟩:=JE bi (by omega)
    have t0:((ys.length:Int)==0)=false:=by simp[hz]
    have d8:0<ys.length:=by omega
    have eh:ys.length<=cq/\cq<=maxLen:=by obtain⟨_,_,he,h1,h2,_⟩:=(AG.rd bi).open;simp at he;obtain⟨_,rfl⟩:=he;exact⟨h1,h2⟩
    obtain⟨eD,d7⟩:=eh;unfold maxLen at d7;clear hz;go_wp2_with fail;refine(hD.pick _ (by omega) (by omega)).mono ?_;rintro e w2 ⟨y,rfl,bZ,av,h2,g2⟩;have av:=av (by omega);obtain⟨y,rfl⟩:=yd bZ;have cA:=Au bi g2 (.inr (by simp[Value.ownBlock];omega));have C:=(cA.cellAt y (by omega)).trans (FQ (xs:=ys) (by omega));have hx:=db.out (nth ys y) (by rw[MG (by omega)];exact List.getElem_mem _);go_wp2_with fail;go_ret;exact⟨_,rfl,⟨_,rfl,hx.1,hx.2⟩,h2,AO dl g2⟩
def MN (x:Ab):Prop:=x.nm.size<=8/\0<=x.e/\x.e<3/\x.c<=1000000
def BD (w0:World) (g N:Nat) (w:World) (m i e c:Value) (b:Nat) (wr:World):Prop:=
 ∃x:Ab,MN x/\Dr w0 g N wr/\w.grownBy wr (some g)/\w.heap.size+1<b/\g<w.heap.size/\w0.heap.size<=w.heap.size/\wr.heap[b]? =some (.cells x.cs 79 (0,0))/\
  wr.heap[w.heap.size]? =some (.cells #[m,i,e,c] 28 (0,0))/\(∃y:Ab,wr.heap[w.heap.size+1]? =some (.cells y.cs 79 (0,0)))
theorem GW {w:World} {b:Nat} {x:Ab} (h:w.heap[b]? =some (.cells x.cs 79 (0,0))):w.cell? ⟨b,0,none⟩=some (.int .i64 x.k)/\w.cell? ⟨b,1,none⟩=some (.int .i64 x.e)/\w.cell? ⟨b,2,none⟩=some (.int .i64 x.a)/\w.cell? ⟨b,3,none⟩=some (.int .i64 x.b)/\w.cell? ⟨b,4,none⟩=some (.int .i64 x.c)/\w.cell? ⟨b,5,none⟩=some (.string x.nm):=
 ⟨yi w b 0 _ _ _ h,yi w b 1 _ _ _ h,yi w b 2 _ _ _ h,yi w b 3 _ _ _ h,yi w b 4 _ _ _ h,yi w b 5 _ _ _ h⟩
section
variable {w0 w wr w':World} {g N M b:Nat} {m i e c:Value}
theorem BD.kc (h:BD w0 g N w m i e c b wr):wr.cell? ⟨w.heap.size,0,none⟩=some m/\wr.cell? ⟨w.heap.size,1,none⟩=some i/\wr.cell? ⟨w.heap.size,2,none⟩=some e/\wr.cell? ⟨w.heap.size,3,none⟩=some c:=by obtain⟨x,_,_,_,_,_,_,_,h1,_⟩:=h;exact AF h1
theorem BD.cc (h:BD w0 g N w m i e c b wr):∃x:Ab,wr.cell? ⟨b,0,none⟩=some (.int .i64 x.k)/\wr.cell? ⟨b,1,none⟩=some (.int .i64 x.e)/\wr.cell? ⟨b,2,none⟩=some (.int .i64 x.a)/\wr.cell? ⟨b,3,none⟩=some (.int .i64 x.b)/\wr.cell? ⟨b,4,none⟩=some (.int .i64 x.c)/\wr.cell? ⟨b,5,none⟩=some (.string x.nm)/\(∀j,wr.frozen? ⟨b,j,none⟩=false)/\Hid (wr.heap[b]? =some (.cells x.cs 79 (0,0))):=by obtain⟨x,_,_,_,_,_,_,h1,_⟩:=h;obtain⟨c0,c1,c2,c3,c4,c5⟩:=GW h1;exact⟨x,c0,c1,c2,c3,c4,c5,AK h1,AA h1⟩
theorem BD.dr (h:BD w0 g N w m i e c b wr):Dr w0 g N wr:=by obtain⟨x,_,h1,_⟩:=h;exact h1
theorem BD.draw (h:BD w0 g N w m i e c b wr) (hd:Dr w0 g M w') (hg:wr.grownBy w' (some g)):BD w0 g M w m i e c b w':=by
 obtain⟨x,h0,h1,h2,h3,h4,h5,h6,h7,⟨y,h8⟩⟩:=h;have yN:∀{q:Nat} {o:Obj},w.heap.size<=q->wr.heap[q]? =some o->w'.heap[q]? =some o:=fun {q o} hq hb=>(hg.block q (AY hb) (by simp;omega)).trans hb
 exact⟨x,h0,hd,AO h2 hg,h3,h4,h5,yN (by omega) h6,yN (yv _) h7,⟨y,yN (by omega) h8⟩⟩
theorem BD.set0 (h:BD w0 g N w m i e c b wr) (z:Int):BD w0 g N w m i e c b (wr.setCell ⟨b,0,none⟩ (.int .i64 z)):=by
 obtain⟨x,h0,h1,h2,h3,h4,h5,h6,h7,⟨y,h8⟩⟩:=h;have hb:=yu wr b 0 _ _ (.int .i64 z) h6;have yN:∀{q:Nat} {o:Obj},q≠b->wr.heap[q]? =some o->(wr.setCell ⟨b,0,none⟩ (.int .i64 z)).heap[q]? =some o:=fun {q o} hq hb=>(wT wr ⟨b,0,none⟩ q _ (fun e=>hq (by simpa using e))).trans hb
 exact⟨⟨z,x.e,x.a,x.b,x.c,x.nm⟩,h0,h1.set (by omega) (by omega),Bh h2 (by omega) _,h3,h4,h5,by simpa[Ab.cs] using hb,yN (by omega) h7,⟨y,yN (by omega) h8⟩⟩
theorem BD.set1 (h:BD w0 g N w m i e c b wr) (z:Int) (hz:0<=z) (dU:z<3):BD w0 g N w m i e c b (wr.setCell ⟨b,1,none⟩ (.int .i64 z)):=by
 obtain⟨x,h0,h1,h2,h3,h4,h5,h6,h7,⟨y,h8⟩⟩:=h;have hb:=yu wr b 1 _ _ (.int .i64 z) h6;have yN:∀{q:Nat} {o:Obj},q≠b->wr.heap[q]? =some o->(wr.setCell ⟨b,1,none⟩ (.int .i64 z)).heap[q]? =some o:=fun {q o} hq hb=>(wT wr ⟨b,1,none⟩ q _ (fun e=>hq (by simpa using e))).trans hb
 exact⟨⟨x.k,z,x.a,x.b,x.c,x.nm⟩,⟨h0.1,hz,dU,h0.2.2.2⟩,h1.set (by omega) (by omega),Bh h2 (by omega) _,h3,h4,h5,by simpa[Ab.cs] using hb,yN (by omega) h7,⟨y,yN (by omega) h8⟩⟩
theorem BD.set2 (h:BD w0 g N w m i e c b wr) (z:Int):BD w0 g N w m i e c b (wr.setCell ⟨b,2,none⟩ (.int .i64 z)):=by
 obtain⟨x,h0,h1,h2,h3,h4,h5,h6,h7,⟨y,h8⟩⟩:=h;have hb:=yu wr b 2 _ _ (.int .i64 z) h6;have yN:∀{q:Nat} {o:Obj},q≠b->wr.heap[q]? =some o->(wr.setCell ⟨b,2,none⟩ (.int .i64 z)).heap[q]? =some o:=fun {q o} hq hb=>(wT wr ⟨b,2,none⟩ q _ (fun e=>hq (by simpa using e))).trans hb
 exact⟨⟨x.k,x.e,z,x.b,x.c,x.nm⟩,h0,h1.set (by omega) (by omega),Bh h2 (by omega) _,h3,h4,h5,by simpa[Ab.cs] using hb,yN (by omega) h7,⟨y,yN (by omega) h8⟩⟩
theorem BD.set3 (h:BD w0 g N w m i e c b wr) (z:Int):BD w0 g N w m i e c b (wr.setCell ⟨b,3,none⟩ (.int .i64 z)):=by
 obtain⟨x,h0,h1,h2,h3,h4,h5,h6,h7,⟨y,h8⟩⟩:=h;have hb:=yu wr b 3 _ _ (.int .i64 z) h6;have yN:∀{q:Nat} {o:Obj},q≠b->wr.heap[q]? =some o->(wr.setCell ⟨b,3,none⟩ (.int .i64 z)).heap[q]? =some o:=fun {q o} hq hb=>(wT wr ⟨b,3,none⟩ q _ (fun e=>hq (by simpa using e))).trans hb
 exact⟨⟨x.k,x.e,x.a,z,x.c,x.nm⟩,h0,h1.set (by omega) (by omega),Bh h2 (by omega) _,h3,h4,h5,by simpa[Ab.cs] using hb,yN (by omega) h7,⟨y,yN (by omega) h8⟩⟩
theorem BD.set4 (h:BD w0 g N w m i e c b wr) (z:Int) (hz:z<=1000000):BD w0 g N w m i e c b (wr.setCell ⟨b,4,none⟩ (.int .i64 z)):=by
 obtain⟨x,h0,h1,h2,h3,h4,h5,h6,h7,⟨y,h8⟩⟩:=h;have hb:=yu wr b 4 _ _ (.int .i64 z) h6;have yN:∀{q:Nat} {o:Obj},q≠b->wr.heap[q]? =some o->(wr.setCell ⟨b,4,none⟩ (.int .i64 z)).heap[q]? =some o:=fun {q o} hq hb=>(wT wr ⟨b,4,none⟩ q _ (fun e=>hq (by simpa using e))).trans hb
 exact⟨⟨x.k,x.e,x.a,x.b,z,x.nm⟩,⟨h0.1,h0.2.1,h0.2.2.1,hz⟩,h1.set (by omega) (by omega),Bh h2 (by omega) _,h3,h4,h5,by simpa[Ab.cs] using hb,yN (by omega) h7,⟨y,yN (by omega) h8⟩⟩
theorem BD.setS (h:BD w0 g N w m i e c b wr) (s:ByteArray) (hs:s.size<=8):BD w0 g N w m i e c b (wr.setCell ⟨b,5,none⟩ (.string s)):=by
 obtain⟨x,h0,h1,h2,h3,h4,h5,h6,h7,⟨y,h8⟩⟩:=h;have hb:=yu wr b 5 _ _ (.string s) h6;have yN:∀{q:Nat} {o:Obj},q≠b->wr.heap[q]? =some o->(wr.setCell ⟨b,5,none⟩ (.string s)).heap[q]? =some o:=fun {q o} hq hb=>(wT wr ⟨b,5,none⟩ q _ (fun e=>hq (by simpa using e))).trans hb
 exact⟨⟨x.k,x.e,x.a,x.b,x.c,s⟩,⟨hs,h0.2⟩,h1.set (by omega) (by omega),Bh h2 (by omega) _,h3,h4,h5,by simpa[Ab.cs] using hb,yN (by omega) h7,⟨y,yN (by omega) h8⟩⟩
theorem BD.gr (h:BD w0 g N w m i e c b wr):w.grownBy wr (some g):=by obtain⟨x,_,_,h1,_⟩:=h;exact h1
theorem BD.ne (h:BD w0 g N w m i e c b wr):w.heap.size≠b/\b≠w.heap.size/\w.heap.size+1≠b/\b≠w.heap.size+1:=by obtain⟨x,_,_,_,h1,_⟩:=h;omega
theorem bG {w:World} {q:Nat} {x y:Ab} (h:w.heap[q]? =some (.cells y.cs 79 (0,0))):
 ((((((w.setCell ⟨q,0,none⟩ (.int .i64 x.k)).setCell ⟨q,1,none⟩ (.int .i64 x.e)).setCell ⟨q,2,none⟩ (.int .i64 x.a)).setCell ⟨q,3,none⟩ (.int .i64 x.b)).setCell ⟨q,4,none⟩ (.int .i64 x.c)).setCell ⟨q,5,none⟩ (.string x.nm)).heap[q]? =some (.cells x.cs 79 (0,0)):=by
 have h0:=yu w q 0 _ _ (.int .i64 x.k) h;have h1:=yu _ q 1 _ _ (.int .i64 x.e) h0;have h2:=yu _ q 2 _ _ (.int .i64 x.a) h1;have h3:=yu _ q 3 _ _ (.int .i64 x.b) h2;have h4:=yu _ q 4 _ _ (.int .i64 x.c) h3;have h5:=yu _ q 5 _ _ (.string x.nm) h4;simpa[Ab.cs] using h5
theorem BD.qc (h:BD w0 g N w m i e c b wr):∃y:Ab,wr.cell? ⟨w.heap.size+1,0,none⟩=some (.int .i64 y.k)/\wr.cell? ⟨w.heap.size+1,1,none⟩=some (.int .i64 y.e)/\wr.cell? ⟨w.heap.size+1,2,none⟩=some (.int .i64 y.a)/\wr.cell? ⟨w.heap.size+1,3,none⟩=some (.int .i64 y.b)/\wr.cell? ⟨w.heap.size+1,4,none⟩=some (.int .i64 y.c)/\wr.cell? ⟨w.heap.size+1,5,none⟩=some (.string y.nm)/\∀j,wr.frozen? ⟨w.heap.size+1,j,none⟩=false:=by obtain⟨x,_,_,_,_,_,_,_,_,⟨y,h1⟩⟩:=h;obtain⟨c0,c1,c2,c3,c4,c5⟩:=GW h1;exact⟨y,c0,c1,c2,c3,c4,c5,AK h1⟩
def ZK (w0:World) (g N:Nat) (w:World) (x:Ab) (W:World):Prop:=
 (W.cell? ⟨w.heap.size+1,0,none⟩=some (.int .i64 x.k)/\W.cell? ⟨w.heap.size+1,1,none⟩=some (.int .i64 x.e)/\W.cell? ⟨w.heap.size+1,2,none⟩=some (.int .i64 x.a)/\W.cell? ⟨w.heap.size+1,3,none⟩=some (.int .i64 x.b)/\W.cell? ⟨w.heap.size+1,4,none⟩=some (.int .i64 x.c)/\W.cell? ⟨w.heap.size+1,5,none⟩=some (.string x.nm))/\
 GK w0 g N w (fun v=>∃x:Ab,v= .agg x.cs/\MN x) (.returned (.agg x.cs)) W
theorem BD.fin (h:BD w0 g N w m i e c b wr) (x:Ab) (hb:wr.heap[b]? =some (.cells x.cs 79 (0,0))) (hM:N<=M):ZK w0 g M w x ((((((wr.setCell ⟨w.heap.size+1,0,none⟩ (.int .i64 x.k)).setCell ⟨w.heap.size+1,1,none⟩ (.int .i64 x.e)).setCell ⟨w.heap.size+1,2,none⟩ (.int .i64 x.a)).setCell ⟨w.heap.size+1,3,none⟩ (.int .i64 x.b)).setCell ⟨w.heap.size+1,4,none⟩ (.int .i64 x.c)).setCell ⟨w.heap.size+1,5,none⟩ (.string x.nm)):=by
 obtain⟨x',h0,h1,h2,h3,h4,h5,h6,h7,⟨y,h8⟩⟩:=h;have hx:MN x:=by rw[h6] at hb;simp[Ab.cs] at hb;obtain⟨a0,a1,a2,a3,a4,a5⟩:=hb;exact⟨a5▸h0.1,a1▸h0.2.1,a1▸h0.2.2.1,a4▸h0.2.2.2⟩
 have n1:w.heap.size+1≠g:=by omega
 have n2:w0.heap.size<=w.heap.size+1:=by omega
 have n3:w.heap.size<=w.heap.size+1:=by omega
 exact⟨GW (bG h8),_,rfl,⟨x,rfl,hx⟩,((((((h1.set n1 n2).set n1 n2).set n1 n2).set n1 n2).set n1 n2).set n1 n2).mono hM,Bh (Bh (Bh (Bh (Bh (Bh h2 n3 _) n3 _) n3 _) n3 _) n3 _) n3 _⟩
theorem BD.pk (h:BD w0 g N w m i e c b wr) (n:Int) (hN:N<=900000:=by omega) (h0:0<n:=by decide) (hn:n<=1000000:=by decide):Calls prog 20 #[.pointer (some ⟨g,0,none⟩), .int .i64 n] wr fun e' w'=>∃x:Int,e'= .returned (.int .i64 x)/\0<=x/\x<n/\BD w0 g (N+1) w m i e c b w':=
 (h.dr.pick n (by omega) hn).mono fun _ _ hp=>by obtain⟨x,rfl,h1,h2,h3,h4⟩:=hp;exact⟨x,rfl,h1,h2 h0,h.draw h3 h4⟩
theorem BD.kd {xs:List AU} (h:BD w0 g N w m i e c b wr) (kind:Int) (hN:N<=900000) (hi:∀w',w.grownBy w' (some g)->BU w' i xs) (hl:xs.length<=12):Calls prog 181 #[.pointer (some ⟨g,0,none⟩), .agg #[m,i,e,c], .int .i64 kind] wr fun e' w'=>∃x:Int,e'= .returned (.int .i64 x)/\0<=x/\x<12/\BD w0 g (N+1) w m i e c b w':=
 (OC m i e c xs kind h.dr hN (hi _ h.gr) hl).mono fun _ _ hp=>by obtain⟨_,rfl,⟨x,rfl,h1,h2⟩,h3,h4⟩:=hp;exact⟨x,rfl,h1,h2,h.draw h3 h4⟩
theorem BD.mono (h:BD w0 g N w m i e c b wr) (hm:N<=M):BD w0 g M w m i e c b wr:=by obtain⟨x,h0,h1,h2⟩:=h;exact⟨x,h0,h1.mono hm,h2⟩
end
def aT (g b:Nat) (m i e c:Value) (k:Nat) (v:Value):Prop:=match k with
 |0|2=>v= .pointer (some ⟨g,0,none⟩)
 |1=>v= .agg #[m,i,e,c]
 |3=>∃z:Int,v= .int .i64 z/\0<=z/\z<2
 |4|5=>∃z:Int,v= .int .i64 z
 |6=>v= .pointer (some ⟨b,2,none⟩)
 |_=>True
theorem Ve (f:Int) (b:Bool) (w:World) (h0:0<=f) (h1:f<=1000):
 Calls prog 99 #[.int .i64 f, .bool b] w fun e w'=>∃d:Int,e= .returned (.int .i64 d)/\d<=1000000/\w=w':=(XJ f b w h0 h1).mono fun _ _ h=>⟨_,h.1,by split<;>omega,h.2⟩
theorem OA {w0 w:World} {g N:Nat} (m i e c:Value) (xs:List AU) (h:Dr w0 g N w) (hN:N<=800000) (hi:∀w',w.grownBy w' (some g)->BU w' i xs) (hl:xs.length<=12):
 Calls prog 155 #[.pointer (some ⟨g,0,none⟩), .agg #[m,i,e,c]] w (GK w0 g (N+20) w fun v=>∃x:Ab,v= .agg x.cs/\MN x):=by
 have ae:=h.lt;have ci:w0.heap.size<=w.heap.size:=h.2.1.size;have cX:=hi;have Hi:=AA hi;clear hi cX;go_in;go_wp2_with fail;refine(((h.alloc _).alloc _).pick _).mono ?_;rintro e' w1 ⟨x,rfl,cx,bm,h1,g1⟩;have bm:=bm (by decide);go_wp2_with fail;refine(h1.pick _).mono ?_;rintro e' w2 ⟨y,rfl,bZ,av,h2,g2⟩;go_wp2_with fail;refine(Na w2.heap.size 6 [⟨#[97]⟩,⟨#[98]⟩,⟨#[99]⟩,⟨#[97,98]⟩,⟨#[98,98]⟩,⟨#[97]⟩] (h2.alloc _) (by omega) rfl (by decide) (by decide) (by have:=h2.lt;omega) (by simp) (fun k hk=>Jy w2 [⟨#[97]⟩,⟨#[98]⟩,⟨#[99]⟩,⟨#[97,98]⟩,⟨#[98,98]⟩,⟨#[97]⟩] _ hk)).mono ?_;rintro e' w3 ⟨v,rfl,⟨s,hs,rfl⟩,h3,g3⟩;have cB:s.size<=8:=by
  simp only[xm,wM,or_false] at hs
  rcases hs with rfl|rfl|rfl|rfl|rfl|rfl<;>decide
 go_upto_block 0 with fail;have St:BD w0 g (N+3) w m i e c w3.heap.size (w3.alloc (.cells #[.int .i64 (1+x), .int .i64 y, .int .i64 0, .int .i64 0, .int .i64 0, .string s] 79)):=by
  have G:=AO (AO g1 g2) (AO (AW (AD _ _) _) g3);have hz:=G.size;simp at hz;have B1:=yw (w.alloc (.cells #[m,i,e,c] 28)) (.cells #[.int .i64 0, .int .i64 0, .int .i64 0, .int .i64 0, .int .i64 0, .string ⟨#[]⟩] 79);have B0:=AC (yw w (.cells #[m,i,e,c] 28)) (AD _ (.cells #[.int .i64 0, .int .i64 0, .int .i64 0, .int .i64 0, .int .i64 0, .string ⟨#[]⟩] 79));simp only[xG] at B1;have yN:∀{q:Nat} {o:Obj},w.heap.size<=q->((w.alloc (.cells #[m,i,e,c] 28)).alloc (.cells #[.int .i64 0, .int .i64 0, .int .i64 0, .int .i64 0, .int .i64 0, .string ⟨#[]⟩] 79)).heap[q]? =some o->(w3.alloc (.cells #[.int .i64 (1+x), .int .i64 y, .int .i64 0, .int .i64 0, .int .i64 0, .string s] 79)).heap[q]? =some o:=fun {q o} hq hb=>AC ((G.block q (AY hb) (by simp;omega)).trans hb) (AD _ _)
  exact⟨⟨1+x,y,0,0,0,s⟩,⟨cB,bZ,av (by decide),by simp only;omega⟩,h3.alloc _,Gj (AO (AW (Gu _ _ _) _) G) _,by omega,ae,ci,yw _ _,yN (yv _) B0,⟨⟨0,0,0,0,0,⟨#[]⟩⟩,yN (by omega) B1⟩⟩
 clear h1 h2 h3 g1 g2 g3 h hs bZ av;generalize w3.alloc (.cells #[.int .i64 (1+x), .int .i64 y, .int .i64 0, .int .i64 0, .int .i64 0, .string s] 79)=wr at St;generalize w3.heap.size=b at St;obtain⟨cF,cE,cD,cp⟩:=St.ne;go_cut [] (fun wx=>BD w0 g (N+12) w m i e c b wx)
 case first=>
  rcases(show x=0∨x=1∨x=2∨x=3∨x=4∨x=5∨x=6∨x=7∨x=8∨x=9∨x=10 by omega) with rfl|rfl|rfl|rfl|rfl|rfl|rfl|rfl|rfl|rfl|rfl
  .go_wp2_with fail
   go_meet;exact St.mono (by omega)
  .obtain⟨k0,k1,k2,k3⟩:=St.kc
   go_wp2_with fail;refine(St.kd _ (by omega) Hi.out hl).mono ?_;rintro e' w4 ⟨z,rfl,z0,z1,S4⟩;replace St:=S4;clear S4 k0 k1 k2 k3;obtain⟨x1,c0,c1,c2,c3,c4,c5,hf,ab⟩:=St.cc;go_wp2_with fail;go_meet;exact(St.set2 _).mono (by omega)
  .obtain⟨k0,k1,k2,k3⟩:=St.kc
   go_wp2_with fail;refine(St.kd _ (by omega) Hi.out hl).mono ?_;rintro e' w4 ⟨z,rfl,z0,z1,S4⟩;replace St:=S4;clear S4 k0 k1 k2 k3;obtain⟨x1,c0,c1,c2,c3,c4,c5,hf,ab⟩:=St.cc;go_wp2_with fail;refine((St.set2 _).pk _).mono ?_;rintro e' w4 ⟨z,rfl,z0,z1,S4⟩;replace St:=S4;clear S4 c0 c1 c2 c3 c4 c5 hf ab;obtain⟨x1,c0,c1,c2,c3,c4,c5,hf,ab⟩:=St.cc;go_wp2_with fail;refine((St.set3 _).pk _).mono ?_;rintro e' w4 ⟨p,rfl,p0,p1,S4⟩;replace St:=S4;clear S4 c0 c1 c2 c3 c4 c5 hf ab;go_wp2_with fail;refine(St.pk _).mono ?_;rintro e' w4 ⟨q,rfl,q0,q1,S4⟩;replace St:=S4;clear S4
   rcases(show p=0∨p=1 by omega) with rfl|rfl
   rotate_left
   rotate_left
   all_goals
    obtain⟨x1,c0,c1,c2,c3,c4,c5,hf,ab⟩:=St.cc
    go_wp2_with fail;go_meet;exact(St.set4 _ (by omega)).mono (by omega)
  .obtain⟨k0,k1,k2,k3⟩:=St.kc
   go_wp2_with fail;refine(St.kd _ (by omega) Hi.out hl).mono ?_;rintro e' w4 ⟨z,rfl,z0,z1,S4⟩;replace St:=S4;clear S4 k0 k1 k2 k3;obtain⟨x1,c0,c1,c2,c3,c4,c5,hf,ab⟩:=St.cc;go_wp2_with fail;refine((St.set2 _).pk _).mono ?_;rintro e' w4 ⟨z,rfl,z0,z1,S4⟩;replace St:=S4;clear S4 c0 c1 c2 c3 c4 c5 hf ab;obtain⟨x1,c0,c1,c2,c3,c4,c5,hf,ab⟩:=St.cc;go_wp2_with fail;go_meet;exact(St.set3 _).mono (by omega)
  .go_wp2_with fail
   refine Fj 7 mixed (by kernel_rfl) 152 rfl (by kernel_rfl) (fun k v _=>aT g b m i e c k v) (fun L wr=>(L 3=false->BD w0 g (N+3) w m i e c b wr)/\(L 5=false->BD w0 g (N+4) w m i e c b wr)/\BD w0 g (N+5) w m i e c b wr) ?_ ?_ ?_
   .have Sd:=St.draw (St.dr.below (A9 (yF _ _) 1)) (AW (A9 (yF _ _) 1) _)
    exact⟨fun _=>Sd,fun _=>Sd.mono (by omega),Sd.mono (by omega)⟩
   .intro k hk o ho a w5 Hb Hd L HL hG K HK
    match k,hk with
    |0,_=>
     obtain rfl:=yH ho;have e0:a.tmps[0]?.getD undef= .pointer (some ⟨g,0,none⟩):=by rw[OV Hb 0];rfl
     clear Hd Hb;refine yG ?_;go_simp;exact HK.out _ _ rfl ⟨fun h=>hG.1 (DQ h),fun h=>hG.2.1 (DQ h),hG.2.2⟩ (fun j u _ _ _ h=>h)
    |1,_=>
     obtain rfl:=yH ho;have e3:a.tmps[3]?.getD undef= .pointer (some ⟨w.heap.size,0,none⟩):=by rw[OV Hb 3];rfl
     clear Hd Hb;refine yG ?_;obtain⟨k0,k1,k2,k3⟩:=hG.2.2.kc;go_simp;exact HK.out _ _ rfl ⟨fun h=>hG.1 (DQ h),fun h=>hG.2.1 (DQ h),hG.2.2⟩ (fun j u _ _ _ h=>h)
    |2,_=>
     obtain rfl:=yH ho;have e0:a.tmps[0]?.getD undef= .pointer (some ⟨g,0,none⟩):=by rw[OV Hb 0];rfl
     clear Hd Hb;refine yG ?_;go_simp;exact HK.out _ _ rfl ⟨fun h=>hG.1 (DQ h),fun h=>hG.2.1 (DQ h),hG.2.2⟩ (fun j u _ _ _ h=>h)
    |3,_=>
     obtain rfl:=yH ho;have d2:=BT Hd 2
     change a.tmps[53]?.getD undef= .pointer (some ⟨g,0,none⟩) at d2
     clear Hd Hb;refine yG ?_;have S3:=hG.1 HL.out.1;go_simp;refine(S3.dr.pick _).mono ?_;rintro e' w6 ⟨z,rfl,z0,z1,h6,g6⟩;have S4:=S3.draw h6 g6;exact HK.out _ _ ⟨z,rfl,z0,z1 (by decide)⟩ ⟨fun h=>by simp[F8] at h,fun _=>S4,S4.mono (by omega)⟩ (fun j u _ _ _ h=>h)
    |4,_=>
     obtain rfl:=yH ho;have d3:=BT Hd 3
     change ∃z:Int,a.tmps[54]?.getD undef= .int .i64 z/\0<=z/\z<2 at d3
     clear Hd Hb;refine yG ?_;obtain⟨z,d3,z0,z1⟩:=d3;go_simp;exact HK.out _ _ ⟨_,rfl⟩ ⟨fun h=>hG.1 (DQ h),fun h=>hG.2.1 (DQ h),hG.2.2⟩ (fun j u _ _ _ h=>h)
    |5,_=>
     obtain rfl:=yH ho;have d0:=BT Hd 0
     change a.tmps[51]?.getD undef= .pointer (some ⟨g,0,none⟩) at d0
     have d1:=BT Hd 1
     change a.tmps[52]?.getD undef= .agg #[m,i,e,c] at d1
     have d4:=BT Hd 4
     change ∃z:Int,a.tmps[55]?.getD undef= .int .i64 z at d4
     clear Hd Hb;refine yG ?_;obtain⟨z,d4⟩:=d4;have S4:=hG.2.1 HL.out.1;go_simp;refine(OC m i e c xs _ S4.dr (by omega) (Hi.out _ S4.gr) hl).mono ?_;rintro e' w6 ⟨v,rfl,⟨z',rfl,_,_⟩,h6,g6⟩;have S5:=S4.draw h6 g6;have l3:L 3=true:=HL.out.2.2 4 3 (HL.out.2.1 4 (by kernel_rfl)) (by kernel_rfl);exact HK.out _ _ ⟨_,rfl⟩ ⟨(fun h=>by rw[DQ h] at l3;cases l3),fun h=>by simp[F8] at h,S5.mono (by omega)⟩ (fun j u _ _ _ h=>h)
    |6,_=>
     obtain rfl:=yH ho;have e5:a.tmps[5]?.getD undef= .pointer (some ⟨b,0,none⟩):=by rw[OV Hb 5];rfl
     clear Hd Hb;refine yG ?_;go_simp;exact HK.out _ _ rfl ⟨fun h=>hG.1 (DQ h),fun h=>hG.2.1 (DQ h),hG.2.2⟩ (fun j u _ _ _ h=>h)
   .intro ys w5 hR L hL hG
    obtain⟨z,hz⟩:=BZ hR 5;have h6:ys 6= .pointer (some ⟨b,2,none⟩):=BZ hR 6;replace St:=hG.2.2;clear hR hL hG;simp only[Al,AV,yE,List.range.loop,List.foldl_cons,List.foldl_nil,hz,h6];simp;generalize ys 0=z0;generalize ys 1=z1;generalize ys 2=z2;generalize ys 3=z3;generalize ys 4=z4;clear hz h6;obtain⟨x1,c0,c1,c2,c3,c4,c5,hf,ab⟩:=St.cc;go_wp2_with fail;go_meet;exact(St.set2 _).mono (by omega)
  .go_wp2_with fail
   refine(St.pk _).mono ?_;rintro e' w4 ⟨p,rfl,p0,p1,S4⟩;replace St:=S4;clear S4;obtain⟨k0,k1,k2,k3⟩:=St.kc;go_wp2_with fail;refine(St.kd _ (by omega) Hi.out hl).mono ?_;rintro e' w4 ⟨z,rfl,z0,z1,S4⟩;replace St:=S4;clear S4 k0 k1 k2 k3;obtain⟨x1,c0,c1,c2,c3,c4,c5,hf,ab⟩:=St.cc;go_wp2_with fail;refine((St.set2 _).pk _).mono ?_;rintro e' w4 ⟨z,rfl,z0,z1,S4⟩;replace St:=S4;clear S4 c0 c1 c2 c3 c4 c5 hf ab;obtain⟨k0,k1,k2,k3⟩:=St.kc;obtain⟨x1,c0,c1,c2,c3,c4,c5,hf,ab⟩:=St.cc;go_wp2_with fail;refine((St.set3 _).kd _ (by omega) Hi.out hl).mono ?_;rintro e' w4 ⟨f,rfl,f0,f1,S4⟩;replace St:=S4;clear S4 k0 k1 k2 k3 c0 c1 c2 c3 c4 c5 hf ab;go_wp2_with fail;refine(St.pk _).mono ?_;rintro e' w4 ⟨t,rfl,t0,t1,S4⟩;replace St:=S4;clear S4;go_wp2_with fail;refine(Ve f _ _ (by omega) (by omega)).mono ?_;rintro e' w4 ⟨d,rfl,hd,rfl⟩;obtain⟨x1,c0,c1,c2,c3,c4,c5,hf,ab⟩:=St.cc;go_wp2_with fail;refine((St.set4 _ hd).pk _).mono ?_;rintro e' w4 ⟨u,rfl,u0,u1,S4⟩;replace St:=S4;clear S4 c0 c1 c2 c3 c4 c5 hf ab
   by_cases hu:u=0
   .subst hu
    go_wp2_with fail;refine(Me St.dr (by omega)).mono ?_;rintro e' w4 ⟨v,rfl,⟨z',rfl,_,ex⟩,h4,g4⟩;replace St:=St.draw h4 g4;clear h4 g4;obtain⟨x1,c0,c1,c2,c3,c4,c5,hf,ab⟩:=St.cc;go_wp2_with fail;go_meet;exact(St.set4 _ (by omega)).mono (by omega)
   .have t0:(u==0)=false:=by simp[hu]
    clear hu;go_wp2_with fail;go_meet;exact St.mono (by omega)
  .obtain⟨k0,k1,k2,k3⟩:=St.kc
   go_wp2_with fail;refine(St.kd _ (by omega) Hi.out hl).mono ?_;rintro e' w4 ⟨z,rfl,z0,z1,S4⟩;replace St:=S4;clear S4 k0 k1 k2 k3;obtain⟨x1,c0,c1,c2,c3,c4,c5,hf,ab⟩:=St.cc;go_wp2_with fail;refine((St.set2 _).pk _).mono ?_;rintro e' w4 ⟨u,rfl,u0,u1,S4⟩;replace St:=S4;clear S4 c0 c1 c2 c3 c4 c5 hf ab
   by_cases hu:u=0
   .subst hu
    obtain⟨x1,c0,c1,c2,c3,c4,c5,hf,ab⟩:=St.cc;go_wp2_with fail;go_meet;exact(St.set2 _).mono (by omega)
   .have t0:(u==0)=false:=by simp[hu]
    clear hu;go_wp2_with fail;go_meet;exact St.mono (by omega)
  rotate_left
  rotate_left
  .go_wp2_with fail
   refine(St.pk _).mono ?_;rintro e' w4 ⟨p,rfl,p0,p1,S4⟩;replace St:=S4;clear S4;go_wp2_with fail;refine(St.pk _).mono ?_;rintro e' w4 ⟨q,rfl,q0,q1,S4⟩;replace St:=S4;clear S4;go_wp2_with fail;refine(St.pk _).mono ?_;rintro e' w4 ⟨r,rfl,r0,r1,S4⟩;replace St:=S4;clear S4
   rcases(show p=0∨p=1 by omega) with rfl|rfl
   .obtain⟨x1,c0,c1,c2,c3,c4,c5,hf,ab⟩:=St.cc
    go_wp2_with fail;refine((St.set2 _).pk _).mono ?_;rintro e' w4 ⟨z,rfl,z0,z1,S4⟩;replace St:=S4;clear S4 c0 c1 c2 c3 c4 c5 hf ab;obtain⟨x1,c0,c1,c2,c3,c4,c5,hf,ab⟩:=St.cc;go_wp2_with fail;go_meet;exact(St.set3 _).mono (by omega)
   .obtain⟨x1,c0,c1,c2,c3,c4,c5,hf,ab⟩:=St.cc
    go_wp2_with fail;refine((St.set2 _).pk _).mono ?_;rintro e' w4 ⟨z,rfl,z0,z1,S4⟩;replace St:=S4;clear S4 c0 c1 c2 c3 c4 c5 hf ab;obtain⟨x1,c0,c1,c2,c3,c4,c5,hf,ab⟩:=St.cc;go_wp2_with fail;go_meet;exact(St.set3 _).mono (by omega)
  .go_wp2_with fail
   refine(St.pk _).mono ?_;rintro e' w4 ⟨p,rfl,p0,p1,S4⟩;replace St:=S4;clear S4;go_wp2_with fail;refine(St.pk _).mono ?_;rintro e' w4 ⟨q,rfl,q0,q1,S4⟩;replace St:=S4;clear S4;go_wp2_with fail;refine(St.pk _).mono ?_;rintro e' w4 ⟨r,rfl,r0,r1,S4⟩;replace St:=S4;clear S4
   rcases(show p=0∨p=1 by omega) with rfl|rfl
   rotate_left
   rotate_left
   all_goals
    obtain⟨x1,c0,c1,c2,c3,c4,c5,hf,ab⟩:=St.cc
    go_wp2_with fail;refine((St.set2 _).pk _).mono ?_;rintro e' w4 ⟨z,rfl,z0,z1,S4⟩;replace St:=S4;clear S4 c0 c1 c2 c3 c4 c5 hf ab;obtain⟨x1,c0,c1,c2,c3,c4,c5,hf,ab⟩:=St.cc;go_wp2_with fail;go_meet;exact(St.set3 _).mono (by omega)
  all_goals
   go_wp2_with fail
   refine(St.pk _).mono ?_;rintro e' w4 ⟨z,rfl,z0,z1,S4⟩;replace St:=S4;clear S4;obtain⟨x1,c0,c1,c2,c3,c4,c5,hf,ab⟩:=St.cc;go_wp2_with fail;go_meet;exact(St.set2 _).mono (by omega)
 case rest=>
  clear St;have St:=hcut;go_wp2_with fail;refine(St.pk _).mono ?_;rintro e' w4 ⟨q,rfl,q0,q1,S4⟩;replace St:=S4;clear S4
  by_cases cR:q=0
  .subst cR
   go_wp2_with fail;refine(St.pk _).mono ?_;rintro e' w4 ⟨z,rfl,z0,z1,S4⟩;replace St:=S4;clear S4;obtain⟨x1,c0,c1,c2,c3,c4,c5,hf,ab⟩:=St.cc;obtain⟨y1,d0,d1,d2,d3,d4,d5,bn⟩:=St.qc;go_wp2_with fail;obtain⟨⟨E0,E1,E2,E3,E4,E5⟩,Fin⟩:=BD.fin (M:=N+20) (St.set0 (z - 1)) ⟨z - 1,x1.e,x1.a,x1.b,x1.c,x1.nm⟩ (by have:=yu w4 b 0 _ _ (.int .i64 (z - 1)) ab.out;simpa[Ab.cs] using this) (by omega);exact yp (v:= .agg #[_,_,_,_,_,_]) (by simp[results,we,go_sem,E0,E1,E2,E3,E4,E5]) rfl Fin
  by_cases cQ:q=1
  .subst cQ
   go_wp2_with fail;refine(St.pk _).mono ?_;rintro e' w4 ⟨z,rfl,z0,z1,S4⟩;replace St:=S4;clear S4;obtain⟨x1,c0,c1,c2,c3,c4,c5,hf,ab⟩:=St.cc;obtain⟨y1,d0,d1,d2,d3,d4,d5,bn⟩:=St.qc;go_wp2_with fail;obtain⟨⟨E0,E1,E2,E3,E4,E5⟩,Fin⟩:=BD.fin (M:=N+20) (St.set2 (z - 2)) ⟨x1.k,x1.e,z - 2,x1.b,x1.c,x1.nm⟩ (by have:=yu w4 b 2 _ _ (.int .i64 (z - 2)) ab.out;simpa[Ab.cs] using this) (by omega);exact yp (v:= .agg #[_,_,_,_,_,_]) (by simp[results,we,go_sem,E0,E1,E2,E3,E4,E5]) rfl Fin
  by_cases cP:q=2
  .subst cP
   go_wp2_with fail;refine(St.pk _).mono ?_;rintro e' w4 ⟨z,rfl,z0,z1,S4⟩;replace St:=S4;clear S4;obtain⟨x1,c0,c1,c2,c3,c4,c5,hf,ab⟩:=St.cc;obtain⟨y1,d0,d1,d2,d3,d4,d5,bn⟩:=St.qc;go_wp2_with fail;obtain⟨⟨E0,E1,E2,E3,E4,E5⟩,Fin⟩:=BD.fin (M:=N+20) (St.set3 (z - 1)) ⟨x1.k,x1.e,x1.a,z - 1,x1.c,x1.nm⟩ (by have:=yu w4 b 3 _ _ (.int .i64 (z - 1)) ab.out;simpa[Ab.cs] using this) (by omega);exact yp (v:= .agg #[_,_,_,_,_,_]) (by simp[results,we,go_sem,E0,E1,E2,E3,E4,E5]) rfl Fin
  by_cases cO:q=3
  .subst cO
   go_wp2_with fail;refine(Iu St.dr (by omega)).mono ?_;rintro e' w4 ⟨v,rfl,⟨s',hs,rfl⟩,h4,g4⟩;replace St:=St.draw h4 g4;clear h4 g4;obtain⟨x1,c0,c1,c2,c3,c4,c5,hf,ab⟩:=St.cc;obtain⟨y1,d0,d1,d2,d3,d4,d5,bn⟩:=St.qc;go_wp2_with fail;obtain⟨⟨E0,E1,E2,E3,E4,E5⟩,Fin⟩:=BD.fin (M:=N+20) (St.setS s' hs) ⟨x1.k,x1.e,x1.a,x1.b,x1.c,s'⟩ (by have:=yu w4 b 5 _ _ (.string s') ab.out;simpa[Ab.cs] using this) (by omega);exact yp (v:= .agg #[_,_,_,_,_,_]) (by simp[results,we,go_sem,E0,E1,E2,E3,E4,E5]) rfl Fin
  by_cases cN:q=4
  .subst cN
   go_wp2_with fail;have cr:=St.draw (St.dr.alloc (.cells #[.int .i64 (-1), .int .i64 10000, .int .i64 2, .int .i64 49] 3)) (AW (AD _ _) _);have ay:=St.dr.lt;refine(cr.dr.pick _).mono ?_;rintro e' w5 ⟨z,rfl,z0,z1,h5,g5⟩;replace z1:=z1 (by decide);replace St:=cr.draw h5 g5;have l0:=Dn (j:=0) g5 ay rfl;have l1:=Dn (j:=1) g5 ay rfl;have l2:=Dn (j:=2) g5 ay rfl;have l3:=Dn (j:=3) g5 ay rfl;clear h5 g5 cr ay;obtain⟨x1,c0,c1,c2,c3,c4,c5,hf,ab⟩:=St.cc
   rcases(show z=0∨z=1∨z=2∨z=3 by omega) with rfl|rfl|rfl|rfl
   focus
    obtain⟨y1,d0,d1,d2,d3,d4,d5,bn⟩:=St.qc
    go_wp2_with fail;obtain⟨⟨E0,E1,E2,E3,E4,E5⟩,Fin⟩:=BD.fin (M:=N+20) (St.set4 (-1) (by decide)) ⟨x1.k,x1.e,x1.a,x1.b,-1,x1.nm⟩ (by have:=yu w5 b 4 _ _ (.int .i64 (-1)) ab.out;simpa[Ab.cs] using this) (by omega)
   rotate_left
   focus
    obtain⟨y1,d0,d1,d2,d3,d4,d5,bn⟩:=St.qc
    go_wp2_with fail;obtain⟨⟨E0,E1,E2,E3,E4,E5⟩,Fin⟩:=BD.fin (M:=N+20) (St.set4 (10000) (by decide)) ⟨x1.k,x1.e,x1.a,x1.b,10000,x1.nm⟩ (by have:=yu w5 b 4 _ _ (.int .i64 (10000)) ab.out;simpa[Ab.cs] using this) (by omega)
   rotate_left
   focus
    obtain⟨y1,d0,d1,d2,d3,d4,d5,bn⟩:=St.qc
    go_wp2_with fail;obtain⟨⟨E0,E1,E2,E3,E4,E5⟩,Fin⟩:=BD.fin (M:=N+20) (St.set4 (2) (by decide)) ⟨x1.k,x1.e,x1.a,x1.b,2,x1.nm⟩ (by have:=yu w5 b 4 _ _ (.int .i64 (2)) ab.out;simpa[Ab.cs] using this) (by omega)
   rotate_left
   focus
    obtain⟨y1,d0,d1,d2,d3,d4,d5,bn⟩:=St.qc
    go_wp2_with fail;obtain⟨⟨E0,E1,E2,E3,E4,E5⟩,Fin⟩:=BD.fin (M:=N+20) (St.set4 (49) (by decide)) ⟨x1.k,x1.e,x1.a,x1.b,49,x1.nm⟩ (by have:=yu w5 b 4 _ _ (.int .i64 (49)) ab.out;simpa[Ab.cs] using this) (by omega)
   rotate_left
   all_goals
    exact yp (v:= .agg #[_,_,_,_,_,_]) (by simp[results,we,go_sem,E0,E1,E2,E3,E4,E5]) rfl Fin
  have t0:(q==0)=false:=by simp[cR]
  have t1:(q==1)=false:=by simp[cQ]
  have t2:(q==2)=false:=by simp[cP]
  have t3:(q==3)=false:=by simp[cO]
  have t4:(q==4)=false:=by simp[cN]
  clear cR cQ cP cO cN;obtain⟨x1,c0,c1,c2,c3,c4,c5,hf,ab⟩:=St.cc;obtain⟨y1,d0,d1,d2,d3,d4,d5,bn⟩:=St.qc;go_wp2_with fail;obtain⟨⟨E0,E1,E2,E3,E4,E5⟩,Fin⟩:=BD.fin (M:=N+20) St x1 ab.out (by omega);exact yp (v:= .agg #[_,_,_,_,_,_]) (by simp[results,we,go_sem,E0,E1,E2,E3,E4,E5]) rfl Fin
def U1 (x:Ab):Prop:=MN x/\(x.e=1∨x.e=2)
theorem GK.e12 {w0 w W:World} {g N:Nat} {x:Ab} (h:GK w0 g N w (fun v=>∃x:Ab,v= .agg x.cs/\MN x) (.returned (.agg x.cs)) W) (he:x.e=1∨x.e=2):GK w0 g N w (fun v=>∃x:Ab,v= .agg x.cs/\U1 x) (.returned (.agg x.cs)) W:=by obtain⟨v,e,⟨x',e2,hx⟩,h1⟩:=h;cases e;refine⟨_,rfl,⟨x',e2,hx,?_⟩,h1⟩;simp[Ab.cs] at e2;rw[<-e2.2.1];exact he
theorem Sx {w0 w:World} {g N:Nat} (m i e c:Value) (xs:List AU) (h:Dr w0 g N w) (hN:N<=700000) (hi:∀w',w.grownBy w' (some g)->BU w' i xs) (hl:xs.length<=12):
 Calls prog 104 #[.pointer (some ⟨g,0,none⟩), .agg #[m,i,e,c]] w (GK w0 g (N+30) w fun v=>∃x:Ab,v= .agg x.cs/\U1 x):=by
 have ae:=h.lt;have ci:w0.heap.size<=w.heap.size:=h.2.1.size;have Hi:=AA hi;clear hi;go_in;go_wp2_with fail;have gA:=AW (Gu w (.cells #[m,i,e,c] 28) (.cells #[.int .i64 0, .int .i64 0, .int .i64 0, .int .i64 0, .int .i64 0, .string ⟨#[]⟩] 79)) (some g);refine(OA m i e c xs ((h.alloc _).alloc _) (by omega) (fun w' hg=>Hi.out w' (AO gA hg)) hl).mono ?_;rintro e' w1 ⟨v,rfl,⟨x,rfl,hx⟩,h1,g1⟩;have St:BD w0 g (N+20) w m i e c w1.heap.size (w1.alloc (.cells x.cs 79)):=by
  have hz:=g1.size;simp at hz;have B1:=yw (w.alloc (.cells #[m,i,e,c] 28)) (.cells #[.int .i64 0, .int .i64 0, .int .i64 0, .int .i64 0, .int .i64 0, .string ⟨#[]⟩] 79);have B0:=AC (yw w (.cells #[m,i,e,c] 28)) (AD _ (.cells #[.int .i64 0, .int .i64 0, .int .i64 0, .int .i64 0, .int .i64 0, .string ⟨#[]⟩] 79));simp only[xG] at B1;have yN:∀{q:Nat} {o:Obj},w.heap.size<=q->((w.alloc (.cells #[m,i,e,c] 28)).alloc (.cells #[.int .i64 0, .int .i64 0, .int .i64 0, .int .i64 0, .int .i64 0, .string ⟨#[]⟩] 79)).heap[q]? =some o->(w1.alloc (.cells x.cs 79)).heap[q]? =some o:=fun {q o} hq hb=>AC ((g1.block q (AY hb) (by simp;omega)).trans hb) (AD _ _)
  exact⟨x,hx,h1.alloc _,Gj (AO gA g1) _,by omega,ae,ci,yw _ _,yN (yv _) B0,⟨⟨0,0,0,0,0,⟨#[]⟩⟩,yN (by omega) B1⟩⟩
 clear h1 g1 h gA;simp only[Ab.cs] at St ⊢;go_wp2_with fail;generalize w1.alloc (.cells #[.int .i64 x.k, .int .i64 x.e, .int .i64 x.a, .int .i64 x.b, .int .i64 x.c, .string x.nm] 79)=wr at St ⊢;generalize w1.heap.size=b at St ⊢;obtain⟨cF,cE,cD,cp⟩:=St.ne;refine(St.pk _).mono ?_;rintro e' w4 ⟨z,rfl,z0,z1,S4⟩;replace St:=S4;clear S4;obtain⟨x1,c0,c1,c2,c3,c4,c5,hf,ab⟩:=St.cc
 by_cases hk:x1.k=1
 .have t0:(x1.k==1)=true:=by simp[hk]
  clear hk;go_wp2_with fail;refine((St.set1 _ (by omega) (by omega)).dr.pick _).mono ?_;rintro e' w5 ⟨u,rfl,u0,u1,h5,g5⟩;replace u1:=u1 (by decide);have dm:w5.heap[b]? =some (.cells (Ab.cs ⟨x1.k,1+z,x1.a,x1.b,x1.c,x1.nm⟩) 79 (0,0)):=(g5.block b (by have:=AY ab.out;simpa using this) (by have:=St.gr.size;have:=cF;simp;obtain⟨_,_,_,_,h9,_⟩:=St;omega)).trans (by have:=yu w4 b 1 _ _ (.int .i64 (1+z)) ab.out;simpa[Ab.cs] using this);have bY:=AA dm;clear dm;replace St:=(St.set1 _ (by omega) (by omega)).draw h5 g5;clear h5 g5 c0 c1 c2 c3 c4 c5 hf ab t0
  by_cases hu:0<u
  .go_wp2_with fail
   have cr:=St.draw (St.dr.alloc (.cells #[.string ⟨#[98]⟩, .string ⟨#[99]⟩] 9)) (AW (AD _ _) _);refine(Na w5.heap.size 2 [⟨#[98]⟩,⟨#[99]⟩] cr.dr (by omega) rfl (by decide) (by decide) (by have:=St.dr.lt;omega) (by simp) (fun k hk=>Jy w5 [⟨#[98]⟩,⟨#[99]⟩] _ hk)).mono ?_;rintro e' w6 ⟨v,rfl,⟨s,hs,rfl⟩,h6,g6⟩;replace St:=cr.draw h6 g6;clear h6 g6 cr;simp only[xm,wM,or_false] at hs;obtain⟨x1,c0,c1,c2,c3,c4,c5,hf,ab⟩:=St.cc
   rcases hs with rfl|rfl
   .obtain⟨y1,d0,d1,d2,d3,d4,d5,bn⟩:=St.qc
    go_wp2_with fail;obtain⟨⟨E0,E1,E2,E3,E4,E5⟩,Fin⟩:=BD.fin (M:=N+30) ((St.setS ⟨#[98]⟩ (by decide)).set1 1 (by decide) (by decide)) ⟨x1.k,1,x1.a,x1.b,x1.c,⟨#[98]⟩⟩ (by have h0:=yu w6 b 5 _ _ (.string ⟨#[98]⟩) ab.out;have h1:=yu _ b 1 _ _ (.int .i64 1) h0;simpa[Ab.cs] using h1) (by omega);exact yp (v:= .agg #[_,_,_,_,_,_]) (by simp[results,vg,go_sem,E0,E1,E2,E3,E4,E5]) rfl (Fin.e12 (.inl rfl))
   .obtain⟨y1,d0,d1,d2,d3,d4,d5,bn⟩:=St.qc
    have c9:(((w6.setCell ⟨b,5,none⟩ (.string ⟨#[99]⟩)).setCell ⟨b,1,none⟩ (.int .i64 1)).setCell ⟨b,1,none⟩ (.int .i64 2)).heap[b]? =some (.cells (Ab.cs ⟨x1.k,2,x1.a,x1.b,x1.c,⟨#[99]⟩⟩) 79 (0,0)):=by have h0:=yu w6 b 5 _ _ (.string ⟨#[99]⟩) ab.out;have h1:=yu _ b 1 _ _ (.int .i64 1) h0;have h2:=yu _ b 1 _ _ (.int .i64 2) h1;simpa[Ab.cs] using h2
    have cd:=(GW c9).2.1;have eu:=AA c9;clear c9;go_wp2_with fail;obtain⟨⟨E0,E1,E2,E3,E4,E5⟩,Fin⟩:=BD.fin (M:=N+30) (((St.setS ⟨#[99]⟩ (by decide)).set1 1 (by decide) (by decide)).set1 2 (by decide) (by decide)) ⟨x1.k,2,x1.a,x1.b,x1.c,⟨#[99]⟩⟩ eu.out (by omega);exact yp (v:= .agg #[_,_,_,_,_,_]) (by simp[results,vg,go_sem,E0,E1,E2,E3,E4,E5]) rfl (Fin.e12 (.inr rfl))
  .have u2:u<=0:=by omega
   obtain⟨c0,c1,c2,c3,c4,c5⟩:=GW bY.out;obtain⟨y1,d0,d1,d2,d3,d4,d5,bn⟩:=St.qc;go_wp2_with fail;obtain⟨⟨E0,E1,E2,E3,E4,E5⟩,Fin⟩:=BD.fin (M:=N+30) St _ bY.out (by omega);exact yp (v:= .agg #[_,_,_,_,_,_]) (by simp[results,vg,go_sem,E0,E1,E2,E3,E4,E5]) rfl (Fin.e12 (by simp only;omega))
 .have t0:(x1.k==1)=false:=by simp[hk]
  clear hk;obtain⟨y1,d0,d1,d2,d3,d4,d5,bn⟩:=St.qc;go_wp2_with fail;obtain⟨⟨E0,E1,E2,E3,E4,E5⟩,Fin⟩:=BD.fin (M:=N+30) (St.set1 (1+z) (by omega) (by omega)) ⟨x1.k,1+z,x1.a,x1.b,x1.c,x1.nm⟩ (by have:=yu w4 b 1 _ _ (.int .i64 (1+z)) ab.out;simpa[Ab.cs] using this) (by omega);exact yp (v:= .agg #[_,_,_,_,_,_]) (by simp[results,vg,go_sem,E0,E1,E2,E3,E4,E5]) rfl (Fin.e12 (by simp only;omega))
def JY (w0:World) (g N:Nat) (w:World) (P:Value->World->Prop) (e:Ending) (w':World):Prop:=∃v,e= .returned v/\P v w'/\Dr w0 g N w'/\w.grownBy w' (some g)
def Pk (m:Int) (v:Value):Prop:=∃x:Int,v= .int .i64 x/\0<=x/\x<m
theorem yQ (cs:List Nat) (L:Nat->Bool) (i:Nat):(cs.filter fun j=>!F8 L i j).length<=(cs.filter fun j=>!L j).length:=by
 induction cs with
 |nil=>exact yv _
 |cons c cs ih=>
  simp only[uW]
  by_cases h:c=i
  .subst h
   rw[show F8 L c c=true by simp[F8]];cases L c<;>simp<;>omega
  .rw[show F8 L i c=L c by simp[F8,h]]
   cases L c<;>simp<;>omega
theorem YI (cs:List Nat) (L:Nat->Bool) (i:Nat) (hi:cs.contains i=true) (hL:L i=false):(cs.filter fun j=>!F8 L i j).length+1<=(cs.filter fun j=>!L j).length:=by
 induction cs with
 |nil=>cases hi
 |cons c cs ih=>
  simp only[uW]
  by_cases h:c=i
  .subst h
   rw[show F8 L c c=true by simp[F8],hL];have:=yQ cs L c;simp;omega
  .rw[show F8 L i c=L c by simp[F8,h]]
   have cX:cs.contains i=true:=by simpa[Ne.symm h] using hi
   have:=ih cX;cases L c<;>simp<;>omega
def Wf (w0:World) (g:Nat) (W0:World) (N0 kk c:Nat) (cs:List Nat) (L:Nat->Bool) (w:World):Prop:=∃M,M+kk*(cs.filter fun j=>!L j).length<=N0+kk*c/\Dr w0 g M w/\W0.grownBy w (some g)
section
variable {P:Program} {l:List Oper} {n i:Nat} {o o':Oper} {a a0:Act} {w w0 W0:World} {K:Act->World->Prop} {Q:Exit->Act->World->Prop} {V:List Vx} {R:Nat->Value->World->Prop} {v:Value} {g N0 kk c:Nat} {cs:List Nat} {L:Nat->Bool}
abbrev bH (l:List Oper) (n:Nat) (a0 a:Act):Prop:=a.defers=a0.defers/\a.tmps.size=a0.tmps.size/\∀t,(∀i,i<n->AV l i≠t)->a.tmps[t]? =a0.tmps[t]?
abbrev bI (l:List Oper) (i:Nat) (V:List Vx) (R:Nat->Value->World->Prop) (a:Act) (w:World):Prop:=∀j,ym .any l.toArray i j=true->RV V R j (a.tmps[AV l j]?.getD undef) w
abbrev aa (V:List Vx) (R:Nat->Value->World->Prop) (w0:World) (g:Nat) (W0:World) (N0 kk c:Nat) (cs:List Nat) (L:Nat->Bool) (i:Nat) (o:Oper) (a:Act) (w:World) (K:Act->World->Prop):Prop:=∀v w',RV V R i v w'->Wf w0 g W0 N0 kk c cs (F8 L i) w'->w.grownBy w' (some g)->K (a.put o.dst v) w'
theorem gc {b bl:Nat} (hW:W0.grownBy w (some g)) (ae:b<W0.heap.size) (bC:b≠g) (h:W0.cell? ⟨b,bl,none⟩=some v):w.cell? ⟨b,bl,none⟩=some v:=(wt (hW.block b ae (by simpa using bC))).trans h
theorem dR {F:FuncId} {vs:Array Value} {Pv:Value->World->Prop} {k:Nat} (ho:l[i]? =some o) (HQ:Hid (aa V R w0 g W0 N0 kk c cs L i o a w K)) (Hb:Hid (bH l n a0 a)) (Hd:Hid (bI l i V R a w)) (HL:Hid (L i=false)) (hG:Wf w0 g W0 N0 kk c cs L w)
 (hc:∀M,M<=N0+kk*c->Dr w0 g M w->W0.grownBy w (some g)->Calls P F vs w (JY w0 g (M+k) w Pv)) (hk:k<=kk:=by decide) (hR:∀v w',Pv v w'->RV V R i v w':=by exact fun _ _ h=>h) (hi:cs.contains i=true:=by rfl)
 (e:l[i]? =some o':=by rfl) (hw:Kd l i V o'=some true:=by kernel_rfl) (hr:(execOp (Y1 l n i V a0 a) o').run P w= .ok (.enter F vs) w:=by kernel_rfl):AX P l o a w K Q:=by
 obtain rfl:=yH (ho.symm.trans e);refine⟨fun _=>?_,fun h=>absurd ((J6 Hd hw).symm.trans h) (by decide)⟩;unfold Oper.wp;rw[<-Ps Hb Hd,hr,ur];obtain⟨M,hM,hD,hW⟩:=hG;refine(hc M (by omega) hD hW).mono ?_;intro x w' h;obtain⟨v,rfl,h1,h2,h3⟩:=h;have hl:=YI cs L i hi HL.out;refine HQ.out v w' (hR v w' h1) ⟨M+kk,?_,h2.mono (by omega),AO hW h3⟩ h3;have:=wG kk hl;rw[Nat.mul_add,Nat.mul_one] at this;omega
theorem bQ {F:FuncId} {vs:Array Value} {Pv:Value->Prop} {k:Nat} (ho:l[i]? =some o) (HQ:Hid (aa V R w0 g W0 N0 kk c cs L i o a w K)) (Hb:Hid (bH l n a0 a)) (Hd:Hid (bI l i V R a w)) (HL:Hid (L i=false)) (hG:Wf w0 g W0 N0 kk c cs L w)
 (hc:∀M,M<=N0+kk*c->Dr w0 g M w->W0.grownBy w (some g)->Calls P F vs w (GK w0 g (M+k) w Pv)) (hk:k<=kk:=by decide) (hR:∀v w',Pv v->RV V R i v w':=by exact fun _ _ h=>h) (hi:cs.contains i=true:=by rfl)
 (e:l[i]? =some o':=by rfl) (hw:Kd l i V o'=some true:=by kernel_rfl) (hr:(execOp (Y1 l n i V a0 a) o').run P w= .ok (.enter F vs) w:=by kernel_rfl):AX P l o a w K Q:=
 dR (Pv:=fun v _=>Pv v) ho HQ Hb Hd HL hG hc hk hR hi e hw hr
theorem Et {id:Nat} (n N kk c:Nat) (cs:List Nat) (V:List Vx) (R:Nat->Value->World->Prop) (cZ:Dr w0 g N0 W0)
 (cy:∀i,i<n->∀o,l[i]? =some o->∀a w,Hid (bH l n a0 a)->Hid (bI l i V R a w)->∀L:Nat->Bool,Hid (L i=false)->Wf w0 g W0 N0 kk c cs L w->W0.grownBy w (some g)->
  ∀K:Act->World->Prop,Hid (aa V R w0 g W0 N0 kk c cs L i o a w K)->Hid (∀v w',RV V R i v w'->Below w.heap.size w w'->K (a.put o.dst v) w')->AX P l o a w K Q)
 (bB:∀(vs:Nat->Value) w,(∀i,i<n->RV V R i (vs i) w)->Dr w0 g (N0+kk*c) w->W0.grownBy w (some g)->wpList P l.toArray Q (l.drop n) {a0 with tmps:=Al l (yE n) vs a0.tmps} w)
 (hst:∀i,i<n->∀v w w',w.grownBy w' (some g)->R i v w->R i v w':=by exact fun _ _ _ _ _ _ h=>h) (cY:cs.length=c:=by rfl)
 (hm:P.follows .mixedOrders=true:=by kernel_rfl) (hB:IA l n=true:=by kernel_rfl) (hN:a0.tmps.size=N:=by rfl) (hD:VL l n N=true:=by kernel_rfl):(Code.region id l.toArray true).wp P Q a0 W0:=by
 subst cY;refine Fj n hm hB N hN hD (RV V R) (fun L w=>Wf w0 g W0 N0 kk cs.length cs L w) ?_ ?_ ?_
 .refine⟨N0,?_,cZ.below (A9 (yF _ _) 1),AW (A9 (yF _ _) 1) _⟩
  have:=wV (fun j=>!(fun _:Nat=>false) j) cs;exact tx (wG kk this) _
 .intro i hi o ho a w Hb Hd L HL hG K HK
  have hq:aa V R w0 g W0 N0 kk cs.length cs L i o a w K:=fun v w' h1 h2 h3=>HK.out v w' h1 h2 fun j u _ hj _ h=>RV.mono (hst j hj u w w' h3) h
  have hW:W0.grownBy w (some g):=by obtain⟨_,_,_,h⟩:=hG;exact h
  refine cy i hi o ho a w Hb Hd L (AA HL.out.1) hG hW K (AA hq) (AA fun v w' h1 hb=>hq v w' h1 ?_ (AW hb _));obtain⟨M,h2,h3,h4⟩:=hG;have:=wG kk (yQ cs L i);exact⟨M,by omega,h3.below hb,AO h4 (AW hb _)⟩
 .intro vs w hR L hL hG
  obtain⟨M,h2,h3,h4⟩:=hG;exact bB vs w hR (h3.mono (by omega)) h4
def Po (l:List Oper):Nat->Nat->Nat->Bool
 |0,_,_=>false
 |f+1,k,i=>ym .any l.toArray k i||(yE l.length).any fun j=>ym .any l.toArray k j&&Po l f j i
theorem Ui {f k:Nat} (hc:∀j j',L j=true->ym .any l.toArray j j'=true->L j'=true) (hk:L k=true) (h:Po l f k i=true):L i=true:=by
 induction f generalizing k with
 |zero=>cases h
 |succ f ih=>
  unfold Po at h
  rcases Bool.or_eq_true_iff.1 h with h|h
  .exact hc k i hk h
  .obtain⟨j,_,hj⟩:=List.any_eq_true.1 h
   obtain⟨h1,h2⟩:=vT.1 hj;exact ih (hc k j hk h1) h2
def Zx (s:Nat) (U:Nat->Value->Prop) (R:Nat->Value->World->Prop) (L:Nat->Bool) (i:Nat) (v:Value) (w:World):Prop:=U i v/\(L s=false->R i v w)
def bU (w0:World) (g:Nat) (W0:World) (N0 kk c:Nat) (cs:List Nat) (s:Nat) (Af:World->Prop) (L:Nat->Bool) (w:World):Prop:=(L s=true->Af w)/\(L s=false->Wf w0 g W0 N0 kk c cs L w)
theorem Iy {id s:Nat} {U:Nat->Value->Prop} (n N kk c:Nat) (cs:List Nat) (V:List Vx) (R:Nat->Value->World->Prop) (Af:World->Prop) (cZ:Dr w0 g N0 W0)
 (co:∀i,i<n->(i==s||cs.contains i)=false->∀o,l[i]? =some o->∀a w,Hid (Xz l n a0 a)->∀L:Nat->Bool,Hid (Xx l n V (Zx s U R) L a w)->Hid (Wh l i L)->(Po l n s i=true->W0.grownBy w (some g))->
  ∀K:Act->World->Prop,Hid (aW V (Zx s U R) L i o a w K)->AX P l o a w K Q)
 (cC:∀i,i<n->cs.contains i=true->∀o,l[i]? =some o->∀a w,Hid (Xz l n a0 a)->∀L:Nat->Bool,Hid (Xx l n V (Zx s U R) L a w)->Hid (Wh l i L)->Wf w0 g W0 N0 kk c cs L w->
  ∀K:Act->World->Prop,Hid (∀v w',U i v->R i v w'->EG V i=none->Wf w0 g W0 N0 kk c cs (F8 L i) w'->w.grownBy w' (some g)->K (a.put o.dst v) w')->AX P l o a w K Q)
 (cn:∀o,l[s]? =some o->∀a w,Hid (Xz l n a0 a)->∀L:Nat->Bool,Hid (Xx l n V (Zx s U R) L a w)->Hid (Wh l s L)->Dr w0 g (N0+kk*c) w->W0.grownBy w (some g)->
  ∀K:Act->World->Prop,Hid (∀v w',Af w'->K (a.put o.dst v) w')->AX P l o a w K Q)
 (el:∀w w',Below w.heap.size w w'->Af w->Af w')
 (bB:∀(vs:Nat->Value) w,∀L:Nat->Bool,(∀i,i<n->RF V (Zx s U R) L i (vs i) w)->Af w->wpList P l.toArray Q [] {a0 with tmps:=Dc l (yE n) vs a0.tmps} w)
 (hst:∀i,i<n->∀v w w',w.grownBy w' (some g)->R i v w->R i v w':=by exact fun _ _ _ _ _ _ h=>h) (cY:cs.length=c:=by rfl) (dX:s<n:=by decide) (dY:EG V s=some undef:=by rfl) (df:(l[s]?).bind (·.dst)=none:=by rfl)
 (eB:cs.contains s=false:=by rfl) (dZ:cs.all (fun i=>decide (i<n)&&Po l n s i&&((l[i]?).bind (·.dst)).isSome)=true:=by kernel_rfl)
 (hm:P.follows .mixedOrders=true:=by kernel_rfl) (hN:a0.tmps.size=N:=by rfl) (hB:UD l N=true:=by kernel_rfl) (hn:l.length=n:=by rfl):(Code.region id l.toArray true).wp P Q a0 W0:=by
 subst cY;refine Dz n N (fun i=>i==s||cs.contains i) V (Zx s U R) (bU w0 g W0 N0 kk cs.length cs s Af) ?_ ?_ ?_ ?_ ?_ ?_ hm hN hB hn
 .refine⟨fun h=>(by cases h),fun _=>⟨N0,?_,cZ.below (A9 (yF _ _) 1),AW (A9 (yF _ _) 1) _⟩⟩
  have:=wV (fun j=>!(fun _:Nat=>false) j) cs;exact tx (wG kk this) _
 .intro j hj L i v w w' _ _ _ _ hb h
  exact⟨h.1,fun hs=>hst j hj v w w' (AW hb _) (h.2 (DQ hs))⟩
 .intro L i w w' _ hS _ hb h
  have bC:s≠i:=by rintro rfl;simp at hS
  have e:F8 L i s=L s:=by simp[F8,bC]
  refine⟨fun hs=>el w w' hb (h.1 (e▸hs)),fun hs=>?_⟩;obtain⟨M,h2,h3,h4⟩:=h.2 (e▸hs);have:=wG kk (yQ cs L i);exact⟨M,by omega,h3.below hb,AO h4 (AW hb _)⟩
 .intro i hi hS o ho a w Hb L Hd HL hG K HK
  refine co i hi hS o ho a w Hb L Hd HL (fun hr=>?_) K HK;have hs:L s=false:=by
   cases hx:L s with
   |false=>rfl
   |true=>exact absurd (Ui HL.out.2.2 hx hr) (by rw[HL.out.1];decide)
  obtain⟨_,_,_,h⟩:=hG.2 hs;exact h
 .intro i hi hS o ho a w Hb L Hd HL hG K HK
  by_cases cW:i=s
  .subst cW
   obtain⟨M,h2,h3,h4⟩:=hG.2 HL.out.1;refine cn o ho a w Hb L Hd HL (h3.mono (by omega)) h4 K (AA fun v w' hA=>HK.out v w' ?_ ⟨fun _=>hA,fun h=>by simp[F8] at h⟩ fun j ed hj _ h=>?_)
   .have e:o.dst=none:=by rw[ho] at df;exact df
    rw[e];exact RF.of dY
   .exact RF.mono (fun h=>⟨h.1,fun h2=>by simp[F8] at h2⟩) h
  .have hc:cs.contains i=true:=by simpa[cW] using hS
   have h3:=List.all_eq_true.1 dZ i (by simpa using hc);simp only[Bool.and_eq_true,decide_eq_true_eq] at h3;obtain⟨⟨_,hr⟩,hd⟩:=h3;have hs:L s=false:=by
    cases hx:L s with
    |false=>rfl
    |true=>exact absurd (Ui HL.out.2.2 hx hr) (by rw[HL.out.1];decide)
   have e:F8 L i s=L s:=by simp[F8,Ne.symm cW]
   refine cC i hi hc o ho a w Hb L Hd HL (hG.2 hs) K (AA fun v w' h1 h2 hv hD hW=>HK.out v w' ?_ ⟨fun h=>(by rw[e,hs] at h;cases h),fun _=>hD⟩ fun j ed hj _ h=>?_)
   .obtain⟨d,hd⟩:=Option.isSome_iff_exists.1 hd
    have e2:o.dst=some d:=by rw[ho] at hd;exact hd
    rw[e2];unfold RF;rw[hv];exact⟨h1,fun _=>h2⟩
   .exact RF.mono (fun h=>⟨h.1,fun h2=>hst j hj _ _ _ hW (h.2 (DQ h2))⟩) h
 .intro vs w L hL hR hG
  exact bB vs w L hR (hG.1 (hL s dX))
theorem fR {s:Nat} {U:Nat->Value->Prop} {F:FuncId} {vs:Array Value} {Pv:Value->World->Prop} {k:Nat} (ho:l[i]? =some o) (HQ:Hid (∀v w',U i v->R i v w'->EG V i=none->Wf w0 g W0 N0 kk c cs (F8 L i) w'->w.grownBy w' (some g)->K (a.put o.dst v) w')) (Hb:Hid (Xz l n a0 a)) (Hd:Hid (Xx l n V (Zx s U R) L a w)) (HL:Hid (Wh l i L)) (hG:Wf w0 g W0 N0 kk c cs L w)
 (hc:∀M,M<=N0+kk*c->Dr w0 g M w->W0.grownBy w (some g)->Calls P F vs w (JY w0 g (M+k) w Pv)) (hk:k<=kk:=by decide) (hR:∀v w',Pv v w'->U i v/\R i v w') (hv:EG V i=none:=by rfl) (hi:cs.contains i=true:=by rfl)
 (e:l[i]? =some o':=by rfl) (hw:QM l n i V o'=some true:=by kernel_rfl) (hr:(execOp (Xf l n i V a0 a) o').run P w= .ok (.enter F vs) w:=by kernel_rfl):AX P l o a w K Q:=by
 obtain rfl:=yH (ho.symm.trans e);refine⟨fun _=>?_,fun h=>absurd ((My Hd HL hw).symm.trans h) (by decide)⟩;unfold Oper.wp;rw[<-Oe Hb Hd HL,hr,ur];obtain⟨M,hM,hD,hW⟩:=hG;refine(hc M (by omega) hD hW).mono ?_;intro x w' h;obtain⟨v,rfl,h1,h2,h3⟩:=h;have hl:=YI cs L i hi HL.out.1;obtain⟨r1,r2⟩:=hR v w' h1;refine HQ.out v w' r1 r2 hv ⟨M+kk,?_,h2.mono (by omega),AO hW h3⟩ h3;have:=wG kk hl;rw[Nat.mul_add,Nat.mul_one] at this;omega
theorem dK {m:Int} (ho:l[i]? =some o) (HQ:Hid (aa V R w0 g W0 N0 kk c cs L i o a w K)) (Hb:Hid (bH l n a0 a)) (Hd:Hid (bI l i V R a w)) (HL:Hid (L i=false)) (hG:Wf w0 g W0 N0 kk c cs L w) (hN:N0+kk*c<=1000000) (hm:0<m/\m<=1000000:=by decide)
 (e:l[i]? =some o':=by rfl) (hr:(execOp (Y1 l n i V a0 a) o').run prog w= .ok (.enter 20 #[.pointer (some ⟨g,0,none⟩), .int .i64 m]) w:=by kernel_rfl)
 (hw:Kd l i V o'=some true:=by kernel_rfl) (hk:1<=kk:=by decide) (hR:∀v w',Pk m v->RV V R i v w':=by exact fun _ _ h=>h) (hi:cs.contains i=true:=by rfl):AX prog l o a w K Q:=
 bQ (Pv:=Pk m) (k:=1) ho HQ Hb Hd HL hG (fun M hM hD hW=>(hD.pick m (by omega) hm.2).mono fun _ _ h=>by obtain⟨x,rfl,h0,h1,h2,h3⟩:=h;exact⟨_,rfl,⟨x,rfl,h0,h1 hm.1⟩,h2,h3⟩) hk hR hi e hw hr
theorem fK {s:Nat} {U:Nat->Value->Prop} {m:Int} (ho:l[i]? =some o) (HQ:Hid (∀v w',U i v->R i v w'->EG V i=none->Wf w0 g W0 N0 kk c cs (F8 L i) w'->w.grownBy w' (some g)->K (a.put o.dst v) w')) (Hb:Hid (Xz l n a0 a)) (Hd:Hid (Xx l n V (Zx s U R) L a w)) (HL:Hid (Wh l i L)) (hG:Wf w0 g W0 N0 kk c cs L w) (hN:N0+kk*c<=1000000) (hm:0<m/\m<=1000000:=by decide)
 (e:l[i]? =some o':=by rfl) (hr:(execOp (Xf l n i V a0 a) o').run prog w= .ok (.enter 20 #[.pointer (some ⟨g,0,none⟩), .int .i64 m]) w:=by kernel_rfl)
 (hw:QM l n i V o'=some true:=by kernel_rfl) (hk:1<=kk:=by decide) (hR:∀v w',Pk m v->U i v/\R i v w':=by exact fun _ _ h=>⟨h,trivial⟩) (hv:EG V i=none:=by rfl) (hi:cs.contains i=true:=by rfl):AX prog l o a w K Q:=
 fR (Pv:=fun v _=>Pk m v) (k:=1) ho HQ Hb Hd HL hG (fun M hM hD hW=>(hD.pick m (by omega) hm.2).mono fun _ _ h=>by obtain⟨x,rfl,h0,h1,h2,h3⟩:=h;exact⟨_,rfl,⟨x,rfl,h0,h1 hm.1⟩,h2,h3⟩) hk hR hv hi e hw hr
end
structure Tg (w0:World) (g N:Nat) (w:World) (T n b:Nat) (cs:Array Value) (wr:World):Prop where
 dr:Dr w0 g N wr
 gr:w.grownBy wr (some g)
 lt:w.heap.size<b
 glt:g<w.heap.size
 lo:w0.heap.size<=w.heap.size
 yM:wr.heap[b]? =some (.cells cs T (0,0))
 res:∃rs:Array Value,rs.size=n/\wr.heap[w.heap.size]? =some (.cells rs T (0,0))
section
variable {w0 w wr w':World} {g N M T n b:Nat} {cs:Array Value}
theorem Tg.draw (h:Tg w0 g N w T n b cs wr) (hd:Dr w0 g M w') (hg:wr.grownBy w' (some g)):Tg w0 g M w T n b cs w':=by
 have yN:∀{q:Nat} {o:Obj},w.heap.size<=q->wr.heap[q]? =some o->w'.heap[q]? =some o:=fun {q o} hq hb=>(hg.block q (AY hb) (by have:=h.glt;simp;omega)).trans hb
 obtain⟨rs,h1,h2⟩:=h.res;exact⟨hd,AO h.gr hg,h.lt,h.glt,h.lo,yN (Nat.le_of_lt h.lt) h.yM,rs,h1,yN (yv _) h2⟩
theorem Tg.pk (h:Tg w0 g N w T n b cs wr) (m:Int) (hN:N<=900000:=by omega) (h0:0<m:=by decide) (hm:m<=1000000:=by decide):Calls prog 20 #[.pointer (some ⟨g,0,none⟩), .int .i64 m] wr fun e' w'=>∃x:Int,e'= .returned (.int .i64 x)/\0<=x/\x<m/\Tg w0 g (N+1) w T n b cs w':=
 (h.dr.pick m (by omega) hm).mono fun _ _ hp=>by obtain⟨x,rfl,h1,h2,h3,h4⟩:=hp;exact⟨x,rfl,h1,h2 h0,h.draw h3 h4⟩
theorem Tg.set (h:Tg w0 g N w T n b cs wr) (j:Nat) (u:Value) {cs':Array Value} (e:cs.setIfInBounds j u=cs'):Tg w0 g N w T n b cs' (wr.setCell ⟨b,j,none⟩ u):=by
 have hb:=yu wr b j _ _ u h.yM;obtain⟨rs,h1,h2⟩:=h.res;have:=h.lt;have:=h.lo;have:=h.glt;exact⟨h.dr.set (by omega) (by omega),Bh h.gr (by omega) _,h.lt,h.glt,h.lo,by rw[hb,e],rs,h1,(wT wr ⟨b,j,none⟩ _ _ (fun e=>by simp at e;omega)).trans h2⟩
theorem Tg.start {T n:Nat} {cs z:Array Value} (h1:Dr w0 g N w1) (g1:(w.alloc (.cells z T)).grownBy w1 (some g)) (hz:z.size=n) (ai:g<w.heap.size) (an:w0.heap.size<=w.heap.size):Tg w0 g N w T n w1.heap.size cs (w1.alloc (.cells cs T)):=by have hs:=g1.size;simp at hs;have B0:=yw w (.cells z T);have B1:=(g1.block w.heap.size (by simp) (by simp;omega)).trans B0;exact⟨h1.alloc _,Gj (AO (AW (AD _ _) _) g1) _,by omega,ai,an,yw _ _,z,hz,AC B1 (AD _ _)⟩
end
theorem Tg.mono {w0 w wr:World} {g N M T n b:Nat} {cs:Array Value} (h:Tg w0 g N w T n b cs wr) (hm:N<=M):Tg w0 g M w T n b cs wr:=⟨h.dr.mono hm,h.gr,h.lt,h.glt,h.lo,h.yM,h.res⟩
theorem Kt {w:World} {g T:Nat} {a b c:Value} (h:w.heap[g]? =some (.cells #[a,b,c] T (0,0))):w.cell? ⟨g,0,none⟩=some a/\w.cell? ⟨g,1,none⟩=some b/\w.cell? ⟨g,2,none⟩=some c:=⟨yi w g 0 _ _ _ h,yi w g 1 _ _ _ h,yi w g 2 _ _ _ h⟩
theorem Mf {w:World} {g:Nat} (xs:List Int) (t:Nat) (ad:(w.alloc (.cells (xs.map (Value.int .i64)).toArray t)).grownBy w1 (some g)) (ae:g<w.heap.size) {y:Nat} (hy:y<xs.length):∃q:Int,w1.cell? ⟨w.heap.size,y,none⟩=some (.int .i64 q):=
 ⟨xs[y],Dn ad ae (by simp[hy])⟩
theorem ak {w0 w wr:World} {g N M T:Nat} {rs:Array Value} {v0 v1 v2 v3:Value} (hd:Dr w0 g N wr) (hg:w.grownBy wr (some g)) (ai:g<w.heap.size) (an:w0.heap.size<=w.heap.size) (hs:rs.size=4) (hB:wr.heap[w.heap.size]? =some (.cells rs T (0,0))) (hM:N<=M) {P:Value->Prop} (hP:P (.agg #[v0,v1,v2,v3])):
 ((((wr.setCell ⟨w.heap.size,0,none⟩ v0).setCell ⟨w.heap.size,1,none⟩ v1).setCell ⟨w.heap.size,2,none⟩ v2).setCell ⟨w.heap.size,3,none⟩ v3).heap[w.heap.size]? =some (.cells #[v0,v1,v2,v3] T (0,0))/\
 GK w0 g M w P (.returned (.agg #[v0,v1,v2,v3])) ((((wr.setCell ⟨w.heap.size,0,none⟩ v0).setCell ⟨w.heap.size,1,none⟩ v1).setCell ⟨w.heap.size,2,none⟩ v2).setCell ⟨w.heap.size,3,none⟩ v3):=by
 obtain⟨a0,a1,a2,a3,rfl⟩:∃a0 a1 a2 a3,rs= #[a0,a1,a2,a3]:=by
  match rs,hs with
  |⟨[a0,a1,a2,a3]⟩,_=>exact⟨a0,a1,a2,a3,rfl⟩
 have n1:w.heap.size≠g:=by omega
 have n3:w.heap.size<=w.heap.size:=yv _;exact⟨Cs hB,_,rfl,hP,((((hd.set n1 an).set n1 an).set n1 an).set n1 an).mono hM,Bh (Bh (Bh (Bh hg n3 _) n3 _) n3 _) n3 _⟩
theorem Zz {w0 w wr:World} {g N M T:Nat} {rs:Array Value} {v0 v1 v2:Value} (hd:Dr w0 g N wr) (hg:w.grownBy wr (some g)) (ai:g<w.heap.size) (an:w0.heap.size<=w.heap.size) (hs:rs.size=3) (hB:wr.heap[w.heap.size]? =some (.cells rs T (0,0))) (hM:N<=M) {P:Value->Prop} (hP:P (.agg #[v0,v1,v2])):
 (((wr.setCell ⟨w.heap.size,0,none⟩ v0).setCell ⟨w.heap.size,1,none⟩ v1).setCell ⟨w.heap.size,2,none⟩ v2).heap[w.heap.size]? =some (.cells #[v0,v1,v2] T (0,0))/\
 GK w0 g M w P (.returned (.agg #[v0,v1,v2])) (((wr.setCell ⟨w.heap.size,0,none⟩ v0).setCell ⟨w.heap.size,1,none⟩ v1).setCell ⟨w.heap.size,2,none⟩ v2):=by
 obtain⟨a0,a1,a2,rfl⟩:∃a0 a1 a2,rs= #[a0,a1,a2]:=by
  match rs,hs with
  |⟨[a0,a1,a2]⟩,_=>exact⟨a0,a1,a2,rfl⟩
 have n1:w.heap.size≠g:=by omega
 have n3:w.heap.size<=w.heap.size:=yv _;have h0:=yu wr w.heap.size 0 _ _ v0 hB;have h1:=yu _ w.heap.size 1 _ _ v1 h0;have h2:=yu _ w.heap.size 2 _ _ v2 h1;exact⟨by simpa using h2,_,rfl,hP,(((hd.set n1 an).set n1 an).set n1 an).mono hM,Bh (Bh (Bh hg n3 _) n3 _) n3 _⟩
theorem Sw {w0 w:World} {g N:Nat} (h:Dr w0 g N w) (hN:N<=900000):
 Calls prog 184 #[.pointer (some ⟨g,0,none⟩)] w (GK w0 g (N+2) w fun v=>∃x:Int,v= .int .i64 x):=by
 go_in;go_wp2_with fail;refine(h.pick _).mono ?_;rintro e w1 ⟨x,rfl,cx,bm,h1,g1⟩
 by_cases hx:x=0
 .subst hx
  go_wp2_with fail;refine((h1.alloc _).pick _).mono ?_;rintro e w2 ⟨y,rfl,bZ,av,h2,g2⟩;have av:=av (by decide);have c0:=Dn (j:=0) g2 h1.lt rfl;have c1:=Dn (j:=1) g2 h1.lt rfl;have c2:=Dn (j:=2) g2 h1.lt rfl;have G:=AA (AO g1 (AO (AW (AD _ _) _) g2));clear g1 g2
  rcases(show y=0∨y=1∨y=2 by omega) with rfl|rfl|rfl
  all_goals
   go_wp2_with fail;go_ret;exact⟨_,rfl,⟨_,rfl⟩,h2,G.out⟩
 .have t0:(x==0)=false:=by simp[hx]
  clear hx;go_wp2_with fail;refine(h1.pick _).mono ?_;rintro e w2 ⟨y,rfl,bZ,av,h2,g2⟩;have G:=AA (AO g1 g2);clear g1 g2;go_wp2_with fail;go_ret;exact⟨_,rfl,⟨_,rfl⟩,h2,G.out⟩
theorem Lx {w0 w:World} {g N:Nat} (h:Dr w0 g N w) (hN:N<=800000):
 Calls prog 161 #[.pointer (some ⟨g,0,none⟩)] w (GK w0 g (N+8) w fun v=>∃x:Ak,v= .agg #[.int .i64 x.e, .int .i64 x.p, .int .i64 x.f, .bool x.w]):=by
 have ae:=h.lt;have ci:w0.heap.size<=w.heap.size:=h.2.1.size;go_in;go_wp2_with fail;refine((h.alloc _).pick _).mono ?_;rintro e w1 ⟨x,rfl,_,_,h1,g1⟩;go_wp2_with fail;refine(h1.pick _).mono ?_;rintro e w2 ⟨y,rfl,_,_,h2,g2⟩;go_wp2_with fail;refine(h2.pick _).mono ?_;rintro e w3 ⟨f,rfl,_,_,h3,g3⟩;have St:=Tg.start (T:=98) (n:=4) (cs:= #[.int .i64 x, .int .i64 y, .int .i64 f, .bool false]) h3 (AO (AO g1 g2) g3) rfl ae ci;clear h h1 h2 h3 g1 g2 g3;go_wp2_with fail;generalize w3.alloc _=w4 at St ⊢;generalize w3.heap.size=b at St ⊢;refine(St.pk _).mono ?_;rintro e w5 ⟨z,rfl,_,_,S5⟩;clear St;obtain⟨c0,c1,c2,c3⟩:=AF S5.yM;have fz:=AK S5.yM;go_wp2_with fail;have S6:=S5.set (cs':= #[.int .i64 x, .int .i64 y, .int .i64 f, .bool (z==0)]) 3 (.bool (z==0)) (by simp);refine(S6.pk _).mono ?_;rintro e w7 ⟨u,rfl,_,_,St⟩;clear S5 S6 c0 c1 c2 c3 fz;have ek:=St.lt;go_upto_block 0 with fail;go_cut [] (fun wx=>∃x:Ak,Tg w0 g (N+8) w 98 4 b #[.int .i64 x.e, .int .i64 x.p, .int .i64 x.f, .bool x.w] wx)
 case first=>
  by_cases u0:u=0
  .subst u0
   go_wp2_with fail;have ay:=St.dr.lt;have SA:=St.draw (St.dr.alloc (.cells #[.int .i64 (-1), .int .i64 3] 3)) (AW (AD _ _) _);refine(SA.dr.pick _).mono ?_;rintro e w6 ⟨k9,rfl,k0,k1,h6,g6⟩;replace k1:=k1 (by decide);obtain⟨k9,rfl⟩:=yd k0;obtain⟨q,hq⟩:=Mf [-1,3] 3 g6 ay (y:=k9) (by simp;omega);have S6:=SA.draw h6 g6;clear St SA g6 h6 ay;obtain⟨c0,c1,c2,c3⟩:=AF S6.yM;have fz:=AK S6.yM;go_wp2_with fail;go_meet;exact⟨⟨q,y,f,z==0⟩,(S6.set 0 _ (by simp)).mono (by omega)⟩
  have t0:(u==0)=false:=by simp[u0]
  by_cases u1:u=1
  .subst u1
   clear u0;go_wp2_with fail;have ay:=St.dr.lt;have SA:=St.draw (St.dr.alloc (.cells #[.int .i64 (-1), .int .i64 15, .int .i64 16] 3)) (AW (AD _ _) _);refine(SA.dr.pick _).mono ?_;rintro e w6 ⟨k9,rfl,k0,k1,h6,g6⟩;replace k1:=k1 (by decide);obtain⟨k9,rfl⟩:=yd k0;obtain⟨q,hq⟩:=Mf [-1,15,16] 3 g6 ay (y:=k9) (by simp;omega);have S6:=SA.draw h6 g6;clear St SA g6 h6 ay;obtain⟨c0,c1,c2,c3⟩:=AF S6.yM;have fz:=AK S6.yM;go_wp2_with fail;go_meet;exact⟨⟨x,q,f,z==0⟩,(S6.set 1 _ (by simp)).mono (by omega)⟩
  have t1:(u==1)=false:=by simp[u1]
  by_cases u2:u=2
  .subst u2
   clear u0 u1;go_wp2_with fail;refine(Sw St.dr (by omega)).mono ?_;rintro e w8 ⟨_,rfl,⟨q,rfl⟩,h8,g8⟩;have S6:=St.draw h8 g8;clear St h8 g8;obtain⟨c0,c1,c2,c3⟩:=AF S6.yM;have fz:=AK S6.yM;go_wp2_with fail;go_meet;exact⟨⟨x,y,q,z==0⟩,(S6.set 2 _ (by simp)).mono (by omega)⟩
  have t2:(u==2)=false:=by simp[u2]
  clear u0 u1 u2;go_wp2_with fail;go_meet;exact⟨⟨x,y,f,z==0⟩,St.mono (by omega)⟩
 case rest=>
  clear St;obtain⟨x1,S6⟩:=hcut;obtain⟨c0,c1,c2,c3⟩:=AF S6.yM;have fz:=AK S6.yM;obtain⟨rs,cz,ch⟩:=S6.res;have dp:=AK ch;obtain⟨BX,FX⟩:=ak (v0:= .int .i64 x1.e) (v1:= .int .i64 x1.p) (v2:= .int .i64 x1.f) (v3:= .bool x1.w) S6.dr S6.gr S6.glt S6.lo cz ch (yv _) (P:=fun v=>∃x:Ak,v= .agg #[.int .i64 x.e, .int .i64 x.p, .int .i64 x.f, .bool x.w]) ⟨x1,rfl⟩;obtain⟨r0,r1,r2,r3,rfl⟩:∃r0 r1 r2 r3,rs= #[r0,r1,r2,r3]:=by
   match rs,cz with
   |⟨[a0,a1,a2,a3]⟩,_=>exact⟨a0,a1,a2,a3,rfl⟩
  obtain⟨d0,d1,d2,d3⟩:=AF ch;have BH:=AA BX;have FH:=AA FX;clear BX FX ch S6;go_wp2_with fail;exact yp (v:= .agg #[_,_,_,_]) (by simp[results,Tryz.results161,go_sem,AF BH.out]) rfl FH.out
def MO (v:Value):Prop:=∃x:AU,x.g.size<=8/\v= .agg #[.int .i64 x.k, .string x.g, .int .i64 x.r]
theorem UV {w0 w:World} {g N:Nat} (h:Dr w0 g N w) (hN:N<=800000):
 Calls prog 108 #[.pointer (some ⟨g,0,none⟩)] w (GK w0 g (N+10) w MO):=by
 have ae:=h.lt;have ci:w0.heap.size<=w.heap.size:=h.2.1.size;go_in;go_wp2_with fail;refine((h.alloc _).pick _).mono ?_;rintro e w1 ⟨x,rfl,_,_,h1,g1⟩
 by_cases x0:x=0
 .subst x0
  have B0:=yw w (.cells #[.int .i64 0, .string ⟨#[]⟩, .int .i64 0] 93);have B1:=(g1.block w.heap.size (by simp) (by simp;omega)).trans B0;have dp:=AK B1;obtain⟨d0,d1,d2⟩:=Kt B1;obtain⟨BX,FX⟩:=Zz (v0:= .int .i64 0) (v1:= .string ⟨#[]⟩) (v2:= .int .i64 0) h1 (AO (AW (AD _ _) _) g1) ae ci rfl B1 (M:=N+10) (by omega) (P:=MO) ⟨⟨0,⟨#[]⟩,0⟩,by decide,rfl⟩;have BH:=AA BX;have FH:=AA FX;clear BX FX B0 B1 h1 g1 h;go_wp2_with fail;exact yp (v:= .agg #[_,_,_]) (by simp[results,sV,go_sem,Kt BH.out]) rfl FH.out
 have t9:(x==0)=false:=by simp[x0]
 clear x0;go_wp2_with fail;refine(h1.pick _).mono ?_;rintro e w2 ⟨x,rfl,_,_,h2,g2⟩;go_wp2_with fail;refine(Na w2.heap.size 5 [⟨#[97]⟩,⟨#[97]⟩,⟨#[98]⟩,⟨#[97,98]⟩,⟨#[]⟩] (h2.alloc _) (by omega) rfl (by decide) (by decide) (by have:=h2.lt;omega) (by simp) (fun k hk=>Jy w2 [⟨#[97]⟩,⟨#[97]⟩,⟨#[98]⟩,⟨#[97,98]⟩,⟨#[]⟩] _ hk)).mono ?_;rintro e w3 ⟨v,rfl,⟨s,hs,rfl⟩,h3,g3⟩;have cB:s.size<=8:=by
  simp only[xm,wM,or_false] at hs
  rcases hs with rfl|rfl|rfl|rfl|rfl<;>decide
 clear hs;go_wp2_with fail;refine(h3.pick _).mono ?_;rintro e w4 ⟨y,rfl,y0,y1,h4,g4⟩;replace y1:=y1 (by decide);go_wp2_with fail;refine(h4.pick _).mono ?_;rintro e w5 ⟨f,rfl,f0,f1,h5,g5⟩;replace f1:=f1 (by decide);have St:=Tg.start (T:=93) (n:=3) (cs:= #[.int .i64 (1+x), .string s, .int .i64 (wrap64 (y*f))]) h5 (AO (AO (AO g1 g2) (AO (AW (AD _ _) _) g3)) (AO g4 g5)) rfl ae ci;clear h h1 h2 h3 h4 h5 g1 g2 g3 g4 g5;go_wp2_with fail;generalize w5.alloc _=w7 at St ⊢;generalize w5.heap.size=b at St ⊢;generalize wrap64 (y*f)=r at St ⊢;generalize 1+x=k at St ⊢;refine(St.pk _).mono ?_;rintro e w8 ⟨u,rfl,_,_,S8⟩;clear St;have St:=S8;clear S8;have ek:=St.lt;go_upto_block 0 with fail;go_cut [] (fun wx=>∃x:AU,x.g.size<=8/\Tg w0 g (N+10) w 93 3 b #[.int .i64 x.k, .string x.g, .int .i64 x.r] wx)
 case first=>
  by_cases u0:u=0
  .subst u0
   go_wp2_with fail;have ay:=St.dr.lt;have SA:=St.draw (St.dr.alloc (.cells #[.int .i64 (-1), .int .i64 0, .int .i64 4] 3)) (AW (AD _ _) _);refine(SA.dr.pick _).mono ?_;rintro e w6 ⟨k9,rfl,k0,k1,h6,g6⟩;replace k1:=k1 (by decide);obtain⟨k9,rfl⟩:=yd k0;obtain⟨q,hq⟩:=Mf [-1,0,4] 3 g6 ay (y:=k9) (by simp;omega);have S6:=SA.draw h6 g6;clear St SA g6 h6 ay;obtain⟨c0,c1,c2⟩:=Kt S6.yM;have fz:=AK S6.yM;go_wp2_with fail;go_meet;exact⟨⟨q,s,r⟩,cB,(S6.set 0 _ (by simp)).mono (by omega)⟩
  have t0:(u==0)=false:=by simp[u0]
  by_cases u1:u=1
  .subst u1
   clear u0;go_wp2_with fail;refine(Iu St.dr (by omega)).mono ?_;rintro e w9 ⟨_,rfl,⟨q,d6,rfl⟩,h8,g8⟩;have S6:=St.draw h8 g8;clear St h8 g8;obtain⟨c0,c1,c2⟩:=Kt S6.yM;have fz:=AK S6.yM;go_wp2_with fail;go_meet;exact⟨⟨k,q,r⟩,d6,(S6.set 1 _ (by simp)).mono (by omega)⟩
  have t1:(u==1)=false:=by simp[u1]
  by_cases u2:u=2
  .subst u2
   clear u0 u1;go_wp2_with fail;have ay:=St.dr.lt;have SA:=St.draw (St.dr.alloc (.cells #[.int .i64 (-1), .int .i64 50, .int .i64 51] 3)) (AW (AD _ _) _);refine(SA.dr.pick _).mono ?_;rintro e w6 ⟨k9,rfl,k0,k1,h6,g6⟩;replace k1:=k1 (by decide);obtain⟨k9,rfl⟩:=yd k0;obtain⟨q,hq⟩:=Mf [-1,50,51] 3 g6 ay (y:=k9) (by simp;omega);have S6:=SA.draw h6 g6;clear St SA g6 h6 ay;obtain⟨c0,c1,c2⟩:=Kt S6.yM;have fz:=AK S6.yM;go_wp2_with fail;go_meet;exact⟨⟨k,s,q⟩,cB,(S6.set 2 _ (by simp)).mono (by omega)⟩
  have t2:(u==2)=false:=by simp[u2]
  clear u0 u1 u2;go_wp2_with fail;go_meet;exact⟨⟨k,s,r⟩,cB,St.mono (by omega)⟩
 case rest=>
  clear St;obtain⟨x1,dW,S6⟩:=hcut;obtain⟨c0,c1,c2⟩:=Kt S6.yM;have fz:=AK S6.yM;obtain⟨rs,cz,ch⟩:=S6.res;have dp:=AK ch;obtain⟨BX,FX⟩:=Zz (v0:= .int .i64 x1.k) (v1:= .string x1.g) (v2:= .int .i64 x1.r) S6.dr S6.gr S6.glt S6.lo cz ch (yv _) (P:=MO) ⟨x1,dW,rfl⟩;obtain⟨r0,r1,r2,rfl⟩:∃r0 r1 r2,rs= #[r0,r1,r2]:=by
   match rs,cz with
   |⟨[a0,a1,a2]⟩,_=>exact⟨a0,a1,a2,rfl⟩
  obtain⟨d0,d1,d2⟩:=Kt ch;have BH:=AA BX;have FH:=AA FX;clear BX FX ch S6;go_wp2_with fail;exact yp (v:= .agg #[_,_,_]) (by simp[results,sV,go_sem,Kt BH.out]) rfl FH.out
theorem H6 {w w2:World} {g q:Nat} (h:w.grownBy w1 (some g)) (h2:w1.grownBy w2 (some q)) (hq:w.heap.size<=q):w.grownBy w2 (some g):=
 ⟨h2.os.trans h.os,h2.tape.trans h.tape,h2.output.trans h.output,yD h.size h2.size,fun k hk bC=>(h2.block k (xZ hk h.size) (fun e=>by cases e;omega)).trans (h.block k hk bC)⟩
structure L6 (ok:AN->Prop) (w0:World) (g N:Nat) (w:World) (b:Nat) (m i e c:Value) (k:AN) (wr:World):Prop where
 dr:Dr w0 g N wr
 gr:w.grownBy wr (some g)
 yK:Ic (w.heap.size+1) wr b m i e c k
 good:ok k
 glt:g<w.heap.size
 lo:w0.heap.size<=w.heap.size
 lt:w.heap.size<b
 res:∃a0 a1 a2 a3,wr.heap[w.heap.size]? =some (.cells #[a0,a1,a2,a3] 28 (0,0))
section
variable {ok:AN->Prop} {w0 w wr w':World} {g N M b:Nat} {m i e c m' i' e' c':Value} {k k':AN}
theorem L6.draw (h:L6 ok w0 g N w b m i e c k wr) (hd:Dr w0 g M w') (hg:wr.grownBy w' (some g)):L6 ok w0 g M w b m i e c k w':=by
 have ai:=h.glt;have hp:∀b',some g=some b'->b'<w.heap.size+1:=fun b' e=>by cases e;omega
 have cS:∀b',some g=some b'->b'<w.heap.size:=fun b' e=>by cases e;exact ai
 obtain⟨a0,a1,a2,a3,h1⟩:=h.res;exact⟨hd,AO h.gr hg,⟨Fg h.yK.1 h.yK.2.1 hg hp,h.yK.2.1,h.yK.2.2.past hg hp⟩,h.good,ai,h.lo,h.lt,a0,a1,a2,a3,Fg h1 (yv _) hg cS⟩
theorem L6.below (h:L6 ok w0 g N w b m i e c k wr) (hb:Below wr.heap.size wr w'):L6 ok w0 g N w b m i e c k w':=h.draw (h.dr.below hb) (AW hb _)
theorem L6.mono (h:L6 ok w0 g N w b m i e c k wr) (hm:N<=M):L6 ok w0 g M w b m i e c k wr:=⟨h.dr.mono hm,h.gr,h.yK,h.good,h.glt,h.lo,h.lt,h.res⟩
theorem L6.pk (h:L6 ok w0 g N w b m i e c k wr) (n:Int) (hN:N<=900000:=by omega) (h0:0<n:=by decide) (hn:n<=1000000:=by decide):Calls prog 20 #[.pointer (some ⟨g,0,none⟩), .int .i64 n] wr fun e' w'=>∃x:Int,e'= .returned (.int .i64 x)/\0<=x/\x<n/\L6 ok w0 g (N+1) w b m i e c k w':=
 (h.dr.pick n (by omega) hn).mono fun _ _ hp=>by obtain⟨x,rfl,h1,h2,h3,h4⟩:=hp;exact⟨x,rfl,h1,h2 h0,h.draw h3 h4⟩
theorem aH {b0 b1 b2 b3:Value} (hd:Dr w0 g N wr) (hg:w.grownBy wr (some g)) (hB:wr.heap[b]? =some (.cells #[b0,b1,b2,b3] 28 (0,0))) (O:DO (w.heap.size+1) wr m' i' e' c' k') (hk:ok k') (h3:g<w.heap.size) (h2:w0.heap.size<=w.heap.size) (h1:w.heap.size<b) (bh:∃a0 a1 a2 a3,wr.heap[w.heap.size]? =some (.cells #[a0,a1,a2,a3] 28 (0,0))):L6 ok w0 g N w b m' i' e' c' k' ((((wr.setCell ⟨b,0,none⟩ m').setCell ⟨b,1,none⟩ i').setCell ⟨b,2,none⟩ e').setCell ⟨b,3,none⟩ c'):=by
 have ad:=Ao wr b m' i' e' c';obtain⟨a0,a1,a2,a3,h4⟩:=bh;have n1:b≠g:=by omega
 have n2:w0.heap.size<=b:=by omega
 have n3:w.heap.size<=b:=by omega
 exact⟨(((hd.set n1 n2).set n1 n2).set n1 n2).set n1 n2,Bh (Bh (Bh (Bh hg n3 _) n3 _) n3 _) n3 _,⟨Cs hB,h1,O.yN ad hB⟩,hk,h3,h2,h1,a0,a1,a2,a3,(ad.block _ (AY h4) (by simp;omega)).trans h4⟩
end
def bL (ok:AN->Prop) (w0:World) (g N:Nat) (w:World):Ending->World->Prop:=JY w0 g N w fun v w'=>∃m i e c k,v= .agg #[m,i,e,c]/\OQ w.heap.size w' m i e c k/\ok k
def Iq (ok:AN->Prop) (w0:World) (g N:Nat) (w:World) (b:Nat) (wr:World):Prop:=∃m i e c k,Dr w0 g N wr/\w.grownBy wr (some g)/\wr.heap[b]? =some (.cells #[m,i,e,c] 28 (0,0))/\OQ w.heap.size wr m i e c k/\ok k/\∃a0 a1 a2 a3,wr.heap[w.heap.size]? =some (.cells #[a0,a1,a2,a3] 28 (0,0))
theorem L6.ke {ok ok':AN->Prop} {w0 w wr:World} {g N M b q:Nat} {m i e c m' i' e' c':Value} {k k':AN} (h:L6 ok w0 g N w b m i e c k wr) (ad:wr.grownBy w1 (some q)) (hq:w.heap.size<q) (hB:w1.heap[b]? =some (.cells #[m',i',e',c'] 28 (0,0))) (O:OQ (w.heap.size+1) w1 m' i' e' c' k') (hk:ok' k') (hM:N<=M):Iq ok' w0 g M w b w1:=by
 obtain⟨a0,a1,a2,a3,h4⟩:=h.res;have h1:=h.glt;have h2:=h.lo;exact⟨m',i',e',c',k',(h.dr.keep ad (by simp;omega) (fun k hk=>by cases hk;omega)).mono hM,H6 h.gr ad (by omega),hB,O.map (fun _ _ _ _ _ _ _ h=>BR h (Nat.le_succ _)),hk,a0,a1,a2,a3,(ad.block _ (AY h4) (by simp;omega)).trans h4⟩
def bN (ok:AN->Prop) (w0:World) (g N:Nat) (w:World) (m i e c:Value) (W:World):Prop:=W.heap[w.heap.size]? =some (.cells #[m,i,e,c] 28 (0,0))/\bL ok w0 g N w (.returned (.agg #[m,i,e,c])) W
theorem aI {ok:AN->Prop} {w0 w wr:World} {g N M:Nat} {m i e c a0 a1 a2 a3:Value} {k:AN} (hd:Dr w0 g N wr) (hg:w.grownBy wr (some g)) (S:OQ w.heap.size wr m i e c k) (hk:ok k) (ai:g<w.heap.size) (an:w0.heap.size<=w.heap.size) (hB:wr.heap[w.heap.size]? =some (.cells #[a0,a1,a2,a3] 28 (0,0))) (hM:N<=M):
 bN ok w0 g M w m i e c ((((wr.setCell ⟨w.heap.size,0,none⟩ m).setCell ⟨w.heap.size,1,none⟩ i).setCell ⟨w.heap.size,2,none⟩ e).setCell ⟨w.heap.size,3,none⟩ c):=by
 have ad:=Ao wr w.heap.size m i e c;have n1:w.heap.size≠g:=by omega
 have n3:=yv w.heap.size;exact⟨Cs hB,_,rfl,⟨_,_,_,_,k,rfl,S.map (KV ad hB (.inl rfl) (yv _)),hk⟩,((((hd.set n1 an).set n1 an).set n1 an).set n1 an).mono hM,Bh (Bh (Bh (Bh hg n3 _) n3 _) n3 _) n3 _⟩
structure Hv (ok:AR->Prop) (w0:World) (g N:Nat) (w:World) (b:Nat) (m i e c s l q:Value) (P:AR) (wr:World):Prop where
 dr:Dr w0 g N wr
 gr:w.grownBy wr (some g)
 yI:Gg (w.heap.size+1) b wr m i e c s l q P
 good:ok P
 glt:g<w.heap.size
 lo:w0.heap.size<=w.heap.size
 lt:w.heap.size<b
 res:∃a0 a1 a2 a3 a4 a5 a6 a7 a8,wr.heap[w.heap.size]? =some (.cells #[a0,a1,a2,a3,a4,a5,a6,a7,a8] 32 (0,0))
section
variable {ok:AR->Prop} {w0 w wr w':World} {g N M b:Nat} {m i e c s l q m' i' e' c' s' l' q':Value} {P P':AR}
theorem Ez.past' {row:Option Nat} (h:Ez lo w m i e c s l q P) (hg:w.grownBy w' row) (hr:∀b,row=some b->b<lo):Ez lo w' m i e c s l q P:=by
 obtain⟨h1,⟨vs,h2,h3,h4⟩,h5,h6,h7⟩:=h;exact⟨h1.past hg hr,⟨vs,Bp h2 hg hr,h3.mono fun _ _ x=>Bp x hg hr,h4⟩,Bp h5 hg hr,Bp h6 hg hr,h7⟩
theorem Hv.draw (h:Hv ok w0 g N w b m i e c s l q P wr) (hd:Dr w0 g M w') (hg:wr.grownBy w' (some g)):Hv ok w0 g M w b m i e c s l q P w':=by
 have ai:=h.glt;have hp:∀b',some g=some b'->b'<w.heap.size+1:=fun b' e=>by cases e;omega
 have cS:∀b',some g=some b'->b'<w.heap.size:=fun b' e=>by cases e;exact ai
 obtain⟨a0,a1,a2,a3,a4,a5,a6,a7,a8,h1⟩:=h.res;exact⟨hd,AO h.gr hg,⟨Fg h.yI.yM h.yI.yL hg hp,h.yI.yL,h.yI.own.past' hg hp⟩,h.good,ai,h.lo,h.lt,a0,a1,a2,a3,a4,a5,a6,a7,a8,Fg h1 (yv _) hg cS⟩
theorem Hv.below (h:Hv ok w0 g N w b m i e c s l q P wr) (hb:Below wr.heap.size wr w'):Hv ok w0 g N w b m i e c s l q P w':=h.draw (h.dr.below hb) (AW hb _)
theorem Hv.mono (h:Hv ok w0 g N w b m i e c s l q P wr) (hm:N<=M):Hv ok w0 g M w b m i e c s l q P wr:=⟨h.dr.mono hm,h.gr,h.yI,h.good,h.glt,h.lo,h.lt,h.res⟩
theorem Hv.pk (h:Hv ok w0 g N w b m i e c s l q P wr) (n:Int) (hN:N<=900000:=by omega) (h0:0<n:=by decide) (hn:n<=1000000:=by decide):Calls prog 20 #[.pointer (some ⟨g,0,none⟩), .int .i64 n] wr fun e' w'=>∃x:Int,e'= .returned (.int .i64 x)/\0<=x/\x<n/\Hv ok w0 g (N+1) w b m i e c s l q P w':=
 (h.dr.pick n (by omega) hn).mono fun _ _ hp=>by obtain⟨x,rfl,h1,h2,h3,h4⟩:=hp;exact⟨x,rfl,h1,h2 h0,h.draw h3 h4⟩
theorem aN {b0 b1 b2 b3 b4 b5 b6 b7 b8:Value} (hd:Dr w0 g N wr) (hg:w.grownBy wr (some g)) (hB:wr.heap[b]? =some (.cells #[b0,b1,b2,b3,b4,b5,b6,b7,b8] 32 (0,0))) (O:Ez (w.heap.size+1) wr m' i' e' c' s' l' q' P') (hk:ok P') (h3:g<w.heap.size) (h2:w0.heap.size<=w.heap.size) (h1:w.heap.size<b) (bh:∃a0 a1 a2 a3 a4 a5 a6 a7 a8,wr.heap[w.heap.size]? =some (.cells #[a0,a1,a2,a3,a4,a5,a6,a7,a8] 32 (0,0))):Hv ok w0 g N w b m' i' e' c' s' l' q' P' (((Er wr b m' i' e' c' s' l' q').setCell ⟨b,7,none⟩ (.int .i64 P'.zT)).setCell ⟨b,8,none⟩ (.int .i64 P'.zW)):=by
 obtain⟨n6,o6,ao⟩:=DD hB O;obtain⟨a0,a1,a2,a3,a4,a5,a6,a7,a8,h4⟩:=bh;exact⟨hd.keep ao (by simp;omega) (fun k hk=>by cases hk;omega),H6 hg ao (by omega),⟨n6,h1,o6⟩,hk,h3,h2,h1,a0,a1,a2,a3,a4,a5,a6,a7,a8,(ao.block _ (AY h4) (by simp;omega)).trans h4⟩
end
def bM (ok:AR->Prop) (w0:World) (g N:Nat) (w:World):Ending->World->Prop:=JY w0 g N w fun v w'=>∃m i e c s l q P,v=AQ m i e c s l q P.zT P.zW/\Nn w.heap.size w' m i e c s l q P/\ok P
def Tk (ok:AR->Prop) (w0:World) (g N:Nat) (w:World) (b:Nat) (wr:World):Prop:=∃m i e c s l q P,Dr w0 g N wr/\w.grownBy wr (some g)/\wr.heap[b]? =some (.cells #[m,i,e,c,s,l,q, .int .i64 P.zT, .int .i64 P.zW] 32 (0,0))/\Nn w.heap.size wr m i e c s l q P/\ok P/\∃a0 a1 a2 a3 a4 a5 a6 a7 a8,wr.heap[w.heap.size]? =some (.cells #[a0,a1,a2,a3,a4,a5,a6,a7,a8] 32 (0,0))
theorem Hv.pe {ok ok':AR->Prop} {w0 w wr:World} {g N M b q:Nat} {m i e c s l p m' i' e' c' s' l' p':Value} {P P':AR} (h:Hv ok w0 g N w b m i e c s l p P wr) (ad:wr.grownBy w1 (some q)) (hq:w.heap.size<q) (hB:w1.heap[b]? =some (.cells #[m',i',e',c',s',l',p', .int .i64 P'.zT, .int .i64 P'.zW] 32 (0,0))) (O:Nn (w.heap.size+1) w1 m' i' e' c' s' l' p' P') (hk:ok' P') (hM:N<=M):Tk ok' w0 g M w b w1:=by
 obtain⟨a0,a1,a2,a3,a4,a5,a6,a7,a8,h4⟩:=h.res;have h1:=h.glt;have h2:=h.lo;exact⟨m',i',e',c',s',l',p',P',(h.dr.keep ad (by simp;omega) (fun k hk=>by cases hk;omega)).mono hM,H6 h.gr ad (by omega),hB,O.map (fun _ _ _ _ _ _ _ h=>BR h (Nat.le_succ _)),hk,a0,a1,a2,a3,a4,a5,a6,a7,a8,(ad.block _ (AY h4) (by simp;omega)).trans h4⟩
def bO (ok:AR->Prop) (w0:World) (g N:Nat) (w:World) (m i e c s l q:Value) (P:AR) (W:World):Prop:=W.heap[w.heap.size]? =some (.cells #[m,i,e,c,s,l,q, .int .i64 P.zT, .int .i64 P.zW] 32 (0,0))/\bM ok w0 g N w (.returned (AQ m i e c s l q P.zT P.zW)) W
theorem aO {ok:AR->Prop} {w0 w wr:World} {g N M:Nat} {m i e c s l q a0 a1 a2 a3 a4 a5 a6 a7 a8:Value} {P:AR} (hd:Dr w0 g N wr) (hg:w.grownBy wr (some g)) (S:Nn w.heap.size wr m i e c s l q P) (hk:ok P) (ai:g<w.heap.size) (an:w0.heap.size<=w.heap.size) (hB:wr.heap[w.heap.size]? =some (.cells #[a0,a1,a2,a3,a4,a5,a6,a7,a8] 32 (0,0))) (hM:N<=M):
 bO ok w0 g M w m i e c s l q P (((Er wr w.heap.size m i e c s l q).setCell ⟨w.heap.size,7,none⟩ (.int .i64 P.zT)).setCell ⟨w.heap.size,8,none⟩ (.int .i64 P.zW)):=by
 have ad:=Ex (w:=wr) (g:=w.heap.size) (b0:=m) (b1:=i) (b2:=e) (b3:=c) (b4:=s) (b5:=l) (b6:=q) (b7:= .int .i64 P.zT) (b8:= .int .i64 P.zW);exact⟨GO hB,_,rfl,⟨_,_,_,_,_,_,_,P,rfl,S.map (KV ad hB (.inr rfl) (yv _)),hk⟩,(hd.keep ad (by simp;omega) (fun k hk=>by cases hk;exact an)).mono hM,H6 hg ad (yv _)⟩
structure Kg (w0:World) (g N:Nat) (w W1:World) (b:Nat) (m i e c s l q:Value) (P:AR) (wr:World):Prop where
 dr:Dr w0 g N wr
 gr:w.grownBy wr (some g)
 yM:wr.heap[b]? =some (.cells #[m,i,e,c,s,l,q, .int .i64 P.zT, .int .i64 P.zW] 32 (0,0))
 sf:Nn (w.heap.size+1) wr m i e c s l q P
 good:EC P
 glt:g<w.heap.size
 lo:w0.heap.size<=w.heap.size
 lt:w.heap.size<b
 sz:W1.heap.size<=wr.heap.size
 kp:∀k,k<W1.heap.size->k≠g->k≠b->wr.heap[k]? =W1.heap[k]?
section
variable {w0 w W1 wr w':World} {g N M b:Nat} {m i e c s l q m' i' e' c' s' l' q':Value} {P P':AR}
theorem Kg.draw (h:Kg w0 g N w W1 b m i e c s l q P wr) (hd:Dr w0 g M w') (hg:wr.grownBy w' (some g)):Kg w0 g M w W1 b m i e c s l q P w':=by
 have h1:=h.glt;have h2:=h.lt;have h3:=h.sz;exact⟨hd,AO h.gr hg,(hg.block b (AY h.yM) (by simp;omega)).trans h.yM,h.sf.map (GI hg (by omega) (yv _)),h.good,h1,h.lo,h2,yD h3 hg.size,fun k hk cU cV=>(hg.block k (by omega) (by simp;omega)).trans (h.kp k hk cU cV)⟩
theorem Kg.below (h:Kg w0 g N w W1 b m i e c s l q P wr) (hb:Below wr.heap.size wr w'):Kg w0 g N w W1 b m i e c s l q P w':=h.draw (h.dr.below hb) (AW hb _)
theorem Kg.mono (h:Kg w0 g N w W1 b m i e c s l q P wr) (hm:N<=M):Kg w0 g M w W1 b m i e c s l q P wr:=⟨h.dr.mono hm,h.gr,h.yM,h.sf,h.good,h.glt,h.lo,h.lt,h.sz,h.kp⟩
theorem Kg.pk (h:Kg w0 g N w W1 b m i e c s l q P wr) (n:Int) (hN:N<=900000:=by omega) (h0:0<n:=by decide) (hn:n<=1000000:=by decide):Calls prog 20 #[.pointer (some ⟨g,0,none⟩), .int .i64 n] wr fun e' w'=>∃x:Int,e'= .returned (.int .i64 x)/\0<=x/\x<n/\Kg w0 g (N+1) w W1 b m i e c s l q P w':=
 (h.dr.pick n (by omega) hn).mono fun _ _ hp=>by obtain⟨x,rfl,h1,h2,h3,h4⟩:=hp;exact⟨x,rfl,h1,h2 h0,h.draw h3 h4⟩
theorem Kg.put (h:Kg w0 g N w W1 b m i e c s l q P wr) (O:Nn (w.heap.size+1) wr m' i' e' c' s' l' q' P') (hk:EC P'):
 Kg w0 g N w W1 b m' i' e' c' s' l' q' P' (((Er wr b m' i' e' c' s' l' q').setCell ⟨b,7,none⟩ (.int .i64 P'.zT)).setCell ⟨b,8,none⟩ (.int .i64 P'.zW)):=by
 have h1:=h.glt;have h2:=h.lt;have h3:=h.sz;have h4:=h.lo;have ao:=Ex (w:=wr) (g:=b) (b0:=m') (b1:=i') (b2:=e') (b3:=c') (b4:=s') (b5:=l') (b6:=q') (b7:= .int .i64 P'.zT) (b8:= .int .i64 P'.zW);exact⟨h.dr.keep ao (by simp;omega) (fun k hk=>by cases hk;omega),H6 h.gr ao (by omega),GO h.yM,O.map (KV ao h.yM (.inr rfl) (yv _)),hk,h1,h4,h2,yD h3 ao.size,fun k hk cU cV=>(ao.block k (by omega) (by simp;omega)).trans (h.kp k hk cU cV)⟩
end
def Pf (w0:World) (g N:Nat) (w W1:World) (b:Nat) (wr:World):Prop:=∃m i e c s l q P,Kg w0 g N w W1 b m i e c s l q P wr
theorem Pf.below {w0 w W1 wr w':World} {g N b:Nat} (h:Pf w0 g N w W1 b wr) (hb:Below wr.heap.size wr w'):Pf w0 g N w W1 b w':=by obtain⟨m,i,e,c,s,l,q,P,h⟩:=h;exact⟨m,i,e,c,s,l,q,P,h.below hb⟩
def Nm (lo:Nat) (w:World) (v:Value):Prop:=∃m i e c s l q P,v=AQ m i e c s l q P.zT P.zW/\Nn lo w m i e c s l q P/\EC P
theorem Nm.past {g:Nat} {w w':World} {v:Value} (h:Nm lo w v) (hg:g<lo) (hb:w.grownBy w' (some g)):Nm lo w' v:=by obtain⟨m,i,e,c,s,l,q,P,h1,h2,h3⟩:=h;exact⟨m,i,e,c,s,l,q,P,h1,h2.map (GI hb hg (yv _)),h3⟩
theorem Nn.pgR {lo':Nat} {w:World} {m i e c s l q:Value} {P:AR} (h:Nn lo w m i e c s l q P) (hk:EC P) (hl:lo'<=lo):Nm lo' w (AQ m i e c s l q P.zT P.zW):=⟨m,i,e,c,s,l,q,P,rfl,h.map (fun _ _ _ _ _ _ _ x=>BR x hl),hk⟩
theorem Iq.put {ok:AN->Prop} {w0 w wr:World} {g N b:Nat} {a0 a1 a2 a3 b0 b1 b2 b3 m' i' e' c':Value} {k':AN} (hd:Dr w0 g N wr) (hg:w.grownBy wr (some g)) (hB:wr.heap[b]? =some (.cells #[b0,b1,b2,b3] 28 (0,0))) (O:OQ w.heap.size wr m' i' e' c' k') (hk:ok k') (ae:g<w.heap.size) (an:w0.heap.size<=w.heap.size) (hb:w.heap.size<b) (bh:wr.heap[w.heap.size]? =some (.cells #[a0,a1,a2,a3] 28 (0,0))):
 Iq ok w0 g N w b ((((wr.setCell ⟨b,0,none⟩ m').setCell ⟨b,1,none⟩ i').setCell ⟨b,2,none⟩ e').setCell ⟨b,3,none⟩ c'):=by
 have ad:=Ao wr b m' i' e' c';exact⟨m',i',e',c',k',hd.keep ad (by simp;omega) (fun k hk=>by cases hk;omega),H6 hg ad (by omega),Cs hB,O.map (KV ad hB (.inl rfl) (yv _)),hk,a0,a1,a2,a3,(ad.block _ (AY bh) (by simp;omega)).trans bh⟩
theorem Iq.draw {ok:AN->Prop} {w0 w wr w':World} {g N M b:Nat} (h:Iq ok w0 g N w b wr) (ae:g<w.heap.size) (hb:w.heap.size<b) (hd:Dr w0 g M w') (hg:wr.grownBy w' (some g)):Iq ok w0 g M w b w':=by
 obtain⟨m,i,e,c,k,h1,h2,h3,h4,h5,a0,a1,a2,a3,h6⟩:=h;exact⟨m,i,e,c,k,hd,AO h2 hg,(hg.block _ (AY h3) (by simp;omega)).trans h3,h4.map (fun _ _ _ _ _ _ _ x=>Bp x hg (fun b' e=>by cases e;exact ae)),h5,a0,a1,a2,a3,(hg.block _ (AY h6) (by simp;omega)).trans h6⟩
theorem Iq.below {ok:AN->Prop} {w0 w wr w':World} {g N b:Nat} (h:Iq ok w0 g N w b wr) (ae:g<w.heap.size) (hb:w.heap.size<b) (dk:Below wr.heap.size wr w'):Iq ok w0 g N w b w':=by obtain⟨m,i,e,c,k,h1,h2⟩:=h;exact Iq.draw ⟨m,i,e,c,k,h1,h2⟩ ae hb (h1.below dk) (AW dk _)
theorem Iq.mono {ok:AN->Prop} {w0 w wr:World} {g N M b:Nat} (h:Iq ok w0 g N w b wr) (hm:N<=M):Iq ok w0 g M w b wr:=by obtain⟨m,i,e,c,k,h1,h2⟩:=h;exact⟨m,i,e,c,k,h1.mono hm,h2⟩
theorem Iq.pk {ok:AN->Prop} {w0 w wr:World} {g N b:Nat} (h:Iq ok w0 g N w b wr) (ae:g<w.heap.size) (hb:w.heap.size<b) (n:Int) (hN:N<=900000:=by omega) (h0:0<n:=by decide) (hn:n<=1000000:=by decide):Calls prog 20 #[.pointer (some ⟨g,0,none⟩), .int .i64 n] wr fun e' w'=>∃x:Int,e'= .returned (.int .i64 x)/\0<=x/\x<n/\Iq ok w0 g (N+1) w b w':=by
 obtain⟨m,i,e,c,k,h1,h2⟩:=h;refine(h1.pick n (by omega) hn).mono fun _ _ hp=>?_
 obtain⟨x,rfl,h3,h4,h5,h6⟩:=hp;exact⟨x,rfl,h3,h4 h0,Iq.draw ⟨m,i,e,c,k,h1,h2⟩ ae hb h5 h6⟩
def X1 (lo:Nat) (w:World) (v:Value):Prop:=∃m i e c k,v= .agg #[m,i,e,c]/\OQ lo w m i e c k/\DI k
theorem X1.past {g:Nat} {w w':World} {v:Value} (h:X1 lo w v) (hg:g<lo) (hb:w.grownBy w' (some g)):X1 lo w' v:=by obtain⟨m,i,e,c,k,h1,h2,h3⟩:=h;exact⟨m,i,e,c,k,h1,h2.map (GI hb hg (yv _)),h3⟩
def WP (w:World) (t:AR×Int×Bool) (r:Ending) (w':World):Prop:=∃m i e c s l q,r= .returned (.tuple #[AQ m i e c s l q t.1.zT t.1.zW, .int .i64 t.2.1, .bool t.2.2])/\Ez w.heap.size w' m i e c s l q t.1/\Below w.heap.size w w'
def Tj (w:World) (t:AR×Int) (r:Ending) (w':World):Prop:=∃m i e c s l q,r= .returned (.tuple #[AQ m i e c s l q t.1.zT t.1.zW, .int .i64 t.2])/\Ez w.heap.size w' m i e c s l q t.1/\Below w.heap.size w w'
theorem Yh {p:AR} {a:Nat} {Q:AR} (h:BI p (a/4)=(Q,true)):Kb p a=({Q with zX:=(Ad Q.zX (Ag 10 (a:Int) 0 0)).1},(Ad Q.zX (Ag 10 (a:Int) 0 0)).2.1,true):=by unfold Kb;rw[h];rfl
theorem Xn {p:AR} {a:Nat} {x:Int} {Q:AR} (h:BI p (a/4)=(Q,true)):Ik p a x=({Q with zX:=(Ad Q.zX (Ag 11 (a:Int) x 0)).1},true):=by unfold Ik;rw[h];rfl
theorem P6 (mv iv ev cv sv lv qv:Value) (P:AR) (w:World) (h:Lr w mv iv ev cv sv lv qv P) (hP:EC P) {a:Nat} (ha:a<64):
 Calls prog 103 #[AQ mv iv ev cv sv lv qv P.zT P.zW, .int .i64 a] w (WP w (Kb P a)):=by
 obtain⟨j,hj⟩:∃j,j=a/4:=⟨_,rfl⟩
 have q1:(a:Int)/4=(j:Int):=by omega
 have hA:Bd (a:Int) 0 63=true:=Ac.2 (by omega);have bj:=Ln (p:=P) (n:=a/4) hP (by omega);have bk:=WV hP ha;have ac:=fun Q=>Yh (p:=P) (a:=a) (Q:=Q)
 have bD:j<16:=by omega
 have cg:=fun(h:(BI P j).2=false)=>Gd hP bD h
 have al:=fun W (hR:Lr W mv iv ev cv sv lv qv P)=>Ij mv iv ev cv sv lv qv P W hR hP bD
 rw[<-hj] at bj bk ac;generalize BI P j=t at bj bk ac al cg;generalize Kb P a=tt at bk ac ⊢;obtain⟨Q,bb⟩:=t;dsimp only at bj bk ac al cg;have HC:=fun m i e c W (hR:MM W m i e c Q.zX)=>FL hR bj.k 10 (a:Int) 0 0 (by decide)
 have ac:=ac Q;generalize Ad Q.zX (Ag 10 (a:Int) 0 0)=res at HC ac;obtain⟨kr,vr,nr⟩:=res;unfold J9 at HC;dsimp only at HC ac;have HC:=AA HC;unfold IM AQ at al;have al:=AA al;unfold AQ WP AQ;obtain⟨N0,N1,ax,be⟩:=Jp w (.cells #[mv,iv,ev,cv,sv,lv,qv, .int .i64 P.zT, .int .i64 P.zW] 32) (.cells #[.slice none 0 0, .slice none 0 0, .slice none 0 0, .slice none 0 0, .slice none 0 0, .slice none 0 0, .slice none 0 0, .int .i64 0, .int .i64 0] 32);have h0:=h.below ax;have cj:Bz P=true:=Ep.2 hP;obtain⟨x0,x1,x2,x3,x4,x5,x6,x7,x8⟩:=AE N0;have cM:=AA be;clear be;go_in;go_wp2_with fail;generalize(w.alloc _).alloc _=W0 at*;have CV:=GT mv iv ev cv sv lv qv P W0 h0 (Ce hP.k);rw[cj] at CV;have cJ:=AA h0;have ct:=AA cg;unfold AQ at CV;have er:=AA bj;have cu:=AA bk;have bd:=AA ac;have aq:=AA ax;have cl:=AA N0;have bo:=AA N1;clear h h0 ax N0 N1 hP cj x0 x1 x2 x3 x4 x5 x6 x7 x8 bj bk ac hj cg;refine CV.mono ?_;rintro r w1 ⟨rfl,b1⟩;obtain⟨x0,x1,x2,x3,x4,x5,x6,x7,x8⟩:=AE (AC cl.out b1);have a9:=AA b1;clear b1 CV;go_wp2_with fail;refine(Jn _ _).mono ?_;rintro r w2 ⟨rfl,rfl⟩;rw[hA];go_wp2_with fail;refine(al.out w1 (cJ.out.below a9.out)).mono ?_;rintro r w2 ⟨m2,i2,e2,c2,s2,l2,q2,rfl,O2,b2⟩;obtain⟨⟨⟨ma,mn,mc,rfl⟩,⟨ia,iN,ic,rfl⟩,⟨ea,en,ec,rfl⟩,⟨qa,qn,qc,rfl⟩⟩,⟨sa,sn,sc,rfl⟩,⟨la,ln,lc,rfl⟩,⟨pa,pn,pc,rfl⟩⟩:=O2.zS;have bA:=AD w2 (.cells #[.slice ma mn mc, .slice ia iN ic, .slice ea en ec, .slice qa qn qc, .slice sa sn sc, .slice la ln lc, .slice pa pn pc, .int .i64 Q.zT, .int .i64 Q.zW] 32);have I3:=Gg.start O2 b2.size;have bg:=a9.out.trans ((b2.trans (bA.mono b2.size)).mono a9.out.size);have am:=AA I3;have N3:=AA (AC bo.out bg);have ar:=AA (aq.out.trans (bg.mono aq.out.size));have ba:=AA (yD aq.out.size a9.out.size);have bX:=AA (yD b2.size bA.size);clear O2 bA I3 bg b2 x0 x1 x2 x3 x4 x5 x6 x7 x8 al cJ;cases bb
 focus
  have e:=cu.out rfl
  obtain rfl:=ct.out rfl;subst e;clear cu bd ct HC;have S5:=DD N3.out (am.out.own.lower ba.out);obtain⟨c0,c1,c2,c3,c4,c5,c6,c7,c8⟩:=am.out.cells;obtain⟨a0,a1,a2,a3,a4,a5,a6,a7,a8⟩:=AE N3.out;have f5:=AK N3.out;have cw:=AA S5;clear S5;go_wp2_with fail;obtain⟨N6,O6,ao⟩:=cw.out;have B6:=AM ar.out ao (by omega) ar.out.size
 rotate_left
 focus
  have e:=bd.out rfl
  subst e;have C3:=AA (HC.out _ _ _ _ _ am.out.own.ker.rd);obtain⟨c0,c1,c2,c3,c4,c5,c6,c7,c8⟩:=am.out.cells;clear bd cu ct HC;go_wp2_with fail;generalize hg3:w2.heap.size=g3 at*;generalize w2.alloc _=W3 at*;refine C3.out.mono ?_;rintro r w4 ⟨m4,i4,e4,dq,rfl,O4,b4⟩;obtain⟨⟨br,bp,bq,rfl⟩,⟨bx,bz,bw,rfl⟩,⟨bW,bK,bV,rfl⟩,⟨bv,bt,bu,rfl⟩⟩:=O4.zS;have bA:=AD w4 (.cells #[.slice br bp bq, .slice bx bz bw, .slice bW bK bV, .slice bv bt bu] 28);have au:=b4.trans (bA.mono b4.size);have I4:=am.out.below au;have I5:=am.out.put au (yv _) bX.out (O4.below bA);have G5:=Ao (w4.alloc (.cells #[.slice br bp bq, .slice bx bz bw, .slice bW bK bV, .slice bv bt bu] 28)) g3 (.slice br bp bq) (.slice bx bz bw) (.slice bW bK bV) (.slice bv bt bu);have N4:=AC N3.out au;have ng:g3≠w.heap.size+1:=fun e=>by have h1:=am.out.yL;have h2:=AY bo.out;have h3:=a9.out.size;omega
  have N5:=Ap N4 G5 ng;have B5:=AM (ar.out.trans (au.mono ar.out.size)) G5 (yD ba.out am.out.yL) (yD ar.out.size au.size);obtain⟨d0,d1,d2,d3,_⟩:=I4.cells;have fd:=AK I4.yM;generalize hW5:((((w4.alloc _).setCell _ _).setCell _ _).setCell _ _).setCell _ _=W5 at I5 G5 N5 B5;have S6:=DD N5 (I5.own.lower ba.out);obtain⟨y0,y1,y2,y3,y4,y5,y6,y7,y8⟩:=I5.cells;obtain⟨a0,a1,a2,a3,a4,a5,a6,a7,a8⟩:=AE N5;have f5:=AK N5;have cI:=AA S6;have bY:=AA B5;clear S6 b4 bA au O4 I4 I5 G5 N4 N5 B5 C3 c0 c1 c2 c3 c4 c5 c6 c7 c8;go_wp2_with fail;obtain⟨N6,O6,ao⟩:=cI.out;have B6:=AM bY.out ao (by omega) bY.out.size
 rotate_left
 all_goals
  unfold Er at N6 O6 B6;exact yp (v:= .tuple #[.agg #[_,_,_,_,_,_,_,_,_],_,_]) (by simp[results,Tryz.results103,go_sem,AE N6]) rfl ⟨_,_,_,_,_,_,_,rfl,O6,B6⟩
theorem Kc (mv iv ev cv sv lv qv:Value) (P:AR) (w:World) (h:Lr w mv iv ev cv sv lv qv P) (hP:EC P) {a:Nat} (ha:a<64) {x:Int} (hx:Dy x=true):
 Calls prog 102 #[AQ mv iv ev cv sv lv qv P.zT P.zW, .int .i64 a, .int .i64 x] w (IM w (Ik P a x)):=by
 obtain⟨j,hj⟩:∃j,j=a/4:=⟨_,rfl⟩
 have q1:(a:Int)/4=(j:Int):=by omega
 have hA:Bd (a:Int) 0 63=true:=Ac.2 (by omega);have bj:=Ln (p:=P) (n:=a/4) hP (by omega);have bk:=Um (w:=x) hP ha;have ac:=fun Q=>Xn (p:=P) (a:=a) (x:=x) (Q:=Q)
 have bD:j<16:=by omega
 have cg:=fun(h:(BI P j).2=false)=>Gd hP bD h
 have al:=fun W (hR:Lr W mv iv ev cv sv lv qv P)=>Ij mv iv ev cv sv lv qv P W hR hP bD
 rw[<-hj] at bj bk ac;generalize BI P j=t at bj bk ac al cg;generalize Ik P a x=tt at bk ac ⊢;obtain⟨Q,bb⟩:=t;dsimp only at bj bk ac al cg;have HC:=fun m i e c W (hR:MM W m i e c Q.zX)=>FL hR bj.k 11 (a:Int) x 0 (by decide)
 have ac:=ac Q;generalize Ad Q.zX (Ag 11 (a:Int) x 0)=res at HC ac;obtain⟨kr,vr,nr⟩:=res;unfold J9 at HC;dsimp only at HC ac;have HC:=AA HC;unfold IM AQ at al;have al:=AA al;unfold AQ IM AQ;obtain⟨N0,N1,ax,be⟩:=Jp w (.cells #[mv,iv,ev,cv,sv,lv,qv, .int .i64 P.zT, .int .i64 P.zW] 32) (.cells #[.slice none 0 0, .slice none 0 0, .slice none 0 0, .slice none 0 0, .slice none 0 0, .slice none 0 0, .slice none 0 0, .int .i64 0, .int .i64 0] 32);have h0:=h.below ax;have cj:Bz P=true:=Ep.2 hP;obtain⟨x0,x1,x2,x3,x4,x5,x6,x7,x8⟩:=AE N0;have cM:=AA be;clear be;go_in;go_wp2_with fail;generalize(w.alloc _).alloc _=W0 at*;have CV:=GT mv iv ev cv sv lv qv P W0 h0 (Ce hP.k);rw[cj] at CV;have cJ:=AA h0;have ct:=AA cg;unfold AQ at CV;have er:=AA bj;have cu:=AA bk;have bd:=AA ac;have aq:=AA ax;have cl:=AA N0;have bo:=AA N1;clear h h0 ax N0 N1 hP cj x0 x1 x2 x3 x4 x5 x6 x7 x8 bj bk ac hj cg;refine CV.mono ?_;rintro r w1 ⟨rfl,b1⟩;obtain⟨x0,x1,x2,x3,x4,x5,x6,x7,x8⟩:=AE (AC cl.out b1);have a9:=AA b1;clear b1 CV;go_wp2_with fail;refine(Jn _ _).mono ?_;rintro r w2 ⟨rfl,rfl⟩;rw[hA];go_wp2_with fail;refine(Cv _ _ _ _).mono ?_;rintro r w2 ⟨rfl,rfl⟩;rw[show Bd x 0 9999=true from hx];go_wp2_with fail;refine(al.out w1 (cJ.out.below a9.out)).mono ?_;rintro r w2 ⟨m2,i2,e2,c2,s2,l2,q2,rfl,O2,b2⟩;obtain⟨⟨⟨ma,mn,mc,rfl⟩,⟨ia,iN,ic,rfl⟩,⟨ea,en,ec,rfl⟩,⟨qa,qn,qc,rfl⟩⟩,⟨sa,sn,sc,rfl⟩,⟨la,ln,lc,rfl⟩,⟨pa,pn,pc,rfl⟩⟩:=O2.zS;have bA:=AD w2 (.cells #[.slice ma mn mc, .slice ia iN ic, .slice ea en ec, .slice qa qn qc, .slice sa sn sc, .slice la ln lc, .slice pa pn pc, .int .i64 Q.zT, .int .i64 Q.zW] 32);have I3:=Gg.start O2 b2.size;have bg:=a9.out.trans ((b2.trans (bA.mono b2.size)).mono a9.out.size);have am:=AA I3;have N3:=AA (AC bo.out bg);have ar:=AA (aq.out.trans (bg.mono aq.out.size));have ba:=AA (yD aq.out.size a9.out.size);have bX:=AA (yD b2.size bA.size);clear O2 bA I3 bg b2 x0 x1 x2 x3 x4 x5 x6 x7 x8 al cJ;cases bb
 focus
  have e:=cu.out rfl
  obtain rfl:=ct.out rfl;subst e;clear cu bd ct HC;have S5:=DD N3.out (am.out.own.lower ba.out);obtain⟨c0,c1,c2,c3,c4,c5,c6,c7,c8⟩:=am.out.cells;obtain⟨a0,a1,a2,a3,a4,a5,a6,a7,a8⟩:=AE N3.out;have f5:=AK N3.out;have cw:=AA S5;clear S5;go_wp2_with fail;obtain⟨N6,O6,ao⟩:=cw.out;have B6:=AM ar.out ao (by omega) ar.out.size
 rotate_left
 focus
  have e:=bd.out rfl
  subst e;have C3:=AA (HC.out _ _ _ _ _ am.out.own.ker.rd);obtain⟨c0,c1,c2,c3,c4,c5,c6,c7,c8⟩:=am.out.cells;clear bd cu ct HC;go_wp2_with fail;generalize hg3:w2.heap.size=g3 at*;generalize w2.alloc _=W3 at*;refine C3.out.mono ?_;rintro r w4 ⟨m4,i4,e4,dq,rfl,O4,b4⟩;obtain⟨⟨br,bp,bq,rfl⟩,⟨bx,bz,bw,rfl⟩,⟨bW,bK,bV,rfl⟩,⟨bv,bt,bu,rfl⟩⟩:=O4.zS;have bA:=AD w4 (.cells #[.slice br bp bq, .slice bx bz bw, .slice bW bK bV, .slice bv bt bu] 28);have au:=b4.trans (bA.mono b4.size);have I4:=am.out.below au;have I5:=am.out.put au (yv _) bX.out (O4.below bA);have G5:=Ao (w4.alloc (.cells #[.slice br bp bq, .slice bx bz bw, .slice bW bK bV, .slice bv bt bu] 28)) g3 (.slice br bp bq) (.slice bx bz bw) (.slice bW bK bV) (.slice bv bt bu);have N4:=AC N3.out au;have ng:g3≠w.heap.size+1:=fun e=>by have h1:=am.out.yL;have h2:=AY bo.out;have h3:=a9.out.size;omega
  have N5:=Ap N4 G5 ng;have B5:=AM (ar.out.trans (au.mono ar.out.size)) G5 (yD ba.out am.out.yL) (yD ar.out.size au.size);obtain⟨d0,d1,d2,d3,_⟩:=I4.cells;have fd:=AK I4.yM;generalize hW5:((((w4.alloc _).setCell _ _).setCell _ _).setCell _ _).setCell _ _=W5 at I5 G5 N5 B5;have S6:=DD N5 (I5.own.lower ba.out);obtain⟨y0,y1,y2,y3,y4,y5,y6,y7,y8⟩:=I5.cells;obtain⟨a0,a1,a2,a3,a4,a5,a6,a7,a8⟩:=AE N5;have f5:=AK N5;have cI:=AA S6;have bY:=AA B5;clear S6 b4 bA au O4 I4 I5 G5 N4 N5 B5 C3 c0 c1 c2 c3 c4 c5 c6 c7 c8;go_wp2_with fail;obtain⟨N6,O6,ao⟩:=cI.out;have B6:=AM bY.out ao (by omega) bY.out.size
 rotate_left
 all_goals
  unfold Er at N6 O6 B6;exact yp (v:= .tuple #[.agg #[_,_,_,_,_,_,_,_,_],_]) (by simp[results,Tryz.results102,go_sem,AE N6]) rfl ⟨_,_,_,_,_,_,_,rfl,O6,B6⟩
theorem Su (mv iv ev cv sv lv qv:Value) (P:AR) (call:Ab) (w:World) (h:Lr w mv iv ev cv sv lv qv P) (hP:EC P) (he:0<=call.e/\call.e<3) (di:call.nm.size<=maxLen) (dj:call.c<=9223372036854775807):
 Calls prog 105 #[AQ mv iv ev cv sv lv qv P.zT P.zW, .agg call.cs] w (Tj w (Nb P call)):=by
 unfold AQ Tj Nb AQ;have CC:=AA (fun W (hR:MM W mv iv ev cv P.zX)=>Kz hR hP.k call he di dj);unfold M8 at CC;generalize Ad P.zX call=res at CC ⊢;obtain⟨kr,vr,nr⟩:=res;obtain⟨ck,ce,ca,cb,cc,nm⟩:=call;simp only[Ab.cs] at CC ⊢
 try dsimp only at CC ⊢
 obtain⟨N0,NC,N1,ax,be⟩:=KW w (.cells #[mv,iv,ev,cv,sv,lv,qv, .int .i64 P.zT, .int .i64 P.zW] 32) (.cells #[.int .i64 ck, .int .i64 ce, .int .i64 ca, .int .i64 cb, .int .i64 cc, .string nm] 79) (.cells #[.slice none 0 0, .slice none 0 0, .slice none 0 0, .slice none 0 0, .slice none 0 0, .slice none 0 0, .slice none 0 0, .int .i64 0, .int .i64 0] 32);have h0:=h.below ax;have CO:=AA (K5 mv iv ev cv sv lv qv P _ h0 hP);unfold OX AQ at CO;have eq:=AA h0.1;obtain⟨x0,x1,x2,x3,x4,x5,x6,x7,x8⟩:=AE N0;have cM:=AA be;clear be h h0 he di dj hP;go_in;go_wp2_with fail;generalize((w.alloc _).alloc _).alloc _=W0 at*;have aq:=AA ax;have cl:=AA N0;have es:=AA NC;have bo:=AA N1;clear ax N0 NC N1 x0 x1 x2 x3 x4 x5 x6 x7 x8;refine CO.out.mono ?_;rintro r w2 ⟨m2,i2,e2,c2,s2,l2,q2,rfl,O2,b2⟩;obtain⟨⟨⟨ma,mn,mc,rfl⟩,⟨ia,iN,ic,rfl⟩,⟨ea,en,ec,rfl⟩,⟨qa,qn,qc,rfl⟩⟩,⟨sa,sn,sc,rfl⟩,⟨la,ln,lc,rfl⟩,⟨pa,pn,pc,rfl⟩⟩:=O2.zS;have bA:=AD w2 (.cells #[.slice ma mn mc, .slice ia iN ic, .slice ea en ec, .slice qa qn qc, .slice sa sn sc, .slice la ln lc, .slice pa pn pc, .int .i64 P.zT, .int .i64 P.zW] 32);have I3:=Gg.start O2 b2.size;have bg:=b2.trans (bA.mono b2.size);obtain⟨x0,x1,x2,x3,_⟩:=AE (AC cl.out bg);obtain⟨k0,k1,k2,k3,k4,k5⟩:=JK (AC es.out bg);have am:=AA I3;have N3:=AA (AC bo.out bg);have ar:=AA (aq.out.trans (bg.mono aq.out.size));have bX:=AA (yD b2.size bA.size);have dx:=AA (CC.out _ (eq.out.below bg));clear O2 bA I3 bg b2 CO CC;go_wp2_with fail;generalize hg3:w2.heap.size=g3 at*;generalize w2.alloc _=W3 at*;refine dx.out.mono ?_;rintro r w4 ⟨m4,i4,e4,dq,rfl,O4,b4⟩;obtain⟨⟨br,bp,bq,rfl⟩,⟨bx,bz,bw,rfl⟩,⟨bW,bK,bV,rfl⟩,⟨bv,bt,bu,rfl⟩⟩:=O4.zS;have bA:=AD w4 (.cells #[.slice br bp bq, .slice bx bz bw, .slice bW bK bV, .slice bv bt bu] 28);have au:=b4.trans (bA.mono b4.size);have I4:=am.out.below au;have I5:=am.out.put au (yv _) bX.out (O4.below bA);have G5:=Ao (w4.alloc (.cells #[.slice br bp bq, .slice bx bz bw, .slice bW bK bV, .slice bv bt bu] 28)) g3 (.slice br bp bq) (.slice bx bz bw) (.slice bW bK bV) (.slice bv bt bu);have N4:=AC N3.out au;have ng:g3≠w.heap.size+1+1:=fun e=>by have h1:=am.out.yL;have h2:=AY bo.out;omega
 have N5:=Ap N4 G5 ng;have B5:=AM (ar.out.trans (au.mono ar.out.size)) G5 (yD aq.out.size am.out.yL) (yD ar.out.size au.size);obtain⟨d0,d1,d2,d3,_⟩:=I4.cells;have fd:=AK I4.yM;generalize hW5:((((w4.alloc _).setCell _ _).setCell _ _).setCell _ _).setCell _ _=W5 at I5 G5 N5 B5;have S6:=DD N5 (I5.own.lower aq.out.size);obtain⟨y0,y1,y2,y3,y4,y5,y6,y7,y8⟩:=I5.cells;obtain⟨a0,a1,a2,a3,a4,a5,a6,a7,a8⟩:=AE N5;have f5:=AK N5;have cI:=AA S6;have bY:=AA B5;clear S6 b4 bA au O4 I4 I5 G5 N4 N5 B5 dx x0 x1 x2 x3 k0 k1 k2 k3 k4 k5;go_wp2_with fail;obtain⟨N6,O6,ao⟩:=cI.out;have B6:=AM bY.out ao (by omega) bY.out.size;unfold Er at N6 O6 B6;exact yp (v:= .tuple #[.agg #[_,_,_,_,_,_,_,_,_],_]) (by simp[results,Tryz.results105,go_sem,AE N6]) rfl ⟨_,_,_,_,_,_,_,rfl,O6,B6⟩
end Go.Proofs.YtinbcpipjfljeaaGreatDoor
