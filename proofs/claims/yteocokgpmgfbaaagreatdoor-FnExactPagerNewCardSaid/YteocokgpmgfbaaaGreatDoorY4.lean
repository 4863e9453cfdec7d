/-
  Packed:11 texts.
-/
import Derived.Test.YteocokgpmgfbaaaGreatDoorY3
import Derived.Test.YteocokgpmgfbaaaGreatDoorY1
import Derived.Test.YteocokgpmgfbaaaGreatDoorY2
import Derived.Lib.QuietBelow
set_option linter.unusedVariables false
set_option maxHeartbeats 16000000
set_option maxRecDepth 100000
namespace Go.Proofs.YteocokgpmgfbaaaGreatDoor
open Go.Proofs.Tryz
open Go.RowKit
theorem Sx {α:Type} {cs:α→List Value} {sz:Nat} (hs:∀x,(cs x).length=sz) {xs:List α} {k j:Nat} {x y:α} {u:Value} (hk:xs[k]? =some x) (hj:j<sz) (hy:cs y=(cs x).set j u):
 (Bf cs xs).set (k*sz+j) u=Bf cs (xs.set k y):=by
 have h1:=Pv hs (List.getElem?_eq_some_iff.1 hk).1 y;rw[←h1];refine List.ext_getElem? fun i=>?_
 obtain⟨hlt,hx⟩:=List.getElem?_eq_some_iff.1 hk;have hb:k*sz+sz≤xs.length*sz:=by rw[←Nat.succ_mul];exact Nat.mul_le_mul_right _ hlt
 rw[h1,List.getElem?_set,F8 hs]
 by_cases hi:i<xs.length*sz
 ·have hz:0<sz:=by omega
  have hkd:i/sz<xs.length:=Nat.div_lt_of_lt_mul (by rw[Nat.mul_comm];exact hi);have hmod:=Nat.mod_lt i hz;have hdm:i/sz*sz+i%sz=i:=by rw[Nat.mul_comm];exact Nat.div_add_mod i sz
  have ha:(Bf cs xs)[i]? =(cs xs[i/sz])[i%sz]? :=by have:=Ll hs (List.getElem?_eq_getElem hkd) hmod;rw[hdm] at this;exact this
  have hb':(Bf cs (xs.set k y))[i]? =(cs ((xs.set k y)[i/sz]'(by rw[List.length_set];exact hkd)))[i%sz]? :=by have:=Ll hs (List.getElem?_eq_getElem (l:=xs.set k y) (i:=i/sz) (by rw[List.length_set];exact hkd)) hmod;rw[hdm] at this;exact this
  rw[ha,hb',List.getElem_set]
  by_cases e:k=i/sz
  ·subst e
   rw[if_pos rfl,hy,List.getElem?_set,hx,hs]
   by_cases e2:j=i%sz
   ·subst e2;rw[if_pos hdm,if_pos (by omega),if_pos rfl,if_pos hmod]
   ·rw[if_neg (by omega),if_neg e2]
  ·rw[if_neg e]
   have:¬k*sz+j=i:=by intro h;apply e;rw[←h,Nat.mul_comm,Nat.mul_add_div hz,Nat.div_eq_of_lt hj,Nat.add_zero]
   rw[if_neg this]
 ·rw[List.getElem?_eq_none (by rw[F8 hs];omega),List.getElem?_eq_none (by rw[F8 hs,List.length_set];omega),if_neg (by omega)]
section
variable {α:Type} {lo e sz:Nat} {cs:α→List Value} {w:World} {g cap k j:Nat} {xs:List α}
theorem AC.stored1 (hs:∀x,(cs x).length=sz) (h:AC lo e sz cs w (.slice (some ⟨g,0,none⟩) xs.length cap) xs) {x y:α} {u:Value} (hk:xs[k]? =some x) (hj:j<sz) (hy:cs y=(cs x).set j u):
 AC lo e sz cs (w.setCell ⟨g,k*sz+j,none⟩ u) (.slice (some ⟨g,0,none⟩) xs.length cap) (xs.set k y)∧w.grownBy (w.setCell ⟨g,k*sz+j,none⟩ u) (some g):=by
 obtain⟨h1,h2⟩:=World.ownsRow.stored h (k*sz+j) u;rw[Sx hs hk hj hy] at h1;refine⟨?_,h2⟩;unfold AC;rw[List.length_set];exact h1
end
theorem Br {l:List AL} {k:Nat} (h:k<l.length):l[k]? =some (infoAt l k):=by simp[infoAt,h]
theorem FH {l:List AL} {k:Nat} {f:AL→AL}:AR l k f=l.set k (f (infoAt l k)):=IF
theorem Rk {infos:List AL} {r:List Int} {n:Int} {j:Nat} (hj:j<r.length):
 Av infos (named (r.take (j+1))) n=if BV (r.getD j 0) then AR (Av infos (named (r.take j)) n) (A1 (r.getD j 0)) (DD n) else Av infos (named (r.take j)) n:=by
 rw[J5 hj];unfold Av;rw[List.foldl_append]
 split<;>simp
theorem Hy {s:ByteArray} (h:Az s=true):s.size≤4:=by unfold Az at h;simp only[Bool.and_eq_true,decide_eq_true_eq] at h;exact h.2
theorem FR {x:AL} (h:Cb x=true):x.g.size≤maxLen∧0≤x.r∧x.r≤50:=by
 unfold Cb at h;simp only[Bool.or_eq_true,decide_eq_true_eq,Bool.and_eq_true,Ac] at h
 rcases h with rfl|⟨⟨_,h1⟩,h2⟩
 ·exact⟨by simp[AL.zero,ByteArray.size],by simp[AL.zero],by simp[AL.zero]⟩
 ·exact⟨Nat.le_trans (Hy h1) (by decide),h2.1,h2.2⟩
theorem OH {l:List AL} (h:∀f,f<l.length→(infoAt l f).g.size≤maxLen):Hj l:=by intro x hx;obtain⟨i,hi,rfl⟩:=List.getElem_of_mem hx;have:=h i hi;simpa[infoAt,hi] using this
theorem Be {l:List AL} (h:A3 l=true):Hj l:=OH fun f hf=>(FR ((Au.1 h).2 f (by have:=(Au.1 h).1;omega))).1
theorem G8 {infos:List AL} (h:A3 infos=true) {fs:List Nat} (hfs:fs.length≤4) {n:Int} (hn:n=1∨n= -1) {g:Nat} (hg:g<12):
 -4≤(infoAt (Av infos fs n) g).r∧(infoAt (Av infos fs n) g).r≤54∧(infoAt (Av infos fs n) g).g.size≤maxLen:=by
 obtain⟨hl,h2⟩:=Au.1 h;obtain⟨a,b,c⟩:=FR (h2 g hg);rw[Mn (by omega)];have:=List.count_le_length (a:=g) (l:=fs);refine⟨?_,?_,a⟩
 ·show -4≤_+n*_
  rcases hn with rfl|rfl<;>omega
 ·show _+n*_≤54
  rcases hn with rfl|rfl<;>omega
theorem OD (v iv:Value) (m:List (List Int)) (infos:List AL) (f:Nat) (n:Int) (w:World) (h:BI w v m) (hok:Bq m=true) (hI:BH w iv infos) (hio:A3 infos=true) (hf:f<12) (hn:n=1∨n= -1):
 Calls prog 159 #[v,iv, .int .i64 f, .int .i64 n] w fun e w'=>∃v',e= .returned v'∧AC w.heap.size 91 3 AX w' v' (Av infos (named (AK m f)) n)∧Below w.heap.size w w':=by
 obtain⟨q,c,rfl,hc,hcm,H0⟩:=h.open;have hl:=(Au.1 hio).1;have hml:=(Af.1 hok).1;have CC:=AA (Eb iv infos w hI (by omega));obtain⟨ai,ci,rfl,_,_⟩:=hI.shape;have Hok:=AA hok;have Hio:=AA hio;have Hn:=AA hn;have hnb: -1≤n∧n≤1:=by omega
 obtain⟨bm,offm,br,offr,cr,rfl,hbm,M0,hbr,hcr,W0⟩:=H0.row4 hok hf;have HW:=AA W0;have hrl:=AA (BZ.1 ((Af.1 hok).2 _ hf)).1;have fm:(f:Int)<m.length:=by omega
 have Hl:=AA hl;clear h hok H0 W0 hI hio hn hml hl;go_in;go_wp2_with fail;refine(CC.out).mono ?_;rintro e w1 ⟨v',rfl,hO,hb1⟩;obtain⟨g,cap,rfl,c1,c2,q1,q2,hfz⟩:=hO.shapeOwn (by have:=Hl.out;omega);unfold maxLen at c2;have M:=(hb1.cell (p:=⟨bm,offm+f,none⟩) hbm).trans M0;have HB1:=AA hb1;have HO:=AA hO;clear hO hb1 M0 hfz;go_wp2_with fail;clear M;go_loopw [22] (fun i wr=>∃j:Nat,j≤4∧i= .int .i64 j∧AC w.heap.size 91 3 AX wr (.slice (some ⟨g,0,none⟩) infos.length cap) (Av infos (named ((AK m f).take j)) n)∧Below w.heap.size w wr) (fun i _=>4 - (intOf i).toNat)
 case atStart=>exact⟨0,Nat.zero_le _,rfl,by simpa[named,Av] using HO.out,HB1.out⟩
 case round=>
  obtain⟨j,hj,rfl,hO,hbi⟩:=hrel
  by_cases hjl:j<4
  ·have W:=(hbi.cell (p:=⟨br,offr+j,none⟩) hbr).trans (HW.out j hjl)
   have wb:=FO Hok.out hf hjl;have CE:=AA (fun W=>EI (Ar m f j) W (by omega));have RT:=Rk (infos:=infos) (n:=n) (r:=AK m f) (j:=j) (by rw[hrl.out];exact hjl);rw[show(AK m f).getD j 0=Ar m f j from rfl] at RT;cases hg:BV (Ar m f j)
   ·have V:=AA (Dh hg)
    rw[hg] at RT;have E:=AA RT;have HOi:=AA hO;clear hg RT hO;go_wp2_with (go_at_call 160;refine(CE.out _).mono ?_;rintro e w' ⟨rfl,rfl⟩;rw[V.out]);go_roundw
    case rel=>exact⟨j+1,by omega,by go_num,by rw[E.out];exact HOi.out,hbi⟩
    case measure=>simp[intOf];omega
   ·have V:=AA (Dd hg)
    have hF:=Dg hg;rw[hg,if_pos rfl] at RT;have hfs:(named ((AK m f).take j)).length≤4:=by have:=FM (r:=(AK m f).take j);rw[List.length_take] at this;omega
    obtain⟨r1,r2,_⟩:=G8 Hio.out hfs Hn.out hF;have hlr:(Av infos (named ((AK m f).take j)) n).length=infos.length:=Gf;rw[←hlr] at hO;generalize hX:Av infos (named ((AK m f).take j)) n=X at*;generalize A1 (Ar m f j)=o at*;have hoX:o<X.length:=by rw[hlr,Hl.out];exact hF
    have hoi:(o:Int)<infos.length:=by rw[Hl.out];omega
    have hoi2:((o:Nat):Int)≤infos.length:=by omega
    rw[FH] at RT;obtain⟨_,_,d2⟩:=AC.infoCells hO hoX;have d2:=d2;have Fr:=World.ownsRow.frozenAt hO (o*3+2);have S2:=AA (AC.stored1 Ak hO (Br hoX) (j:=2) (by decide) (y:=DD n (infoAt X o)) (u:= .int .i64 ((infoAt X o).r+n)) rfl);rw[hlr] at S2;have E:=AA RT;have Hlr:=AA hlr;clear hg RT hO hlr hX;go_wp2_with (go_at_call 160;refine(CE.out _).mono ?_;rintro e w' ⟨rfl,rfl⟩;rw[V.out]);go_roundw
    case rel=>exact⟨j+1,by omega,by go_num,by rw[E.out];exact S2.out.1,AN hbi S2.out.2 q1 hbi.size⟩
    case measure=>simp[intOf];omega
  ·obtain rfl:j=4:=by omega
   rw[List.take_of_length_le (Nat.le_of_eq hrl.out)] at hO;go_wp2_with fail;go_ret;exact⟨_,rfl,hO,hbi⟩
theorem PL {m:List (List Int)} {infos:List AL} {f:Nat} {kind:Int} {ss:List ByteArray}:Et m infos f kind ss=
 if(infoAt infos f).k≠1∨(infoAt infos f).r≠0 then(infos,1)
 else if Gp m infos f kind ss=false then(infos,2)
 else if A3 (AR (Av infos (named (AK m f)) 1) f (Co kind)) then(AR (Av infos (named (AK m f)) 1) f (Co kind),0) else(infos,1):=rfl
theorem Kf {m:List (List Int)} {infos:List AL} {f:Nat}:Cq m infos f=
 if Bg (infoAt infos f).k=false∨(infoAt infos f).r≠0 then(infos,1)
 else if A3 (AR (Av infos (named (AK m f)) (-1)) f (Co 1)) then(AR (Av infos (named (AK m f)) (-1)) f (Co 1),0) else(infos,2):=rfl
theorem PF {m:List (List Int)} (h:Bq m=true) {f:Nat} (hf:f<12):(named (AK m f)).length≤4:=by have h1:=FM (r:=AK m f);have h2:=(BZ.1 ((Af.1 h).2 f hf)).1;omega
theorem JZ {m:List (List Int)} {infos:List AL} {f:Nat} {kind n:Int} (hm:Bq m=true) (h:A3 infos=true) (hf:f<12) (hn:n=1∨n= -1):Hj (AR (Av infos (named (AK m f)) n) f (Co kind)):=by
 refine OH fun g hg=>?_
 rw[As,Gf,(Au.1 h).1] at hg;have h1:=(G8 h (PF hm hf) hn hg).2.2;rw[EM]
 split
 ·exact(G8 h (PF hm hf) hn hf).2.2
 ·exact h1
def Jv (r:List AL×Int) (w:World) (e:Ending) (w':World):Prop:=∃v',e= .returned (.tuple #[v', .int .i64 r.2])∧AC w.heap.size 91 3 AX w' v' r.1∧Below w.heap.size w w'
theorem OZ (v iv rv:Value) (m:List (List Int)) (infos:List AL) (f:Nat) (kind:Int) (ss:List ByteArray) (w:World) (h:BI w v m) (hok:Bq m=true) (hI:BH w iv infos) (hio:A3 infos=true) (hf:f<12) (hk:Bg kind=true) (hv:BG w rv ss) (hss:Dr ss) (hr:Ax ss=true):
 Calls prog 124 #[v,iv, .int .i64 f, .int .i64 kind,rv] w (Jv (Et m infos f kind ss) w):=by
 have hl:=(Au.1 hio).1;have C1:=AA (fun W (hW:Below w.heap.size w W)=>by have:=H7 v m W (h.below hW);rw[hok] at this;exact this);have C2:=AA (fun W (hW:Below w.heap.size w W)=>by have:=Cx iv infos W (A6.below hI hW) (Be hio);rw[hio] at this;exact this);have C3:=AA (fun W (_:Below w.heap.size w W)=>Ab (by have:=Bc (f:Int) W;rw[show Bv (f:Int) 0 11=true from Ac.2 (by omega)] at this;exact this));have C4:=AA (fun W (_:Below w.heap.size w W)=>Ab (by have:=CV kind W;rw[hk] at this;exact this));have C5:=AA (fun W (hW:Below w.heap.size w W)=>by have:=Ep rv ss W (A6.below hv hW) hss;rw[hr] at this;exact this);have C6:=AA (fun W (hW:Below w.heap.size w W)=>Eb iv infos W (A6.below hI hW) (by omega));have C7:=AA (fun W (hW:Below w.heap.size w W)=>UI v iv rv m infos f kind ss W (h.below hW) hok (A6.below hI hW) hl hf hk (A6.below hv hW));have C8:=AA (fun W (hW:Below w.heap.size w W)=>OD v iv m infos f 1 W (h.below hW) hok (A6.below hI hW) hio hf (.inl rfl));have SM:=AA (JZ (kind:=kind) hok hio hf (.inl (rfl:(1:Int)=1)));obtain⟨ai,ci,rfl,hci,hcim,H2⟩:=A6.open Ak (by decide) hI;obtain⟨bi,offi,rfl,hbi,D0,_,D2⟩:=H2.infoCells (show f<infos.length by omega);have hfl:(f:Int)<infos.length:=by omega
 have Hl:=AA hl;have hb:=Below.refl w.heap.size w;clear h hok hI hio hk hv hss hr hl H2;go_in;go_wp2_with fail;refine(C1.out _ hb).mono ?_;rintro e w_ ⟨rfl,hb_⟩;replace hb:=hb.trans (hb_.mono hb.size);clear hb_;go_wp2_with fail;refine(C2.out _ hb).mono ?_;rintro e w_ ⟨rfl,hb_⟩;replace hb:=hb.trans (hb_.mono hb.size);clear hb_;go_wp2_with fail;refine(C3.out _ hb).mono ?_;rintro e w_ ⟨rfl,hb_⟩;replace hb:=hb.trans (hb_.mono hb.size);clear hb_;go_wp2_with fail;refine(C4.out _ hb).mono ?_;rintro e w_ ⟨rfl,hb_⟩;replace hb:=hb.trans (hb_.mono hb.size);clear hb_;go_wp2_with fail;refine(C5.out _ hb).mono ?_;rintro e w_ ⟨rfl,hb_⟩;replace hb:=hb.trans (hb_.mono hb.size);clear hb_;replace D0:=(hb.cell (p:=⟨bi,offi+f*3,none⟩) hbi).trans D0;replace D2:=(hb.cell (p:=⟨bi,offi+f*3+2,none⟩) hbi).trans D2
 by_cases e1:(infoAt infos f).k=1
 ·by_cases e2:(infoAt infos f).r=0
  ·have t1:((infoAt infos f).k !=1)=false:=by simp[e1]
   have t2:((infoAt infos f).r !=0)=false:=by simp[e2]
   have P:=AA (show Et m infos f kind ss=if Gp m infos f kind ss=false then(infos,2)
    else if A3 (AR (Av infos (named (AK m f)) 1) f (Co kind)) then(AR (Av infos (named (AK m f)) 1) f (Co kind),0) else(infos,1) by rw[PL,if_neg (by simp[e1,e2])])
   clear e1 e2;cases hg:Gp m infos f kind ss
   ·have P2:=AA (show Et m infos f kind ss=(infos,2) by rw[P.out,hg];rfl)
    have G:=AA hg;clear hg;go_wp2_with fail;refine(C7.out _ hb).mono ?_;rintro e w_ ⟨rfl,hb_⟩;rw[G.out];replace hb:=hb.trans (hb_.mono hb.size);clear hb_;go_wp2_with fail;refine(C6.out _ hb).mono ?_;rintro e w2 ⟨v',rfl,hO,hb2⟩;go_wp2_with fail;go_ret2;exact⟨v',by rw[P2.out];rfl,by rw[P2.out];exact hO.lower hb.size,hb.trans (hb2.mono hb.size)⟩
   ·have G:=AA hg
    have P2:=AA (show Et m infos f kind ss=if A3 (AR (Av infos (named (AK m f)) 1) f (Co kind)) then(AR (Av infos (named (AK m f)) 1) f (Co kind),0) else(infos,1) by rw[P.out,hg];rfl);clear hg;go_wp2_with fail;refine(C7.out _ hb).mono ?_;rintro e w_ ⟨rfl,hb_⟩;rw[G.out];replace hb:=hb.trans (hb_.mono hb.size);clear hb_;clear D0 D2;go_wp2_with fail;refine(C8.out _ hb).mono ?_;rintro e w2 ⟨v',rfl,hO,hb2⟩;have hlr:(Av infos (named (AK m f)) 1).length=infos.length:=Gf;rw[FH] at P2 SM;generalize Av infos (named (AK m f)) 1=X at*;have hfX:f<X.length:=by rw[hlr,Hl.out];exact hf
    obtain⟨g,cap,rfl,c1,c2,q1,q2,hfz⟩:=hO.shapeOwn (by omega);unfold maxLen at c2;have q3:=Nat.le_trans hb.size q1;have S0:=AC.stored1 Ak hO (Br hfX) (j:=0) (by decide) (y:=Co kind (infoAt X f)) (u:= .int .i64 kind) rfl;rw[Nat.add_zero] at S0;have S:=AA S0;clear S0;obtain⟨d0,_,_⟩:=AC.infoCells hO hfX;have Fr:=hfz (f*3);have hbX:=AN (hb.trans (hb2.mono hb.size)) S.out.2 q3 (Nat.le_trans hb.size hb2.size);have hfi:(f:Int)<X.length:=by omega
    have hOl:=AA (S.out.1.lower hb.size);clear hO hb2 hb hlr;go_wp2_with fail;generalize hw3:w2.setCell _ _=w3 at*;clear d0 Fr hfz hw3;have hXl:(X.set f (Co kind (infoAt X f))).length=X.length:=List.length_set ..;have C9:=Cx (.slice (some ⟨g,0,none⟩) X.length cap) (X.set f (Co kind (infoAt X f))) w3 hOl.out.rd SM.out;cases hq:A3 (X.set f (Co kind (infoAt X f)))
    ·have P3:=AA (show Et m infos f kind ss=(infos,1) by rw[P2.out,hq];rfl)
     rw[hq] at C9;have C:=AA C9;clear C9 hq hXl;refine(C.out).mono ?_;rintro e w4 ⟨rfl,hb4⟩;have hb:=hbX.trans (hb4.mono hbX.size);go_wp2_with fail;refine(C6.out _ hb).mono ?_;rintro e w2 ⟨v',rfl,hO,hb2⟩;go_wp2_with fail;go_ret2;exact⟨v',by rw[P3.out];rfl,by rw[P3.out];exact hO.lower hb.size,hb.trans (hb2.mono hb.size)⟩
    ·have P3:=AA (show Et m infos f kind ss=(X.set f (Co kind (infoAt X f)),0) by rw[P2.out,hq];rfl)
     rw[hq] at C9;have C:=AA C9;clear C9 hq hXl;refine(C.out).mono ?_;rintro e w4 ⟨rfl,hb4⟩;have hb:=hbX.trans (hb4.mono hbX.size);have hO4:=AA (hOl.out.below hb4);go_wp2_with fail;go_ret2;exact⟨_,by rw[P3.out];rfl,by rw[P3.out];exact hO4.out,hb⟩
  ·have t1:((infoAt infos f).k !=1)=false:=by simp[e1]
   have t2:((infoAt infos f).r !=0)=true:=by simp[e2]
   have P2:=AA (show Et m infos f kind ss=(infos,1) by rw[PL,if_pos (.inr e2)]);clear e1 e2;go_wp2_with fail;refine(C6.out _ hb).mono ?_;rintro e w2 ⟨v',rfl,hO,hb2⟩;go_wp2_with fail;go_ret2;exact⟨v',by rw[P2.out];rfl,by rw[P2.out];exact hO.lower hb.size,hb.trans (hb2.mono hb.size)⟩
 ·have t1:((infoAt infos f).k !=1)=true:=by simp[e1]
  have P2:=AA (show Et m infos f kind ss=(infos,1) by rw[PL,if_pos (.inl e1)]);clear e1 D2;go_wp2_with fail;refine(C6.out _ hb).mono ?_;rintro e w2 ⟨v',rfl,hO,hb2⟩;go_wp2_with fail;go_ret2;exact⟨v',by rw[P2.out];rfl,by rw[P2.out];exact hO.lower hb.size,hb.trans (hb2.mono hb.size)⟩
theorem MA (v iv:Value) (m:List (List Int)) (infos:List AL) (f:Nat) (w:World) (h:BI w v m) (hok:Bq m=true) (hI:BH w iv infos) (hio:A3 infos=true) (hf:f<12):
 Calls prog 126 #[v,iv, .int .i64 f] w (Jv (Cq m infos f) w):=by
 have hl:=(Au.1 hio).1;have C1:=AA (fun W (hW:Below w.heap.size w W)=>by have:=H7 v m W (h.below hW);rw[hok] at this;exact this);have C2:=AA (fun W (hW:Below w.heap.size w W)=>by have:=Cx iv infos W (A6.below hI hW) (Be hio);rw[hio] at this;exact this);have C3:=AA (fun W (_:Below w.heap.size w W)=>Ab (by have:=Bc (f:Int) W;rw[show Bv (f:Int) 0 11=true from Ac.2 (by omega)] at this;exact this));have C4:=AA (fun W (_:Below w.heap.size w W)=>Ab (CV (infoAt infos f).k W));have C6:=AA (fun W (hW:Below w.heap.size w W)=>Eb iv infos W (A6.below hI hW) (by omega));have C8:=AA (fun W (hW:Below w.heap.size w W)=>OD v iv m infos f (-1) W (h.below hW) hok (A6.below hI hW) hio hf (.inr rfl));have SM:=AA (JZ (kind:=1) hok hio hf (.inr (rfl:(-1:Int)= -1)));obtain⟨ai,ci,rfl,hci,hcim,H2⟩:=A6.open Ak (by decide) hI;obtain⟨bi,offi,rfl,hbi,D0,_,D2⟩:=H2.infoCells (show f<infos.length by omega);have hfl:(f:Int)<infos.length:=by omega
 have Hl:=AA hl;have hb:=Below.refl w.heap.size w;clear h hok hI hio hl H2;go_in;go_wp2_with fail;refine(C1.out _ hb).mono ?_;rintro e w_ ⟨rfl,hb_⟩;replace hb:=hb.trans (hb_.mono hb.size);clear hb_;go_wp2_with fail;refine(C2.out _ hb).mono ?_;rintro e w_ ⟨rfl,hb_⟩;replace hb:=hb.trans (hb_.mono hb.size);clear hb_;go_wp2_with fail;refine(C3.out _ hb).mono ?_;rintro e w_ ⟨rfl,hb_⟩;replace hb:=hb.trans (hb_.mono hb.size);clear hb_;replace D0:=(hb.cell (p:=⟨bi,offi+f*3,none⟩) hbi).trans D0;have D2':=D2;replace D2:=(hb.cell (p:=⟨bi,offi+f*3+2,none⟩) hbi).trans D2;cases e1:Bg (infoAt infos f).k
 ·have P2:=AA (show Cq m infos f=(infos,1) by rw[Kf,if_pos (.inl e1)])
  have T:=AA e1;clear e1 D2;go_wp2_with fail;refine(C4.out _ hb).mono ?_;rintro e w_ ⟨rfl,hb_⟩;rw[T.out];replace hb:=hb.trans (hb_.mono hb.size);clear hb_;go_wp2_with fail;refine(C6.out _ hb).mono ?_;rintro e w2 ⟨v',rfl,hO,hb2⟩;go_wp2_with fail;go_ret2;exact⟨v',by rw[P2.out];rfl,by rw[P2.out];exact hO.lower hb.size,hb.trans (hb2.mono hb.size)⟩
 ·have T:=AA e1
  by_cases e2:(infoAt infos f).r=0
  ·have t2:((infoAt infos f).r !=0)=false:=by simp[e2]
   have P2:=AA (show Cq m infos f=if A3 (AR (Av infos (named (AK m f)) (-1)) f (Co 1)) then(AR (Av infos (named (AK m f)) (-1)) f (Co 1),0) else(infos,2) by rw[Kf,if_neg (by simp[e1,e2])]);clear e1 e2;go_wp2_with fail;refine(C4.out _ hb).mono ?_;rintro e w_ ⟨rfl,hb_⟩;rw[T.out];replace hb:=hb.trans (hb_.mono hb.size);clear hb_;replace D2:=(hb.cell (p:=⟨bi,offi+f*3+2,none⟩) hbi).trans D2';go_wp2_with fail;clear D0 D2;refine(C8.out _ hb).mono ?_;rintro e w2 ⟨v',rfl,hO,hb2⟩;have hlr:(Av infos (named (AK m f)) (-1)).length=infos.length:=Gf;rw[FH] at P2 SM;generalize Av infos (named (AK m f)) (-1)=X at*;have hfX:f<X.length:=by rw[hlr,Hl.out];exact hf
   obtain⟨g,cap,rfl,c1,c2,q1,q2,hfz⟩:=hO.shapeOwn (by omega);unfold maxLen at c2;have q3:=Nat.le_trans hb.size q1;have S0:=AC.stored1 Ak hO (Br hfX) (j:=0) (by decide) (y:=Co 1 (infoAt X f)) (u:= .int .i64 1) rfl;rw[Nat.add_zero] at S0;have S:=AA S0;clear S0;obtain⟨d0,_,_⟩:=AC.infoCells hO hfX;have Fr:=hfz (f*3);have hbX:=AN (hb.trans (hb2.mono hb.size)) S.out.2 q3 (Nat.le_trans hb.size hb2.size);have hfi:(f:Int)<X.length:=by omega
   have hOl:=AA (S.out.1.lower hb.size);clear hO hb2 hb hlr;go_wp2_with fail;generalize hw3:w2.setCell _ _=w3 at*;clear d0 Fr hfz hw3;have hXl:(X.set f (Co 1 (infoAt X f))).length=X.length:=List.length_set ..;have C9:=Cx (.slice (some ⟨g,0,none⟩) X.length cap) (X.set f (Co 1 (infoAt X f))) w3 hOl.out.rd SM.out;cases hq:A3 (X.set f (Co 1 (infoAt X f)))
   ·have P3:=AA (show Cq m infos f=(infos,2) by rw[P2.out,hq];rfl)
    rw[hq] at C9;have C:=AA C9;clear C9 hq hXl;refine(C.out).mono ?_;rintro e w4 ⟨rfl,hb4⟩;have hb:=hbX.trans (hb4.mono hbX.size);go_wp2_with fail;refine(C6.out _ hb).mono ?_;rintro e w2 ⟨v',rfl,hO,hb2⟩;go_wp2_with fail;go_ret2;exact⟨v',by rw[P3.out];rfl,by rw[P3.out];exact hO.lower hb.size,hb.trans (hb2.mono hb.size)⟩
   ·have P3:=AA (show Cq m infos f=(X.set f (Co 1 (infoAt X f)),0) by rw[P2.out,hq];rfl)
    rw[hq] at C9;have C:=AA C9;clear C9 hq hXl;refine(C.out).mono ?_;rintro e w4 ⟨rfl,hb4⟩;have hb:=hbX.trans (hb4.mono hbX.size);have hO4:=AA (hOl.out.below hb4);go_wp2_with fail;go_ret2;exact⟨_,by rw[P3.out];rfl,by rw[P3.out];exact hO4.out,hb⟩
  ·have t2:((infoAt infos f).r !=0)=true:=by simp[e2]
   have P2:=AA (show Cq m infos f=(infos,1) by rw[Kf,if_pos (.inr e2)]);clear e1 e2;go_wp2_with fail;refine(C4.out _ hb).mono ?_;rintro e w_ ⟨rfl,hb_⟩;rw[T.out];replace hb:=hb.trans (hb_.mono hb.size);clear hb_;replace D2:=(hb.cell (p:=⟨bi,offi+f*3+2,none⟩) hbi).trans D2';go_wp2_with fail;refine(C6.out _ hb).mono ?_;rintro e w2 ⟨v',rfl,hO,hb2⟩;go_wp2_with fail;go_ret2;exact⟨v',by rw[P2.out];rfl,by rw[P2.out];exact hO.lower hb.size,hb.trans (hb2.mono hb.size)⟩
theorem Tryz.infoRow:(prog.info? 28).map (fun i=>(i.zero,i.size,i.bytes))=some (some (.slice none 0 0),1,24):=by kernel_rfl
theorem JJ:28≠3:=by decide
theorem IH {lo e sz n B:Nat} {w:World} {v u:Value} {xs:List Value} (h:w.ownsRow lo e sz v n xs) (hu:∀k,u.ownBlock=some k→w.heap.size≤k):Ey v u:=by intro k hk hu';have h1:=(h.lt k hk).2;have h2:=hu k hu';omega
theorem AV.push {lo:Nat} {w w1 w2:World} {v v' u:Value} {vs:List Value} {xss:List (List Int)} {x:List Int}
 (h:AV lo w v vs xss) (hb:Below w.heap.size w w1) (hlo:lo≤w.heap.size) (hu:AE w.heap.size w1 u x)
 (h1:w2.ownsRow lo 28 1 v' (vs.length+1) (Bf Dz vs++[u])) (h2:w1.grownBy w2 v.ownBlock):AV lo w2 v' (vs++[u]) (xss++[x]):=by
 obtain⟨a1,a2,a3⟩:=h;have a1':=a1.below hb;refine⟨?_,Ei.snoc (a2.mono fun y ys hy=>?_) ?_,Bj.snoc a3 fun y hy=>?_⟩
 ·unfold AC
  rw[BN,Dn,List.length_append];exact h1
 ·have hy':=hy.below hb
  exact An hy' h2 (BA hy' a1' (Ne.symm JJ)).ne
 ·exact An (Bd hu hlo) h2 (BA hu a1' (Ne.symm JJ)).ne
 ·obtain⟨i,hi⟩:=List.getElem?_of_mem hy
  obtain⟨ys,hys⟩:∃ys,xss[i]? =some ys:=⟨_,List.getElem?_eq_getElem (by rw[←a2.1];exact(List.getElem?_eq_some_iff.1 hi).1)⟩
  exact IH (B:=0) (a2.2 i y ys hi hys) (fun k hk=>(hu.lt k hk).1)
def GL (n:Nat):List (List Int):=List.replicate n [0,0,0,0]
theorem TM (w:World):
 Calls prog 31 #[] w fun e w'=>∃v vs,e= .returned v∧AV w.heap.size w' v vs (GL 12)∧Below w.heap.size w w':=by
 go_in;go_wp2_with fail;go_loopw [1,2] (fun o i wr=>∃k:Nat,∃vs:List Value,k≤12∧vs.length=k∧i= .int .i64 k∧AV w.heap.size wr o vs (GL k)∧Below w.heap.size w wr) (fun _ i _=>12 - (intOf i).toNat)
 case atStart=>exact⟨0,[],by omega,rfl,rfl,⟨By _ _ _,Ei.nil,Bj.nil⟩,AF _ _⟩
 case round=>
  obtain⟨k,vs,hk,hl,rfl,hO,hbel⟩:=hrel;have Hl:=AA hl;clear hl
  by_cases hlt:k<12
  ·have hv1:vs.length≤12:=by rw[Hl.out];omega
   go_wp2_with (first|(at_make;go_must (refine VK (n:=4) rfl rfl 3 (.int .i64 0) 8 underlying28 Tryz.infoInt rfl rfl (by omega) (by unfold maxLen;omega) ?_;intro w2 hown hbel2 hsz))|(at_builtin;go_must (refine BX (lo:=w.heap.size) (n:=vs.length) (xs:=Bf Dz vs) (m:=1) (news:=[.slice (some ⟨wr.heap.size,0,none⟩) 4 4]) rfl rfl 28 (.slice none 0 0) 1 24 underlying22 Tryz.infoRow rfl (by decide) rfl ((hO.below hbel2).below (AF _ _)).1 rfl (Rd.newsAt _ #[_] _ 1 1 _ (by simp) rfl (by simp[maxLen])) (by simp[Value.oneCell']) (by unfold maxLen;omega) (by omega) (by have:=hbel.size;simp;omega) ?_;intro o' w3 g1 g2 g3 g4)));go_roundw
   case rel=>have hu:AE wr.heap.size w2 (.slice (some ⟨wr.heap.size,0,none⟩) 4 4) [0,0,0,0]:=hown;have hb2:=hbel2.trans ((AF w2 (.cells #[.slice (some ⟨wr.heap.size,0,none⟩) 4 4] 28)).mono hbel2.size);have hP:=hO.push hb2 hbel.size (hu.below (AF _ _)) g1 g2;refine⟨k+1,vs++[.slice (some ⟨wr.heap.size,0,none⟩) 4 4],by omega,by rw[List.length_append,Hl.out];rfl,by go_num,?_,(hbel.trans (hb2.mono hbel.size)).trans g4⟩;rw[show GL (k+1)=GL k++[[0,0,0,0]] by simp[GL,List.replicate_succ']];exact hP
   case measure=>simp[intOf];omega
  ·obtain rfl:k=12:=by omega
   go_wp2_with fail;go_ret;exact⟨_,vs,rfl,hO,hbel⟩
theorem Tryz.infoString:(prog.info? 9).map (fun i=>(i.zero,i.size,i.bytes))=some (some (.string ⟨#[]⟩),1,16):=by kernel_rfl
theorem Tryz.infoEnv:(prog.info? 62).map (fun i=>(i.zero,i.size,i.bytes))=some (some (.agg #[.slice none 0 0, .int .i64 0]),2,32):=by kernel_rfl
theorem UR {ts:List ByteArray}:∀u∈Bf Ag ts,u.oneCell'=true:=by intro u hu;obtain⟨s,_,hs⟩:=List.mem_flatMap.1 hu;simp[Ag] at hs;subst hs;rfl
theorem A6.keep {α:Type} {sz:Nat} {cs:α→List Value} {w w':World} {v:Value} {xs:List α} (h:A6 sz cs w v xs) (hk:∀k,k<w.heap.size→w'.heap[k]? =w.heap[k]?):A6 sz cs w' v xs:=Rd.keep h hk
theorem A2.push {lo lo':Nat} {w w1 w2:World} {v v' r:Value} {ps:List (Value×Int)} {es:List DQ} {ts:List ByteArray} {n:Int}
 (h:A2 lo w v ps es) (hb:Below w.heap.size w w1) (hlo:lo≤lo') (hlo':w.heap.size≤lo') (hr:AC lo' 9 1 Ag w1 r ts)
 (h1:w2.ownsRow lo 62 2 v' (ps.length+1) (Bf DO ps++[r, .int .i64 n])) (h2:w1.grownBy w2 v.ownBlock):A2 lo w2 v' (ps++[(r,n)]) (es++[⟨ts,n⟩]):=by
 obtain⟨a1,a2,a3⟩:=h;have a1':=a1.below hb;have hne:9≠62:=by decide
 refine⟨?_,Ei.snoc (a2.mono fun y ys hy=>⟨?_,hy.2⟩) ⟨?_,rfl⟩,?_⟩
 ·unfold AC
  rw[BN,Dn,List.length_append];exact h1
 ·have hy':=hy.1.below hb
  exact An hy' h2 (BA hy' a1' hne).ne
 ·exact An (Bd hr hlo) h2 (BA hr a1' hne).ne
 ·rw[List.map_append]
  refine Bj.snoc a3 fun y hy=>?_
  obtain⟨p,hp,rfl⟩:=List.mem_map.1 hy;obtain⟨i,hi⟩:=List.getElem?_of_mem hp;obtain⟨e,he⟩:∃e,es[i]? =some e:=⟨_,List.getElem?_eq_getElem (by rw[←a2.1];exact(List.getElem?_eq_some_iff.1 hi).1)⟩
  exact IH (B:=0) (a2.2 i p e hi he).1 (fun k hk=>Nat.le_trans hlo' (hr.lt k hk).1)
def U4 (lo lo' g:Nat) (arg u ev:Value) (b at_:Nat) (k:Int) (ts:List ByteArray) (ps:List (Value×Int)) (es:List DQ) (i:Nat) (v:Value) (w:World):Prop:=match i with
 |0=>v= .pointer (some ⟨g,2,none⟩)
 |1=>v=ev
 |2=>∃g2,v= .slice (some ⟨g2,0,none⟩) 0 0∧lo'≤g2∧w.heap[g2]? =some (.cells #[] 9 (0,0))
 |3=>v=arg
 |4=>v= .int .i64 k
 |5=>v= .pointer (some ⟨b,at_,none⟩)
 |6=>v=u
 |7=>AC lo' 9 1 Ag w v ts
 |8=>∃r,v= .agg #[r, .int .i64 (-1)]∧AC lo' 9 1 Ag w r ts
 |9=>∃r g9,v= .slice (some ⟨g9,0,none⟩) 1 1∧lo'≤g9∧w.heap[g9]? =some (.cells #[r, .int .i64 (-1)] 62 (0,0))∧AC lo' 9 1 Ag w r ts
 |10=>∃r,A2 lo w v (ps++[(r,-1)]) (es++[⟨ts,-1⟩])
 |11=>v= .pointer (some ⟨g,2,none⟩)
 |_=>True
theorem Do {lo e sz n:Nat} {w w':World} {v:Value} {xs:List Value} {row:Option Nat} (h:w.ownsRow lo e sz v n xs) (hg:w.grownBy w' row) (hr:∀k,row=some k→k<lo):w'.ownsRow lo e sz v n xs:=by
 refine An h hg ?_;cases hv:v.ownBlock with
 |none=>exact .inl rfl
 |some k=>
  refine .inr fun he=>?_
  have h1:=hr k he.symm;have h2:=(h.lt k hv).1;omega
theorem KK {w w':World} {lo g:Nat} {o:Obj} {row:Option Nat} (h:w.heap[g]? =some o) (hl:lo≤g) (hg:w.grownBy w' row) (hr:∀k,row=some k→k<lo):w'.heap[g]? =some o:=
 (hg.block g (Array.getElem?_eq_some_iff.1 h).1 (fun e=>by have:=hr g e.symm;omega)).trans h
theorem JO {lo lo' g:Nat} {arg u ev:Value} {b at_:Nat} {k:Int} {ts:List ByteArray} {ps:List (Value×Int)} {es:List DQ} {i:Nat} {v:Value} {w w':World} {row:Option Nat}
 (h:U4 lo lo' g arg u ev b at_ k ts ps es i v w) (hg:w.grownBy w' row) (hr:∀k,row=some k→k<lo') (hi:i≠10∨row=none):U4 lo lo' g arg u ev b at_ k ts ps es i v w':=by
 match i with
 |0=>exact h
 |1=>exact h
 |2=>obtain⟨g2,h0,h1,h2⟩:=h;exact⟨g2,h0,h1,KK h2 h1 hg hr⟩
 |3=>exact h
 |4=>exact h
 |5=>exact h
 |6=>exact h
 |7=>exact Do h hg hr
 |8=>obtain⟨r,h0,h1⟩:=h;exact⟨r,h0,Do h1 hg hr⟩
 |9=>obtain⟨r,g9,h0,h1,h2,h3⟩:=h;exact⟨r,g9,h0,h1,KK h2 h1 hg hr,Do h3 hg hr⟩
 |10=>
  obtain⟨r,h0⟩:=h
  rcases hi with hi|hi
  ·exact absurd rfl hi
  ·subst hi;exact⟨r,h0.below ⟨hg.os,hg.tape,hg.output,hg.size,fun k hk=>hg.block k hk (by simp)⟩⟩
 |11=>exact h
 |_+12=>trivial
theorem Sd {α:Type} (us vs:List α) (u0 u:α):(us++u0::vs).set us.length u=(us++[u])++vs:=by simp
def EW (lo:Nat) (w:World) (v:Value) (us vs:List Value) (m:List (List Int)):Prop:=AC lo 28 1 Dz w v (us++vs)∧Ei (AE lo w) us (m.take us.length)∧Bj us
theorem EW.step {lo g n cap:Nat} {w w1:World} {us vs:List Value} {u0 u:Value} {m:List (List Int)} {r:List Int} (h:EW lo w (.slice (some ⟨g,0,none⟩) n cap) us (u0::vs) m) (hn:n=(us++u0::vs).length)
 (hb:Below w.heap.size w w1) (hlo:lo≤w.heap.size) (hu:AE w.heap.size w1 u r) (hr:m[us.length]? =some r):
 EW lo (w1.setCell ⟨g,us.length,none⟩ u) (.slice (some ⟨g,0,none⟩) n cap) (us++[u]) vs m∧w1.grownBy (w1.setCell ⟨g,us.length,none⟩ u) (some g):=by
 obtain⟨a1,a2,a3⟩:=h;have a1':=a1.below hb;subst hn;have S:=AC.stored1 D8 a1' (k:=us.length) (x:=u0) (by simp) (j:=0) (by decide) (y:=u) (u:=u) rfl;rw[Nat.mul_one,Nat.add_zero,Sd] at S;have hne:3≠28:=Ne.symm JJ;refine⟨⟨?_,?_,Bj.snoc a3 fun y hy=>?_⟩,S.2⟩
 ·have:=S.1
  rwa [show(us++u0::vs).length=((us++[u])++vs).length by simp] at this ⊢
 ·rw[List.length_append,List.length_singleton,DI hr]
  refine Ei.snoc (a2.mono fun y ys hy=>?_) ?_
  ·have hy':=hy.below hb
   exact An hy' S.2 (BA hy' a1' hne).ne
  ·exact An (Bd hu hlo) S.2 (BA hu a1' hne).ne
 ·obtain⟨i,hi⟩:=List.getElem?_of_mem hy
  obtain⟨ys,hys⟩:∃ys,(m.take us.length)[i]? =some ys:=⟨_,List.getElem?_eq_getElem (by rw[←a2.1];exact(List.getElem?_eq_some_iff.1 hi).1)⟩
  exact IH (B:=0) (a2.2 i y ys hi hys) (fun k hk=>(hu.lt k hk).1)
theorem EW.whole {lo:Nat} {w:World} {v:Value} {us:List Value} {m:List (List Int)} (h:EW lo w v us [] m) (hl:us.length=m.length):AV lo w v us m:=by obtain⟨a1,a2,a3⟩:=h;rw[List.append_nil] at a1;rw[hl,List.take_length] at a2;exact⟨a1,a2,a3⟩
theorem EW.below {lo:Nat} {w w1:World} {v:Value} {us vs:List Value} {m:List (List Int)} (h:EW lo w v us vs m) (hb:Below w.heap.size w w1):EW lo w1 v us vs m:=⟨h.1.below hb,h.2.1.mono fun _ _ h=>AE.below h hb,h.2.2⟩
def Ez (lo:Nat) (w:World) (v:Value) (qs ps:List (Value×Int)) (es:List DQ):Prop:=AC lo 62 2 DO w v (qs++ps)∧Ei (fun p e=>AC lo 9 1 Ag w p.1 e.rights∧p.2=e.root) qs (es.take qs.length)∧Bj (qs.map (·.1))
theorem Ez.step {lo g n cap:Nat} {w w1:World} {qs ps:List (Value×Int)} {p0:Value×Int} {u:Value} {es:List DQ} {e:DQ} (h:Ez lo w (.slice (some ⟨g,0,none⟩) n cap) qs (p0::ps) es) (hn:n=(qs++p0::ps).length)
 (hb:Below w.heap.size w w1) (hlo:lo≤w.heap.size) (hu:AC w.heap.size 9 1 Ag w1 u e.rights) (he:es[qs.length]? =some e) (hp:p0.2=e.root):
 Ez lo (w1.setCell ⟨g,qs.length*2,none⟩ u) (.slice (some ⟨g,0,none⟩) n cap) (qs++[(u,p0.2)]) ps es∧w1.grownBy (w1.setCell ⟨g,qs.length*2,none⟩ u) (some g):=by
 obtain⟨a1,a2,a3⟩:=h;have a1':=a1.below hb;subst hn;have S:=AC.stored1 EO a1' (k:=qs.length) (x:=p0) (by simp) (j:=0) (by decide) (y:=(u,p0.2)) (u:=u) rfl;rw[Nat.add_zero,Sd] at S;have hne:9≠62:=by decide
 refine⟨⟨?_,?_,?_⟩,S.2⟩
 ·have:=S.1
  rwa [show(qs++p0::ps).length=((qs++[(u,p0.2)])++ps).length by simp] at this ⊢
 ·rw[List.length_append,List.length_singleton,DI he]
  refine Ei.snoc (a2.mono fun y ys hy=>⟨?_,hy.2⟩) ⟨?_,hp⟩
  ·have hy':=hy.1.below hb
   exact An hy' S.2 (BA hy' a1' hne).ne
  ·exact An (Bd hu hlo) S.2 (BA hu a1' hne).ne
 ·rw[List.map_append]
  refine Bj.snoc a3 fun y hy=>?_
  obtain⟨p,hp,rfl⟩:=List.mem_map.1 hy;obtain⟨i,hi⟩:=List.getElem?_of_mem hp;obtain⟨e',he'⟩:∃e',(es.take qs.length)[i]? =some e':=⟨_,List.getElem?_eq_getElem (by rw[←a2.1];exact(List.getElem?_eq_some_iff.1 hi).1)⟩
  exact IH (B:=0) (a2.2 i p e' hi he').1 (fun k hk=>(hu.lt k hk).1)
theorem Ez.whole {lo:Nat} {w:World} {v:Value} {qs:List (Value×Int)} {es:List DQ} (h:Ez lo w v qs [] es) (hl:qs.length=es.length):A2 lo w v qs es:=by obtain⟨a1,a2,a3⟩:=h;rw[List.append_nil] at a1;rw[hl,List.take_length] at a2;exact⟨a1,a2,a3⟩
theorem PH (v:Value) (m:List (List Int)) (w:World) (h:BI w v m) (hok:Bq m=true):
 Calls prog 41 #[v] w fun e w'=>∃v' vs,e= .returned v'∧AV w.heap.size w' v' vs m∧Below w.heap.size w w':=by
 obtain⟨vs,h1,h2⟩:=h;have hml:=(Af.1 hok).1;have hvl:vs.length=12:=by rw[h2.1,hml]
 have CC:=AA (Jf v vs w h1 (by omega) (Nv h2));have CI:=AA (fun k (hk:k<12) W (hW:Below w.heap.size w W)=>HZ (vs.getD k (.bool false)) (AK m k) W (Ap.below (h2.2 k _ _ (Ba (by omega)) (by unfold AK;exact Ba (by omega))) hW) (by have:=(BZ.1 ((Af.1 hok).2 k hk)).1;omega));have SH:=AA (fun k (hk:k<12)=>(by obtain⟨a,c,e,_⟩:=(h2.2 k _ _ (Ba (d:=Value.bool false) (by omega)) (Ba (d:=[]) (by omega))).open;exact⟨a,_,c,e⟩:∃a n c,vs.getD k (.bool false)= .slice a n c));have Hvl:=AA hvl;have Hml:=AA hml;obtain⟨ai,ci,rfl,_,_⟩:=h1.shape;clear h1 h2 hok hml;rw[hvl] at CC ⊢;clear hvl;go_in;go_wp2_with fail;refine(CC.out).mono ?_;rintro e w1 ⟨v',rfl,hO,hb1⟩;obtain⟨g,cap,rfl,c1,c2,q1,q2,hfz⟩:=hO.shapeOwn (by have:=Hvl.out;omega);unfold maxLen at c2;rw[Hvl.out] at hO c1 ⊢;have HO:=AA hO;have HB:=AA hb1;clear hO hb1 hfz;go_wp2_with fail;go_loopw [10] (fun i wr=>∃us:List Value,us.length≤12∧i= .int .i64 us.length∧EW w.heap.size wr (.slice (some ⟨g,0,none⟩) 12 cap) us (vs.drop us.length) m∧Below w.heap.size w wr) (fun i _=>12 - (intOf i).toNat)
 case atStart=>exact⟨[],by simp,rfl,⟨HO.out,Ei.nil,Bj.nil⟩,HB.out⟩
 case round=>
  obtain⟨us,hk,rfl,hH,hbel⟩:=hrel
  by_cases hlt:us.length<12
  ·have hlv:us.length<vs.length:=by rw[Hvl.out];exact hlt
   have ed:vs.drop us.length=vs.getD us.length (.bool false)::vs.drop (us.length+1):=by
    rw[List.drop_eq_getElem_cons hlv]
    congr 1
    simp[hlv]
   rw[ed] at hH;have hlen:(us++vs.getD us.length (.bool false)::vs.drop (us.length+1)).length=12:=by have:=Hvl.out;simp only[List.length_append,List.length_cons,List.length_drop];omega
   have hH1:=hH.1;rw[←hlen] at hH1;have D:=AC.cellsAt D8 hH1 (k:=us.length) (x:=vs.getD us.length (.bool false)) (by simp) 0 _ rfl;rw[Nat.mul_one,Nat.add_zero] at D;have C:=CI.out _ hlt wr hbel;have hr:m[us.length]? =some (AK m us.length):=by unfold AK;exact Ba (by rw[Hml.out];exact hlt)
   have HH:=AA hH;have HR:=AA hr;have CH:=AA C;have Hlen:=AA hlen;have hfz:=World.ownsRow.frozenAt hH1 us.length;have c12:(12:Int)≤cap:=by omega
   clear hH hH1 hr C ed hlen;generalize hu0:vs.getD us.length (.bool false)=u0 at*;obtain⟨a0,n0,c0,rfl⟩:∃a n c,u0= .slice a n c:=by have:=SH.out _ hlt;rwa [hu0] at this
   go_wp2_with fail;refine(CH.out).mono ?_;rintro e w2 ⟨u,rfl,hu,hb2⟩;have D2:=(hb2.cell (p:=⟨g,us.length,none⟩) (World.block_lt_of_cell? wr _ D)).trans D;have hfz2:=(hb2.frozen (p:=⟨g,us.length,none⟩) (World.block_lt_of_cell? wr _ D)).trans hfz;have ST:=AA (EW.step HH.out Hlen.out.symm hb2 hbel.size hu HR.out);have HB2:=AA (AN (hbel.trans (hb2.mono hbel.size)) ST.out.2 q1 (Nat.le_trans hbel.size hb2.size));obtain⟨a9,c9,rfl,_⟩:=hu.rd.open;clear D hfz hu hb2 hbel;go_wp2_with fail;go_roundw
   case rel=>refine⟨us++[.slice a9 (AK m us.length).length c9],by rw[List.length_append,List.length_singleton];omega,by rw[List.length_append,List.length_singleton];go_num,?_,HB2.out⟩;rw[List.length_append,List.length_singleton];exact ST.out.1
   case measure=>simp[intOf];omega
  ·have e12:us.length=12:=by omega
   rw[List.drop_eq_nil_of_le (by rw[e12,Hvl.out];exact Nat.le_refl _)] at hH;have R:=AA (hH.whole (by rw[e12,Hml.out]));clear hH;go_wp2_with fail;go_ret;exact⟨_,us,rfl,R.out,hbel⟩
def Gi (lo:Nat) (w:World) (v:Value) (k:AH) (ps:List (Value×Int)):Prop:=∃m i e c,v= .agg #[m,i,e,c]∧(∃vs,AV lo w m vs k.mem)∧AC lo 91 3 AX w i k.infos∧AC lo 62 2 DO w e ps∧AC lo 95 4 AJ w c k.cache
theorem Gi.below {lo:Nat} {w w':World} {v:Value} {k:AH} {ps:List (Value×Int)} (h:Gi lo w v k ps) (hb:Below w.heap.size w w'):Gi lo w' v k ps:=by obtain⟨m,i,e,c,h0,⟨vs,h1⟩,h2,h3,h4⟩:=h;exact⟨m,i,e,c,h0,⟨vs,h1.below hb⟩,h2.below hb,h3.below hb,h4.below hb⟩
def IM (lo:Nat) (w:World) (v:Value):Prop:=∃g,v= .pointer (some ⟨g,0,none⟩)∧lo≤g∧w.heap[g]? =some (.cells #[.slice none 0 0, .slice none 0 0, .slice none 0 0, .slice none 0 0] 27 (0,0))
theorem IM.below {lo:Nat} {w w':World} {v:Value} (h:IM lo w v) (hb:Below w.heap.size w w'):IM lo w' v:=by obtain⟨g,h0,h1,h2⟩:=h;exact⟨g,h0,h1,AG h2 hb⟩
def KE (w0:World) (g:Nat) (m i e c:Value) (k:AH) (qs ps:List (Value×Int)) (wr:World):Prop:=
 wr.heap[g]? =some (.cells #[m,i,e,c] 27 (0,0))∧(∃vs,AV w0.heap.size wr m vs k.mem)∧AC w0.heap.size 91 3 AX wr i k.infos∧Ez w0.heap.size wr e qs ps k.envs∧AC w0.heap.size 95 4 AJ wr c k.cache∧Below w0.heap.size w0 wr
theorem Ez.below {lo:Nat} {w w1:World} {v:Value} {qs ps:List (Value×Int)} {es:List DQ} (h:Ez lo w v qs ps es) (hb:Below w.heap.size w w1):Ez lo w1 v qs ps es:=⟨h.1.below hb,h.2.1.mono fun _ _ h=>⟨h.1.below hb,h.2⟩,h.2.2⟩
theorem KE.below {w0:World} {g:Nat} {m i e c:Value} {k:AH} {qs ps:List (Value×Int)} {wr w':World} (h:KE w0 g m i e c k qs ps wr) (hb:Below wr.heap.size wr w'):KE w0 g m i e c k qs ps w':=by obtain⟨h0,⟨vs,h1⟩,h2,h3,h4,h5⟩:=h;exact⟨AG h0 hb,⟨vs,h1.below hb⟩,h2.below hb,h3.below hb,h4.below hb,h5.trans (hb.mono h5.size)⟩
theorem KE.step {w0:World} {g ge n cap:Nat} {m i c:Value} {k:AH} {qs ps:List (Value×Int)} {p0:Value×Int} {w w1:World} {u:Value} {e:DQ} (h:KE w0 g m i (.slice (some ⟨ge,0,none⟩) n cap) c k qs (p0::ps) w) (hn:n=(qs++p0::ps).length)
 (hb:Below w.heap.size w w1) (hu:AC w.heap.size 9 1 Ag w1 u e.rights) (he:k.envs[qs.length]? =some e) (hp:p0.2=e.root):
 KE w0 g m i (.slice (some ⟨ge,0,none⟩) n cap) c k (qs++[(u,p0.2)]) ps (w1.setCell ⟨ge,qs.length*2,none⟩ u):=by
 obtain⟨hB,⟨vs,h1⟩,h2,h3,h4,h5⟩:=h;have S:=Ez.step h3 hn hb h5.size hu he hp;have hB1:=AG hB hb;have h3':=h3.1.below hb;obtain⟨cur,hcur⟩:=A8 h3' ge rfl;have hlo:=(World.ownsRow.lt h3' ge rfl).1;refine⟨(S.2.block g (Aq hB1) fun e=>?_).trans hB1,⟨vs,(h1.below hb).far S.2 hcur (by decide) (by decide)⟩,(h2.below hb).far S.2 hcur (by decide),S.1,(h4.below hb).far S.2 hcur (by decide),(h5.trans (hb.mono h5.size)).setCell hlo _⟩;cases e;rw[hB1] at hcur;simp at hcur
def Lh (w:World) (k:AH) (e:Ending) (w':World):Prop:=∃m i ev c,e= .returned (.agg #[m,i,ev,c])∧Ct w.heap.size w' m i ev c k∧Below w.heap.size w w'
theorem MS {k:AH} (hk:DV k) {j:Nat} (hj:j<3):(AD k.envs j).rights.length≤6:=by have h5:=hk.rights j hj;unfold Ax at h5;simp only[Bool.and_eq_true,decide_eq_true_eq] at h5;exact h5.2
theorem PI (m i e c:Value) (k:AH) (w:World) (h:L6 w m i e c k) (hk:DV k):
 Calls prog 40 #[.agg #[m,i,e,c]] w (Lh w k):=by
 obtain⟨h1,h2,⟨ps,h3,h3'⟩,h4⟩:=h;have hpl:ps.length=3:=by rw[h3'.1,hk.envl]
 have hcl:k.cache.length≤4:=by have:=hk.cache;simp only[Bu,Bool.and_eq_true,decide_eq_true_eq] at this;exact this.2
 have hel:=hk.envl;have N0:=heap_alloc_new w (.cells #[m,i,e,c] 27);have N1:=heap_alloc_new (w.alloc (.cells #[m,i,e,c] 27)) (.cells #[.slice none 0 0, .slice none 0 0, .slice none 0 0, .slice none 0 0] 27);replace N0:=AG N0 (AF _ (.cells #[.slice none 0 0, .slice none 0 0, .slice none 0 0, .slice none 0 0] 27));have hb0:=FQ w (.cells #[m,i,e,c] 27) (.cells #[.slice none 0 0, .slice none 0 0, .slice none 0 0, .slice none 0 0] 27);have hs0:w.heap.size+2=((w.alloc (.cells #[m,i,e,c] 27)).alloc (.cells #[.slice none 0 0, .slice none 0 0, .slice none 0 0, .slice none 0 0] 27)).heap.size:=by simp
 simp only[World.size_alloc] at N1;obtain⟨am,cm,rfl,_⟩:=h1.open;obtain⟨ai,ci,rfl,_⟩:=h2.shape;obtain⟨ae,ce,rfl,_⟩:=h3.shape;obtain⟨ac,cc,rfl,_⟩:=h4.shape;have Hpl:=AA hpl;have Hcl:=AA hcl;have Hel:=AA hel;clear hpl hcl hel;go_in;go_wp2_with fail;have hpl:=Hpl.out;have hcl:=Hcl.out;have hel:=Hel.out;generalize hW0:(w.alloc _).alloc _=W0 at*;have C1:=AA (fun W (hW:Below W0.heap.size W0 W)=>PH _ k.mem W ((h1.below hb0).below hW) hk.mem);have C2:=AA (fun W (hW:Below W0.heap.size W0 W)=>Eb _ k.infos W ((h2.below hb0).below hW) (by rw[hk.len];omega));have C3:=AA (fun W (hW:Below W0.heap.size W0 W)=>OS _ ps W ((h3.below hb0).below hW) (by omega) (TQ h3'));have C4:=AA (fun W (hW:Below W0.heap.size W0 W)=>GM _ k.cache W ((h4.below hb0).below hW) (by omega));have C5:=AA (fun j (hj:j<3) W (hW:Below w.heap.size w W)=>EV (ps.getD j (.bool false,0)).1 (AD k.envs j).rights W (A6.below (h3'.2 j _ _ (Ba (by omega)) (by unfold AD;exact Ba (by omega))).1 hW) (by have h6:=MS hk hj;omega));have C6:=AA (fun j (hj:j<3)=>(h3'.2 j (ps.getD j (.bool false,0)) (AD k.envs j) (Ba (by omega)) (by unfold AD;exact Ba (by omega))).2);have C7:=AA (fun j (hj:j<3)=>(by obtain⟨a,n,e,_⟩:=(h3'.2 j (ps.getD j (.bool false,0)) (AD k.envs j) (Ba (by omega)) (by unfold AD;exact Ba (by omega))).1.shape;exact⟨a,_,n,e⟩:∃a n c,(ps.getD j (.bool false,0)).1= .slice a n c));have Hk:=AA hk;have hlt0:w.heap.size<W0.heap.size:=by omega
 obtain⟨x0,x1,x2,x3⟩:=AB N0;clear h1 h2 h3 h3' h4 hk hW0 hpl hcl hel;refine Am 14 37 [.p w.heap.size 0, .v (.slice am k.mem.length cm), .z, .p w.heap.size 1, .v (.slice ai k.infos.length ci), .z, .p w.heap.size 2, .v (.slice ae ps.length ce), .z, .p w.heap.size 3, .v (.slice ac k.cache.length cc), .z, .z, .z] (fun ix vv ww=>match ix with
  |2=>∃vs',AV W0.heap.size ww vv vs' k.mem
  |5=>AC W0.heap.size 91 3 AX ww vv k.infos
  |8=>AC W0.heap.size 62 2 DO ww vv ps
  |11=>AC W0.heap.size 95 4 AJ ww vv k.cache
  |12=>Gi W0.heap.size ww vv k ps
  |13=>IM W0.heap.size ww vv
  |_=>True) ?_ ?_ ?_
 ·intro i hi o ho a wx Hb Hd hG K HK
  have mc0:=bc hG hlt0 x0;have mc1:=bc hG hlt0 x1;have mc2:=bc hG hlt0 x2;have mc3:=bc hG hlt0 x3
  match i,hi with
  |0,_|3,_|6,_|9,_=>exact sP ho HK Hb Hd
  |1,_=>exact sL ho HK Hb Hd (hl:=Ff (by assumption))
  |2,_=>exact sC ho HK Hb Hd (C1.out _ hG) (by rintro e w_ ⟨v',vs',rfl,hO,hb2⟩;exact⟨_,rfl,⟨vs',hO.lower hG.size⟩,hb2⟩)
  |4,_=>exact sL ho HK Hb Hd (hl:=GX (by assumption))
  |5,_=>exact sC ho HK Hb Hd (C2.out _ hG) (by rintro e w_ ⟨v',rfl,hO,hb2⟩;exact⟨_,rfl,(hO.lower hG.size),hb2⟩)
  |7,_=>exact sL ho HK Hb Hd (hl:=MX (by assumption))
  |8,_=>exact sC ho HK Hb Hd (C3.out _ hG) (by rintro e w_ ⟨v',rfl,hO,hb2⟩;exact⟨_,rfl,(hO.lower hG.size),hb2⟩)
  |10,_=>exact sL ho HK Hb Hd (hl:=K6 (by assumption))
  |11,_=>exact sC ho HK Hb Hd (C4.out _ hG) (by rintro e w_ ⟨v',rfl,hO,hb2⟩;exact⟨_,rfl,(hO.lower hG.size),hb2⟩)
  |12,_=>
   clear mc0 mc1 mc2 mc3;obtain rfl:=So_ ho;have d2:∃vs',AV W0.heap.size wx (a.tmps[8]?.getD undef) vs' k.mem:=Bx Hd 2
   have d5:AC W0.heap.size 91 3 AX wx (a.tmps[11]?.getD undef) k.infos:=Bx Hd 5;have d8:AC W0.heap.size 62 2 DO wx (a.tmps[14]?.getD undef) ps:=Bx Hd 8;have d11:AC W0.heap.size 95 4 AJ wx (a.tmps[17]?.getD undef) k.cache:=Bx Hd 11;clear Hd Hb;generalize e8:a.tmps[8]?.getD undef=m' at d2;generalize e11:a.tmps[11]?.getD undef=i' at d5;generalize e14:a.tmps[14]?.getD undef=e' at d8;generalize e17:a.tmps[17]?.getD undef=c' at d11;have W:Hid (Gi W0.heap.size wx (.agg #[m',i',e',c']) k ps):=AA ⟨m',i',e',c',rfl,d2,d5,d8,d11⟩;obtain⟨_,d2⟩:=d2;obtain⟨_,_,rfl,_,_⟩:=d2.1.rd.shape;obtain⟨_,_,rfl,_,_⟩:=d5.rd.shape;obtain⟨_,_,rfl,_,_⟩:=d8.rd.shape;obtain⟨_,_,rfl,_,_⟩:=d11.rd.shape;clear d2 d5 d8 d11;refine Aa.of rfl ?_;go_simp;exact HK.out _ _ W.out (Below.refl _ _)
  |13,_=>clear mc0 mc1 mc2 mc3;obtain rfl:=So_ ho;clear Hd Hb;refine Aa.of rfl ?_;go_simp;exact HK.out _ _ ⟨_,rfl,hG.size,heap_alloc_new _ _⟩ (AF _ _)
 ·intro i hi vv wz ww' hbz hz
  match i,hi with
  |2,_=>exact(by obtain⟨vs',h'⟩:=hz;exact⟨vs',h'.below hbz⟩)
  |5,_=>exact(AC.below hz hbz)
  |8,_=>exact(AC.below hz hbz)
  |11,_=>exact(AC.below hz hbz)
  |12,_=>exact(Gi.below hz hbz)
  |13,_=>exact(IM.below hz hbz)
  |0,_|1,_|3,_|4,_|6,_|7,_|9,_|10,_=>exact hz
 ·intro vs wx hR hG
  have q12:Gi W0.heap.size wx (vs 12) k ps:=BT hR 12;have q13:IM W0.heap.size wx (vs 13):=BT hR 13;obtain⟨g,q13,hg,hB⟩:=q13;clear hR;simp only[Ai,AQ,List.range,List.range.loop,List.foldl_cons,List.foldl_nil,q13];simp;generalize vs 12=z12 at q12 ⊢;clear q13;obtain⟨m',i',e0,c',rfl,⟨vs',o1⟩,o2,o3,o4⟩:=q12;obtain⟨ge,cape,rfl,d1,d2,ge1,ge2,hfze⟩:=o3.shapeOwn (by rw[Hpl.out];omega);rw[Hpl.out] at o3 d1 ⊢;unfold maxLen at d2;have hne:g≠w.heap.size+1:=by omega
  have hgr:=AZ (AZ (AZ (Aj wx g 0 m') 1 i') 2 (.slice (some ⟨ge,0,none⟩) 3 cape)) 3 c';have St:KE W0 g m' i' (.slice (some ⟨ge,0,none⟩) 3 cape) c' k [] ps ((((wx.setCell ⟨g,0,none⟩ m').setCell ⟨g,1,none⟩ i').setCell ⟨g,2,none⟩ (.slice (some ⟨ge,0,none⟩) 3 cape)).setCell ⟨g,3,none⟩ c'):=
   ⟨DB hB,⟨vs',o1.far hgr hB (by decide) (by decide)⟩,o2.far hgr hB (by decide),⟨o3.far hgr hB (by decide),Ei.nil,Bj.nil⟩,o4.far hgr hB (by decide),(((hG.setCell hg _).setCell hg _).setCell hg _).setCell hg _⟩
  obtain⟨pa,pc,rfl,_,_⟩:=o1.1.rd.shape;obtain⟨qa,qc,rfl,_,_⟩:=o2.rd.shape;obtain⟨ra,rc,rfl,_,_⟩:=o4.rd.shape;obtain⟨b0,b1,b2,b3⟩:=AB hB;have hfz:=AI hB;have HN0:=AA N0;have HN1:=AA N1;clear o1 o2 o3 o4 hG hB hgr x0 x1 x2 x3 hfze N0 N1;go_wp2_with fail;clear b0 b1 b2 b3 hfz;go_loopw [22] (fun i wr=>∃qs:List (Value×Int),qs.length≤3∧i= .int .i64 qs.length∧KE W0 g _ _ (.slice (some ⟨ge,0,none⟩) 3 cape) _ k qs (ps.drop qs.length) wr) (fun i _=>3 - (intOf i).toNat)
  case atStart=>exact⟨[],by simp,rfl,St⟩
  case round=>
   clear St;obtain⟨qs,hq,rfl,St⟩:=hrel
   by_cases hlt:qs.length<3
   ·have hlv:qs.length<ps.length:=by rw[Hpl.out];exact hlt
    have ed:ps.drop qs.length=ps.getD qs.length (.bool false,0)::ps.drop (qs.length+1):=by
     rw[List.drop_eq_getElem_cons hlv]
     congr 1
     simp[hlv]
    rw[ed] at St;have hlen:(qs++ps.getD qs.length (.bool false,0)::ps.drop (qs.length+1)).length=3:=by have:=Hpl.out;simp only[List.length_append,List.length_cons,List.length_drop];omega
    have hH1:=St.2.2.2.1.1;rw[←hlen] at hH1;have D:=AC.cellsAt EO hH1 (k:=qs.length) (x:=ps.getD qs.length (.bool false,0)) (by simp);have D0:=D 0 _ rfl;have D1:=D 1 _ rfl;rw[Nat.add_zero] at D0;have fz:=World.ownsRow.frozenAt hH1;have hbw:=hb0.trans (St.2.2.2.2.2.mono hb0.size);have C:=C5.out _ hlt;have hp:=C6.out _ hlt;obtain⟨a0,n0,c0,hs0⟩:=C7.out _ hlt;have he:k.envs[qs.length]? =some (AD k.envs qs.length):=by unfold AD;exact Ba (by rw[Hel.out];exact hlt)
    have y2:=(AB St.1).2.2.1;have hgl:=Aq St.1;have hgel:=World.block_lt_of_cell? wr _ D0;have HST:=AA St;have Hlen:=AA hlen;have He:=AA he;have Hp:=AA hp;clear St hlen he hp hH1 D ed;generalize ps.getD qs.length (.bool false,0)=p0 at*;obtain⟨u0,r0⟩:=p0;cases hs0
    change wr.cell? _=some (Value.slice a0 n0 c0) at D0
    change wr.cell? _=some (Value.int .i64 r0) at D1
    have N:=heap_alloc_new wr (.cells #[.slice a0 n0 c0, .int .i64 r0] 62);have hbn:=AF wr (.cells #[.slice a0 n0 c0, .int .i64 r0] 62);have c3:(3:Int)≤cape:=by omega
    go_wp2_with fail;generalize wr.alloc _=wa at*;have y5:=cell_of_row _ _ 0 _ _ _ N;have hl5:=Aq N;have HC:=AA (fun W (hW:Below wa.heap.size wa W)=>C W ((hbw.trans (hbn.mono hbw.size)).trans (hW.mono (hbw.trans (hbn.mono hbw.size)).size)));replace y2:=(hbn.cell (p:=⟨g,2,none⟩) hgl).trans y2;replace D0:=(hbn.cell (p:=⟨ge,qs.length*2,none⟩) hgel).trans D0;have fz2:=(hbn.frozen (p:=⟨ge,qs.length*2,none⟩) hgel).trans (fz _);replace hgl:=Nat.lt_of_lt_of_le hgl hbn.size;replace hgel:=Nat.lt_of_lt_of_le hgel hbn.size;clear C N D1 fz;refine Am 8 37 [.p g 2, .v (.slice (some ⟨ge,0,none⟩) 3 cape), .i ((qs.length:Int)), .p wr.heap.size 0, .v (.slice a0 n0 c0), .z, .p ge (qs.length*2), .p ge (qs.length*2)] (fun ix vv ww=>match ix with
     |5=>AC wa.heap.size 9 1 Ag ww vv (AD k.envs qs.length).rights
     |_=>True) ?_ ?_ ?_
    ·intro i hi o ho a wx Hb Hd hG K HK
     have mc0:=bc hG hgl y2;have mc1:=bc hG hl5 y5
     match i,hi with
     |0,_|2,_|3,_|7,_=>exact sP ho HK Hb Hd
     |1,_=>exact sL ho HK Hb Hd (hl:=MX (by assumption))
     |4,_=>exact sL ho HK Hb Hd (hl:=K7 (by assumption))
     |5,_=>exact sC ho HK Hb Hd (HC.out _ hG) (by rintro e w_ ⟨v',rfl,hO,hb2⟩;exact⟨_,rfl,(hO.lower hG.size),hb2⟩)
     |6,_=>exact sI ho HK Hb Hd (hr:=by clear Hd Hb HK;go_simp)
    ·intro i hi vv wz ww' hbz hz
     match i,hi with
     |5,_=>exact(AC.below hz hbz)
     |0,_|1,_|2,_|3,_|4,_|6,_|7,_=>exact hz
    ·intro vs wx hR hG
     have q5:AC wa.heap.size 9 1 Ag wx (vs 5) (AD k.envs qs.length).rights:=BT hR 5;have q7:(vs 7)= .pointer (some ⟨ge,qs.length*2,none⟩):=BT hR 7;clear hR;simp only[Ai,AQ,List.range,List.range.loop,List.foldl_cons,List.foldl_nil,q7];simp;generalize vs 5=z5 at q5 ⊢;clear q7;have ST:=AA (KE.step (p0:=(_,r0)) HST.out Hlen.out.symm (hbn.trans (hG.mono hbn.size)) (q5.lower hbn.size) He.out Hp.out);replace D0:=(hG.cell (p:=⟨ge,qs.length*2,none⟩) hgel).trans D0;replace fz2:=(hG.frozen (p:=⟨ge,qs.length*2,none⟩) hgel).trans fz2;obtain⟨_,_,rfl,_,_⟩:=q5.rd.shape;clear q5 hG y2 y5;go_wp2_with fail;go_roundw
     case rel=>exact⟨qs++[(_,r0)],by rw[List.length_append,List.length_singleton];omega,by rw[List.length_append,List.length_singleton];go_num,by rw[List.length_append,List.length_singleton];exact ST.out⟩
     case measure=>simp[intOf];omega
   ·have e3:qs.length=3:=by omega
    rw[List.drop_eq_nil_of_le (by rw[e3,Hpl.out];exact Nat.le_refl _)] at St;obtain⟨hB,⟨vs2,o1⟩,o2,o3,o4,hbel⟩:=St;have o5:=o3.whole (by rw[e3,Hel.out]);have hBs:=(hbel.block _ (by omega)).trans HN1.out;have S:=AA (show ∀w',wr.grownBy w' (some (w.heap.size+1))→Lh w k (.returned (.agg #[_,_,(.slice (some ⟨ge,0,none⟩) 3 cape),_])) w' from fun w' hg'=>⟨_,_,_,_,rfl,⟨⟨vs2,(o1.far hg' hBs (by decide) (by decide)).lower hb0.size⟩,(o2.far hg' hBs (by decide)).lower hb0.size,⟨qs,(o5.far hg' hBs (by decide) (by decide)).lower hb0.size⟩,(o4.far hg' hBs (by decide)).lower hb0.size⟩,(hb0.trans (hbel.mono hb0.size)).grown hg' (hb0.trans (hbel.mono hb0.size)).size (fun k hk=>by cases hk;omega)⟩)
    obtain⟨E0,E1,E2,E3⟩:=AB (DB (m':= .slice pa vs'.length pc) (i':= .slice qa k.infos.length qc) (e':= .slice (some ⟨ge,0,none⟩) 3 cape) (c':= .slice ra k.cache.length rc) hBs);have HE:=AA (And.intro E0 (And.intro E1 (And.intro E2 E3)));have hgr:wr.grownBy ((((wr.setCell ⟨w.heap.size+1,0,none⟩ (.slice pa vs'.length pc)).setCell ⟨w.heap.size+1,1,none⟩ (.slice qa k.infos.length qc)).setCell ⟨w.heap.size+1,2,none⟩ (.slice (some ⟨ge,0,none⟩) 3 cape)).setCell ⟨w.heap.size+1,3,none⟩ (.slice ra k.cache.length rc)) (some (w.heap.size+1)):=AZ (AZ (AZ (Aj wr (w.heap.size+1) 0 _) 1 _) 2 _) 3 _;obtain⟨b0,b1,b2,b3⟩:=AB hB;obtain⟨c0,c1,c2,c3⟩:=AB hBs;have hfz:=AI hBs;have hlt3:¬(qs.length:Int)<3:=by omega
    clear hB hBs o1 o2 o3 o4 o5 E0 E1 E2 E3 e3;go_wp2_with fail;obtain⟨E0,E1,E2,E3⟩:=HE.out;exact bodyPost_ret (v:= .agg #[_,_,_,_]) (by simp[results,Tryz.results40,go_sem,E0,E1,E2,E3]) rfl (S.out _ hgr)
def OQ (w:World) (a:Option Addr) (es:List DQ):Prop:=∀j,j<es.length→∃b off ua uc,a=some ⟨b,off,none⟩∧b<w.heap.size∧w.cell? ⟨b,off+j*2,none⟩=some (.slice ua (AD es j).rights.length uc)∧w.cell? ⟨b,off+j*2+1,none⟩=some (.int .i64 (AD es j).root)∧BG w (.slice ua (AD es j).rights.length uc) (AD es j).rights
theorem Ew.open {w:World} {v:Value} {es:List DQ} (h:Ew w v es):∃a cap,v= .slice a es.length cap∧es.length≤cap∧cap≤maxLen∧OQ w a es:=by
 obtain⟨ps,h1,h2⟩:=h;obtain⟨a,cap,rfl,hc,hcm,H⟩:=A6.open EO (by decide) h1;refine⟨a,cap,by rw[h2.1],by rw[←h2.1];exact hc,hcm,fun j hj=>?_⟩;have hp:j<ps.length:=by rw[h2.1];exact hj
 obtain⟨b,off,rfl,hlt,hcell⟩:=H j _ (List.getElem?_eq_getElem hp);have hr:=h2.2 j _ (AD es j) (List.getElem?_eq_getElem hp) (by unfold AD;exact Ba hj);obtain⟨ua,uc,e,_,_⟩:=hr.1.shape;refine⟨b,off,ua,uc,rfl,hlt,?_,?_,?_⟩
 ·have:=hcell 0 _ rfl
  rw[e] at this;exact this
 ·have:=hcell 1 _ rfl
  rw[hr.2] at this;exact this
 ·rw[←e];exact hr.1
theorem OQ.below {w w':World} {a:Option Addr} {es:List DQ} (h:OQ w a es) (hb:Below w.heap.size w w'):OQ w' a es:=by intro j hj;obtain⟨b,off,ua,uc,rfl,hlt,h0,h1,h2⟩:=h j hj;exact⟨b,off,ua,uc,rfl,Nat.lt_of_lt_of_le hlt hb.size,(hb.cell (p:=⟨b,off+j*2,none⟩) hlt).trans h0,(hb.cell (p:=⟨b,off+j*2+1,none⟩) hlt).trans h1,A6.below h2 hb⟩
theorem ED {infos:List AL} {a b:List Nat} {ss:List ByteArray} (h:∀g,g∈a↔g∈b):At infos a ss=At infos b ss:=by
 unfold At;rw[Bool.eq_iff_iff];simp only[List.all_eq_true];exact⟨fun H g hg=>H g ((h g).2 hg),fun H g hg=>H g ((h g).1 hg)⟩
section
variable {k:AH}
end
def Cp (lo:Nat) (m:List (List Int)) (root:Int) (w:World) (v:Value):Prop:=∃ts,AE lo w v (Ah ts)∧∀g,g∈ts↔g∈A5 m root
theorem Cp.below {lo:Nat} {m:List (List Int)} {root:Int} {w w':World} {v:Value} (h:Cp lo m root w v) (hb:Below w.heap.size w w'):Cp lo m root w' v:=by obtain⟨ts,h1,h2⟩:=h;exact⟨ts,AE.below h1 hb,h2⟩
theorem reach_lt {m:List (List Int)} {root:Int} (hr:root<12):∀g∈A5 m root,g<12:=by
 intro g hg;obtain⟨h0,h⟩:=DK.1 hg;have hn:∀t:Nat,∀x∈named (AK m t),x<12:=fun t x hx=>by unfold named at hx;obtain⟨y,hy,rfl⟩:=List.mem_map.1 hx;exact Dg (List.mem_filter.1 hy).2
 rcases h with rfl|h|⟨t,_,h⟩
 ·omega
 ·exact hn _ _ h
 ·exact hn _ _ h
theorem Tryz.infoInfo:(prog.info? 91).map (fun i=>(i.zero,i.size,i.bytes))=some (some (.agg #[.int .i64 0, .string ⟨#[]⟩, .int .i64 0]),3,32):=by kernel_rfl
theorem Nl:(madeCells (Value.agg #[.int .i64 0, .string ⟨#[]⟩, .int .i64 0]).cells (12*3)).toList=Bf AX (List.replicate 12 AL.zero):=by kernel_rfl
def U9 (lo:Nat) (i:Nat) (v:Value) (w:World):Prop:=match i with
 |0=>∃vs,AV lo w v vs (GL 12)
 |1=>AC lo 91 3 AX w v (List.replicate 12 AL.zero)
 |2=>AC lo 62 2 DO w v []
 |3=>AC lo 95 4 AJ w v []
 |4=>∃m i e c,v= .agg #[m,i,e,c]∧(∃vs,AV lo w m vs (GL 12))∧AC lo 91 3 AX w i (List.replicate 12 AL.zero)∧AC lo 62 2 DO w e []∧AC lo 95 4 AJ w c []
 |5=>∃g,v= .pointer (some ⟨g,0,none⟩)∧lo≤g∧w.heap[g]? =some (.cells #[.slice none 0 0, .slice none 0 0, .slice none 0 0, .slice none 0 0] 27 (0,0))
 |_=>True
theorem Gt {lo i:Nat} {v:Value} {w w':World} (h:U9 lo i v w) (hb:Below w.heap.size w w'):U9 lo i v w':=by
 match i with
 |0=>obtain⟨vs,h⟩:=h;exact⟨vs,h.below hb⟩
 |1=>exact AC.below h hb
 |2=>exact AC.below h hb
 |3=>exact AC.below h hb
 |4=>obtain⟨m,i,e,c,h0,⟨vs,h1⟩,h2,h3,h4⟩:=h;exact⟨m,i,e,c,h0,⟨vs,h1.below hb⟩,h2.below hb,h3.below hb,h4.below hb⟩
 |5=>
  obtain⟨g,h0,h1,h2⟩:=h;have:g<w.heap.size:=by
   rcases Nat.lt_or_ge g w.heap.size with h|h
   ·exact h
   ·rw[Array.getElem?_eq_none h] at h2;cases h2
  exact⟨g,h0,h1,(hb.block g this).trans h2⟩
 |_+6=>trivial
def DZ (tss:List (List ByteArray)):List DQ:=tss.map fun ts=>⟨ts,-1⟩
def KW (tss:List (List ByteArray)):AH:=⟨GL 12,List.replicate 12 AL.zero,DZ tss,[]⟩
def Uv (w:World) (b:Bool) (k:AH) (e:Ending) (w':World):Prop:=∃m i ev c,e= .returned (.tuple #[.agg #[m,i,ev,c], .bool b])∧Ct w.heap.size w' m i ev c k∧Below w.heap.size w w'
def Tr (w0:World) (lo g:Nat) (es:List DQ) (wr:World):Prop:=
 ∃m i ev c vs ps,wr.heap[g]? =some (.cells #[m,i,ev,c] 27 (0,0))∧lo≤g∧AV lo wr m vs (GL 12)∧AC lo 91 3 AX wr i (List.replicate 12 AL.zero)∧A2 lo wr ev ps es∧AC lo 95 4 AJ wr c []∧Below lo w0 wr
theorem Lx (v:Value) (tss:List (List ByteArray)) (w:World) (h:G4 w v tss) (h3:tss.length=3) (hok:∀ts∈tss,Ax ts=true) (hsm:∀ts∈tss,Dr ts):
 Calls prog 10 #[v] w (Uv w true (KW tss)):=by
 obtain⟨vs,h1,h2⟩:=h;obtain⟨a,cv,rfl,hc,hcm,H0⟩:=A6.open D8 (by decide) h1;unfold maxLen at hcm;have hv3:vs.length≤3:=by rw[h2.1,h3];omega
 have hv3':3≤vs.length:=by rw[h2.1,h3];omega
 have HB:=AA h2;have H3:=AA h3;have Hok:=AA hok;have Hsm:=AA hsm;clear h2 h3 hok hsm;go_in;go_wp2_with fail;have hb0:=AF w (.cells #[.slice none 0 0, .slice none 0 0, .slice none 0 0, .slice none 0 0] 27);have hB0:(w.alloc (.cells #[.slice none 0 0, .slice none 0 0, .slice none 0 0, .slice none 0 0] 27)).heap[w.heap.size]? =some (.cells #[.slice none 0 0, .slice none 0 0, .slice none 0 0, .slice none 0 0] 27 (0,0)):=heap_alloc_new w _;have hs0:w.heap.size+1=(w.alloc (.cells #[.slice none 0 0, .slice none 0 0, .slice none 0 0, .slice none 0 0] 27)).heap.size:=by simp
 generalize w.alloc (.cells #[.slice none 0 0, .slice none 0 0, .slice none 0 0, .slice none 0 0] 27)=W0 at hb0 hB0 hs0;refine FD 6 mixed (by kernel_rfl) 41 rfl (by kernel_rfl) (U9 W0.heap.size) (fun _ w'=>Below W0.heap.size W0 w') ?_ ?_ ?_
 ·exact Ao (Below.refl _ _) 1
 ·intro i hi o ho a w1 Hb Hd L HL hG K HK
  have hsz:=hG.size;clear Hb HL
  match i,hi with
  |0,_=>obtain rfl:=So_ ho;clear Hd;refine Aa.of rfl ?_;go_simp;refine(TM _).mono ?_;rintro e w2 ⟨v,vs,rfl,h3,h4⟩;exact HK.out _ _ ⟨vs,h3.lower hsz⟩ (hG.trans (h4.mono hsz)) (fun j u _ _ _ h=>Gt h h4)
  |1,_=>obtain rfl:=So_ ho;clear Hd;refine Aa.of rfl ?_;obtain⟨i0,hi0,hz0,hz1,hz2⟩:=info_parts Tryz.infoInfo;obtain⟨w2,hrun,h3,h4⟩:=run_make_full (P:=prog) w1 w1.heap.size 23 91 i0 _ 3 underlying23 hi0 hz0 hz1 .i64 .i64 12 (by rw[hz2];decide) (by decide) (Nat.le_refl _);have h5:=Below.of_grown h4;rw[Nl] at h3;have hrun':(Instr.makeSlice 23 (.int .i64 12) (.int .i64 12)).run prog w1= .ok (.slice (some ⟨w1.heap.size,0,none⟩) 12 12) w2:=hrun;clear hi0 hz0 hz1 hz2 hrun;go_simp;exact HK.out _ _ (Bd h3 hsz) (hG.trans (h5.mono hsz)) (fun j u _ _ _ h=>Gt h h5)
  |2,_=>obtain rfl:=So_ ho;clear Hd;refine Aa.of rfl ?_;go_simp;exact HK.out _ _ ((Bw _ _ _ _).lower hsz) (hG.alloc hsz _) (fun j u _ _ _ h=>Gt h (AF _ _))
  |3,_=>obtain rfl:=So_ ho;clear Hd;refine Aa.of rfl ?_;go_simp;exact HK.out _ _ ((Bw _ _ _ _).lower hsz) (hG.alloc hsz _) (fun j u _ _ _ h=>Gt h (AF _ _))
  |4,_=>
   obtain rfl:=So_ ho;have d0:=Bx Hd 0;have d1:=Bx Hd 1;have d2:=Bx Hd 2;have d3:=Bx Hd 3;clear Hd
   change ∃vs,AV _ _ (a.tmps[6]?.getD undef) _ _ at d0
   change AC _ _ _ _ _ (a.tmps[7]?.getD undef) _ at d1
   change AC _ _ _ _ _ (a.tmps[8]?.getD undef) _ at d2
   change AC _ _ _ _ _ (a.tmps[9]?.getD undef) _ at d3
   refine Aa.of rfl ?_;generalize e6:a.tmps[6]?.getD undef=m at d0;generalize e7:a.tmps[7]?.getD undef=i at d1;generalize e8:a.tmps[8]?.getD undef=e at d2;generalize e9:a.tmps[9]?.getD undef=c at d3;obtain⟨vs0,d0⟩:=d0;have W:=AA (show U9 W0.heap.size 4 (.agg #[m,i,e,c]) w1 from⟨m,i,e,c,rfl,⟨vs0,d0⟩,d1,d2,d3⟩);obtain⟨_,_,rfl,_,_⟩:=d0.1.rd.shape;obtain⟨_,_,rfl,_,_⟩:=d1.rd.shape;obtain⟨_,_,rfl,_,_⟩:=d2.rd.shape;obtain⟨_,_,rfl,_,_⟩:=d3.rd.shape;clear d0 d1 d2 d3;go_simp;exact HK.out _ _ W.out hG (fun j u _ _ _ h=>h)
  |5,_=>obtain rfl:=So_ ho;clear Hd;refine Aa.of rfl ?_;go_simp;exact HK.out _ _ ⟨_,rfl,hsz,heap_alloc_new _ _⟩ (hG.alloc hsz _) (fun j u _ _ _ h=>Gt h (AF _ _))
 ·intro xs w1 hR L hL hG
  obtain⟨m,i,e,c,h0,⟨rs,h1⟩,h2,h3,h4⟩:=BT hR 4;obtain⟨g,h5,h6,h7⟩:=BT hR 5;clear hR hL;simp only[Ai,AQ,List.range,List.range.loop,List.foldl_cons,List.foldl_nil,h0,h5];simp;generalize xs 0=y0;generalize xs 1=y1;generalize xs 2=y2;generalize xs 3=y3;have St:Tr W0 W0.heap.size g (DZ (tss.take 0)) ((((w1.setCell ⟨g,0,none⟩ m).setCell ⟨g,1,none⟩ i).setCell ⟨g,2,none⟩ e).setCell ⟨g,3,none⟩ c):=by have hgr:=AZ (AZ (AZ (Aj w1 g 0 m) 1 i) 2 e) 3 c;exact⟨m,i,e,c,rs,[],DB h7,h6,h1.far hgr h7 (by decide) (by decide),h2.far hgr h7 (by decide),⟨h3.far hgr h7 (by decide),Ei.nil,Bj.nil⟩,h4.far hgr h7 (by decide),(((hG.setCell h6 _).setCell h6 _).setCell h6 _).setCell h6 _⟩
  obtain⟨_,_,rfl,_,_⟩:=h1.1.rd.shape;obtain⟨_,_,rfl,_,_⟩:=h2.rd.shape;obtain⟨_,_,rfl,_,_⟩:=h3.rd.shape;obtain⟨_,_,rfl,_,_⟩:=h4.rd.shape;obtain⟨c0,c1,c2,c3⟩:=AB h7;have hfz:=AI h7;clear h0 h1 h2 h3 h4 h5 hG h6 h7;go_wp2_with fail;clear c0 c1 c2 c3 hfz;simp only[List.length_replicate,List.length_nil];go_loopw [5] (fun i wr=>∃k:Nat,k≤3∧i= .int .i64 k∧Tr W0 W0.heap.size g (DZ (tss.take k)) wr) (fun i _=>3 - (intOf i).toNat)
  case atStart=>exact⟨0,by omega,rfl,St⟩
  case round=>
   clear St;obtain⟨k,hk,rfl,m,iv,ev,c,rs,ps,hB,hg,o1,o2,o3,o4,hbel⟩:=hrel
   by_cases hlt:k<3
   ·have hlv:k<vs.length:=by omega
    obtain⟨u,hu⟩:∃u,vs[k]? =some u:=⟨_,List.getElem?_eq_getElem hlv⟩
    obtain⟨ts,hts⟩:∃ts,tss[k]? =some ts:=⟨_,List.getElem?_eq_getElem (by rw[H3.out];exact hlt)⟩
    have Ru:=HB.out.2 k u ts hu hts;have hok:=Hok.out ts (List.mem_of_getElem? hts);have hsm:=Hsm.out ts (List.mem_of_getElem? hts);obtain⟨b,off,rfl,hbl0,hcell⟩:=H0 k u hu;have Dw:w.cell? ⟨b,off+k,none⟩=some u:=by simpa using hcell 0 u rfl
    have hbw:=hb0.trans (hbel.mono hb0.size);have D:wr.cell? ⟨b,off+k,none⟩=some u:=(hbw.cell (World.block_lt_of_cell? w _ Dw)).trans Dw;have Hts:=AA hts;have Hu:=AA hu;clear hu hts Dw hcell;go_wp2_with fail;refine(Fm u ts _ (A6.below Ru hbw) hsm).mono ?_;rintro e w2 ⟨rfl,hw2⟩;rw[hok];have hbel2:Below wr.heap.size wr w2:=by obtain⟨n,rfl⟩:=hw2;exact Ao (Below.refl _ _) n
    clear hw2 hok;have hbw:=hbw.trans (hbel2.mono hbw.size);have D:w2.cell? ⟨b,off+k,none⟩=some u:=(hbel2.cell (World.block_lt_of_cell? wr _ D)).trans D;have hbl:=World.block_lt_of_cell? w2 _ D;have hB2:=AG hB hbel2;have o3':=o3.below hbel2;have o1:=o1.below hbel2;have o2:=o2.below hbel2;have o4:=o4.below hbel2;have hbel:=hbel.trans (hbel2.mono hbel.size);clear hbel2 o3 hB;have htl:ts.length≤6:=by have:=Hok.out ts (List.mem_of_getElem? Hts.out);simp only[Ax,Bool.and_eq_true,decide_eq_true_eq] at this;exact this.2
    have hkv:(k:Int)<vs.length:=by omega
    go_wp2_with fail;have hevg:ev.ownBlock≠some g:=fun he=>by obtain⟨cur,hc⟩:=A8 o3'.1 g he;rw[hB2] at hc;simp at hc
    have hevlt:=fun k hk=>(o3'.1.lt k hk).2
    have hevge:=fun k hk=>(o3'.1.lt k hk).1
    have hBlk:∀w3,w2.grownBy w3 ev.ownBlock→w3.heap[g]? =some (.cells #[m,iv,ev,c] 27 (0,0)):=fun w3 h=>(h.block g (Aq hB2) (fun e=>hevg e.symm)).trans hB2
    have hOld:∀w3,w2.grownBy w3 ev.ownBlock→∀k,k<w.heap.size→w3.heap[k]? =w2.heap[k]? :=fun w3 h k hk=>h.block k (Nat.lt_of_lt_of_le hk hbw.size) (fun e=>by have:=hevge k e.symm;omega)
    have GS:=AA (fun(L:Nat→Bool) (w3:World) (i:Nat) (h:w2.grownBy w3 ev.ownBlock∧(L 10=false→Below w2.heap.size w2 w3))=>(⟨h.1,fun h10=>h.2 (EQ h10)⟩:w2.grownBy w3 ev.ownBlock∧(Gy L i 10=false→Below w2.heap.size w2 w3)));have GB:=AA (fun(L:Nat→Bool) (w3 w4:World) (i:Nat) (h:w2.grownBy w3 ev.ownBlock∧(L 10=false→Below w2.heap.size w2 w3)) (hb:Below w3.heap.size w3 w4)=>(⟨Bp h.1 (Cy hb _),fun h10=>(h.2 (EQ h10)).trans (hb.mono h.1.size)⟩:w2.grownBy w4 ev.ownBlock∧(Gy L i 10=false→Below w2.heap.size w2 w4)));refine FD 12 mixed (by kernel_rfl) 41 rfl (by kernel_rfl) (U4 W0.heap.size w2.heap.size g (.slice (some ⟨b,off,none⟩) vs.length cv) u ev b (off+k) k ts ps (DZ (tss.take k))) (fun L w3=>w2.grownBy w3 ev.ownBlock∧(L 10=false→Below w2.heap.size w2 w3)) ?_ ?_ ?_
    ·exact⟨Cy (Ao (Below.refl _ _) 1) _,fun _=>Ao (Below.refl _ _) 1⟩
    ·intro i hi o ho a w3 Hb Hd L HL hG K HK
     match i,hi with
     |0,_=>
      obtain rfl:=So_ ho;have e4:a.tmps[4]?.getD undef= .pointer (some ⟨g,0,none⟩):=by rw[SA Hb 4];rfl
      clear Hd Hb;refine Aa.of rfl ?_;go_simp;exact HK.out _ _ rfl (GS.out _ _ _ hG) (fun j u _ _ _ h=>h)
     |1,_=>
      obtain rfl:=So_ ho;have d0:=Bx Hd 0
      change a.tmps[24]?.getD undef= .pointer (some ⟨g,2,none⟩) at d0
      clear Hd Hb;refine Aa.of rfl ?_;have cg:w3.cell? ⟨g,2,none⟩=some ev:=cell_of_row w3 g 2 _ _ _ (hBlk w3 hG.1);go_simp;exact HK.out _ _ rfl (GS.out _ _ _ hG) (fun j u _ _ _ h=>h)
     |2,_=>obtain rfl:=So_ ho;clear Hd Hb;refine Aa.of rfl ?_;go_simp;exact HK.out _ _ ⟨_,rfl,hG.1.size,heap_alloc_new _ _⟩ (GB.out _ _ _ _ hG (AF _ _)) (fun j u _ _ _ h=>JO h (Cy (AF _ _) none) (fun k hk=>by cases hk) (.inr rfl))
     |3,_=>
      obtain rfl:=So_ ho;have e0:a.tmps[0]?.getD undef= .slice (some ⟨b,off,none⟩) vs.length cv:=by rw[SA Hb 0];rfl
      clear Hd Hb;refine Aa.of rfl ?_;go_simp;exact HK.out _ _ rfl (GS.out _ _ _ hG) (fun j u _ _ _ h=>h)
     |4,_=>
      obtain rfl:=So_ ho;have e5:a.tmps[5]?.getD undef= .int .i64 k:=by rw[SA Hb 5];rfl
      clear Hd Hb;refine Aa.of rfl ?_;go_simp;exact HK.out _ _ rfl (GS.out _ _ _ hG) (fun j u _ _ _ h=>h)
     |5,_=>
      obtain rfl:=So_ ho;have d3:=Bx Hd 3
      change a.tmps[27]?.getD undef= .slice (some ⟨b,off,none⟩) vs.length cv at d3
      have d4:=Bx Hd 4
      change a.tmps[28]?.getD undef= .int .i64 k at d4
      clear Hd Hb;refine Aa.of rfl ?_;go_simp;exact HK.out _ _ rfl (GS.out _ _ _ hG) (fun j u _ _ _ h=>h)
     |6,_=>
      obtain rfl:=So_ ho;have d5:=Bx Hd 5
      change a.tmps[29]?.getD undef= .pointer (some ⟨b,off+k,none⟩) at d5
      clear Hd Hb;refine Aa.of rfl ?_;have cu:w3.cell? ⟨b,off+k,none⟩=some u:=(World.cell?_of_block (hOld w3 hG.1 b hbl0)).trans D;go_simp;exact HK.out _ _ rfl (GS.out _ _ _ hG) (fun j u _ _ _ h=>h)
     |7,_=>
      obtain rfl:=So_ ho;have d2:=Bx Hd 2
      change ∃g2,a.tmps[26]?.getD undef= .slice (some ⟨g2,0,none⟩) 0 0∧_≤g2∧_ at d2
      have d6:=Bx Hd 6
      change a.tmps[30]?.getD undef=u at d6
      clear Hd Hb;refine Aa.of rfl ?_;obtain⟨g2,d2,d2a,d2b⟩:=d2;obtain⟨v7,w4,hrun,r1,r2,r3⟩:=Cn (lo:=w2.heap.size) (w:=w3) (t:=40) (ty:=40) 9 _ 1 16 underlying40 Tryz.infoString rfl (by decide) d2b d2a (A6.keep Ru (fun k hk=>(hOld w3 hG.1 k hk).trans (hbw.block k hk))) UR (by omega);refine BR rfl (BC d2) (BC d6) hrun ?_;exact HK.out _ _ r1 (GB.out _ _ _ _ hG r2) (fun j u _ _ _ h=>JO h (Cy r2 none) (fun k hk=>by cases hk) (.inr rfl))
     |8,_=>
      obtain rfl:=So_ ho;have d7:=Bx Hd 7
      change AC _ _ _ _ _ (a.tmps[31]?.getD undef) _ at d7
      clear Hd Hb;refine Aa.of rfl ?_;generalize e31:a.tmps[31]?.getD undef=r at d7;have W:=AA (show U4 W0.heap.size w2.heap.size g (.slice (some ⟨b,off,none⟩) vs.length cv) u ev b (off+k) k ts ps (DZ (List.take k tss)) 8 (.agg #[r, .int .i64 (-1)]) w3 from⟨r,rfl,d7⟩);obtain⟨_,_,rfl,_,_⟩:=d7.rd.shape;clear d7;go_simp;exact HK.out _ _ W.out (GS.out _ _ _ hG) (fun j u _ _ _ h=>h)
     |9,_=>
      obtain rfl:=So_ ho;have d8:=Bx Hd 8
      change ∃r,a.tmps[32]?.getD undef= .agg #[r, .int .i64 (-1)]∧_ at d8
      clear Hd Hb;refine Aa.of rfl ?_;obtain⟨r,d8,d8a⟩:=d8;go_simp;exact HK.out _ _ ⟨r,_,rfl,hG.1.size,heap_alloc_new _ _,AC.below d8a (AF _ _)⟩ (GB.out _ _ _ _ hG (AF _ _)) (fun j u _ _ _ h=>JO h (Cy (AF _ _) none) (fun k hk=>by cases hk) (.inr rfl))
     |10,_=>
      obtain rfl:=So_ ho;have d1:=Bx Hd 1
      change a.tmps[25]?.getD undef=ev at d1
      have d9:=Bx Hd 9
      change ∃r g9,a.tmps[33]?.getD undef= .slice (some ⟨g9,0,none⟩) 1 1∧_≤g9∧_∧_ at d9
      clear Hd Hb;refine Aa.of rfl ?_;obtain⟨r,g9,d9,d9a,d9b,d9c⟩:=d9;have hB3:=hG.2 HL.out.1;have o3w:=o3';have o3':=o3'.below hB3;obtain⟨i0,hi0,hz0,hz1,hz2⟩:=info_parts Tryz.infoEnv;have hpl:ps.length≤3:=by rw[o3'.2.1.1];simp[DZ];omega
      obtain⟨v10,w4,hrun,r1,r2,_,r4⟩:=run_append_own_at (P:=prog) w3 W0.heap.size 24 24 62 i0 _ 2 32 underlying24 hi0 hz0 hz1 hz2 rfl (by decide) ev ps.length (Bf DO ps) o3'.1 ⟨g9,0,none⟩ 1 1 [r, .int .i64 (-1)] rfl (by
       intro j x hx
       match j,hx with
       |0,hx=>simp at hx;subst hx;exact cell_of_row w3 g9 0 _ _ _ d9b
       |1,hx=>simp at hx;subst hx;exact cell_of_row w3 g9 1 _ _ _ d9b) (by
       obtain⟨_,_,rfl,_,_⟩:=d9c.rd.shape;simp[Value.oneCell']) (by simp only[maxLen];omega) (by omega) (Nat.le_trans hbel.size hB3.size)
      clear hi0 hz0 hz1 hz2;refine BR rfl (BC d1) (BC d9) hrun ?_;exact HK.out _ _ ⟨r,o3w.push hB3 hbel.size (Nat.le_refl _) d9c r1 r2⟩ ⟨Bp hG.1 r2,fun h=>by simp[Gy] at h⟩ (fun j x hj _ _ h=>JO h r2 hevlt (.inl hj))
     |11,_=>
      obtain rfl:=So_ ho;have e4:a.tmps[4]?.getD undef= .pointer (some ⟨g,0,none⟩):=by rw[SA Hb 4];rfl
      clear Hd Hb;refine Aa.of rfl ?_;go_simp;exact HK.out _ _ rfl (GS.out _ _ _ hG) (fun j u _ _ _ h=>h)
    ·intro xs w3 hR L hL hG
     obtain⟨r,o5⟩:=BT hR 10;have h11:xs 11= .pointer (some ⟨g,2,none⟩):=BT hR 11;have hG:=hG.1;clear hR hL;simp only[Ai,AQ,List.range,List.range.loop,List.foldl_cons,List.foldl_nil,h11];simp;generalize xs 0=z0;generalize xs 1=z1;generalize xs 2=z2;generalize xs 3=z3;generalize xs 4=z4;generalize xs 5=z5;generalize xs 6=z6;generalize xs 7=z7;generalize xs 8=z8;generalize xs 9=z9;generalize xs 10=ev' at o5;clear h11;have hB3:=hBlk w3 hG;have hgr:=Aj w3 g 2 ev';have St:Tr W0 W0.heap.size g (DZ (tss.take (k+1))) (w3.setCell ⟨g,2,none⟩ ev'):=by
      have e1:DZ (tss.take (k+1))=DZ (tss.take k)++[⟨ts,-1⟩]:=by rw[DI Hts.out];simp[DZ]
      rw[e1];refine⟨m,iv,ev',c,rs,_,?_,hg,?_,?_,o5.far hgr hB3 (by decide) (by decide),?_,?_⟩
      ·have:=heap_setCell_same w3 g 2 _ 27 ev' hB3
       simpa using this
      ·exact AV.far (o1.kept hG o3'.1 (by decide) (by decide)) hgr hB3 (by decide) (by decide)
      ·exact AC.far (An o2 hG (BA o2 o3'.1 (by decide)).ne) hgr hB3 (by decide)
      ·exact AC.far (An o4 hG (BA o4 o3'.1 (by decide)).ne) hgr hB3 (by decide)
      ·exact(hbel.grown hG hbel.size (fun k hk=>hevge k hk)).setCell hg _
     obtain⟨_,_,rfl,_,_⟩:=o5.1.rd.shape;obtain⟨_,_,rfl,_,_⟩:=o3'.1.rd.shape;obtain⟨c0,c1,c2,c3⟩:=AB hB3;have hfz:=AI hB3;simp only[List.length_append,List.length_cons,List.length_nil,Nat.zero_add] at St;clear hB3 hgr o5 o1 o2 o3' o4 hBlk hOld GS GB hevg hevlt hevge;go_wp2_with fail;go_roundw
     case rel=>exact⟨k+1,by omega,by go_num,St⟩
     case measure=>simp[intOf];omega
   ·obtain rfl:k=3:=by omega
    have e3:tss.take 3=tss:=List.take_of_length_le (by rw[H3.out];omega);rw[e3] at o3;have hlv:¬(3:Int)<vs.length:=by omega
    have hl3:((vs.length:Int) !=3)=false:=by simp;omega
    have hne:g≠w.heap.size:=by omega
    have hBs:wr.heap[w.heap.size]? =some (.cells #[.slice none 0 0, .slice none 0 0, .slice none 0 0, .slice none 0 0] 27 (0,0)):=(hbel.block _ (by omega)).trans hB0;have S:=AA (show ∀w',wr.grownBy w' (some w.heap.size)→Uv w true (KW tss) (.returned (.tuple #[.agg #[m,iv,ev,c], .bool true])) w' from fun w' hg'=>⟨m,iv,ev,c,rfl,⟨⟨rs,(o1.far hg' hBs (by decide) (by decide)).lower hb0.size⟩,(o2.far hg' hBs (by decide)).lower hb0.size,⟨ps,(o3.far hg' hBs (by decide) (by decide)).lower hb0.size⟩,(o4.far hg' hBs (by decide)).lower hb0.size⟩,(hb0.trans (hbel.mono hb0.size)).grown hg' (hb0.trans (hbel.mono hb0.size)).size (fun k hk=>by cases hk;exact Nat.le_refl _)⟩)
    have hgr:wr.grownBy ((((wr.setCell ⟨w.heap.size,0,none⟩ m).setCell ⟨w.heap.size,1,none⟩ iv).setCell ⟨w.heap.size,2,none⟩ ev).setCell ⟨w.heap.size,3,none⟩ c) (some w.heap.size):=AZ (AZ (AZ (Aj wr w.heap.size 0 m) 1 iv) 2 ev) 3 c;obtain⟨E0,E1,E2,E3⟩:=AB (DB (m':=m) (i':=iv) (e':=ev) (c':=c) hBs);have HE:=AA (And.intro E0 (And.intro E1 (And.intro E2 E3)));clear E0 E1 E2 E3;obtain⟨_,_,rfl,_,_⟩:=o1.1.rd.shape;obtain⟨_,_,rfl,_,_⟩:=o2.rd.shape;obtain⟨_,_,rfl,_,_⟩:=o3.1.rd.shape;obtain⟨_,_,rfl,_,_⟩:=o4.rd.shape;obtain⟨c0,c1,c2,c3⟩:=AB hB;obtain⟨d0,d1,d2,d3⟩:=AB hBs;have hfz:=AI hBs;clear hB hBs o1 o2 o3 o4;simp only[List.length_replicate,List.length_nil] at HE S hgr ⊢;go_wp2_with fail;obtain⟨E0,E1,E2,E3⟩:=HE.out;exact bodyPost_ret (v:= .tuple #[.agg #[_,_,_,_], .bool true]) (by simp[results,Tryz.results10,go_sem,E0,E1,E2,E3]) rfl (S.out _ hgr)
def Ku (lo:Nat) (w:World) (v:Value) (r:List Int):Prop:=∃u g,v= .slice (some ⟨g,0,none⟩) 1 1∧lo≤g∧w.heap[g]? =some (.cells #[u] 28 (0,0))∧AE lo w u r
def Kt (lo:Nat) (w:World) (v:Value) (ts:List ByteArray):Prop:=∃u g,v= .slice (some ⟨g,0,none⟩) 1 1∧lo≤g∧w.heap[g]? =some (.cells #[u, .int .i64 (-1)] 62 (0,0))∧AC lo 9 1 Ag w u ts
theorem Ku.past {lo:Nat} {w w':World} {v:Value} {r:List Int} {row:Option Nat} (h:Ku lo w v r) (hg:w.grownBy w' row) (hr:∀k,row=some k→k<lo):Ku lo w' v r:=by obtain⟨u,g,h0,h1,h2,h3⟩:=h;exact⟨u,g,h0,h1,KK h2 h1 hg hr,Do h3 hg hr⟩
theorem Kt.past {lo:Nat} {w w':World} {v:Value} {ts:List ByteArray} {row:Option Nat} (h:Kt lo w v ts) (hg:w.grownBy w' row) (hr:∀k,row=some k→k<lo):Kt lo w' v ts:=by obtain⟨u,g,h0,h1,h2,h3⟩:=h;exact⟨u,g,h0,h1,KK h2 h1 hg hr,Do h3 hg hr⟩
def Sj (W0:World) (g n:Nat) (es:List DQ) (wr:World):Prop:=
 ∃m i e vs ps,wr.heap[g]? =some (.cells #[m,i,e, .slice none 0 0] 27 (0,0))∧W0.heap.size≤g∧AV W0.heap.size wr m vs (GL n)∧AC W0.heap.size 91 3 AX wr i (List.replicate 12 AL.zero)∧A2 W0.heap.size wr e ps es∧Below W0.heap.size W0 wr
theorem Es {α:Type} (cs:α→List Value) (lo e sz:Nat) (w:World):AC lo e sz cs w (.slice none 0 0) []:=World.ownsRow_nil _ _ _ _
theorem Ub (lo:Nat) (w:World):AV lo w (.slice none 0 0) [] (GL 0):=⟨Es _ _ _ _ _,Ei.nil,Bj.nil⟩
theorem MJ (lo:Nat) (w:World):A2 lo w (.slice none 0 0) [] []:=⟨Es _ _ _ _ _,Ei.nil,Bj.nil⟩
theorem Bs {lo e sz n g T:Nat} {w:World} {v:Value} {xs:List Value} {cur:Array Value} (h:w.ownsRow lo e sz v n xs) (hB:w.heap[g]? =some (.cells cur T (0,0))) (hne:e≠T):v.ownBlock≠some g:=fun he=>by obtain⟨c,hc⟩:=A8 h g he;rw[hB] at hc;simp at hc;exact hne hc.2.symm
theorem Lv (v:Value) (ts:List ByteArray) (w:World) (h:BG w v ts) (hs:Dr ts):Calls prog 35 #[v] w fun e w'=>e= .returned (.bool (!Ax ts))∧Below w.heap.size w w':=by have C:=AA (Ep v ts w h hs);clear h hs;go_in;go_wp2_with fail;refine(C.out).mono ?_;rintro e w1 ⟨rfl,hb⟩;go_wp2_with fail;go_ret;exact⟨rfl,hb⟩
theorem Lw (v:Value) (tss:List (List ByteArray)) (w:World) (h:G4 w v tss) (h3:tss.length=3) (hok:∀ts∈tss,Ax ts=true) (hsm:∀ts∈tss,Dr ts):
 Calls prog 15 #[v] w (Uv w true (KW tss)):=by
 have hb0:=AF w (.cells #[.slice none 0 0, .slice none 0 0, .slice none 0 0, .slice none 0 0] 27);have N0:=heap_alloc_new w (.cells #[.slice none 0 0, .slice none 0 0, .slice none 0 0, .slice none 0 0] 27);have hs0:w.heap.size+1=(w.alloc (.cells #[.slice none 0 0, .slice none 0 0, .slice none 0 0, .slice none 0 0] 27)).heap.size:=by simp
 have C0:=Il 35 #[] (fun ts=>!Ax ts) v tss (w.alloc (.cells #[.slice none 0 0, .slice none 0 0, .slice none 0 0, .slice none 0 0] 27)) (h.below hb0);obtain⟨vs,h1,h2⟩:=h;obtain⟨a,cv,rfl,hc,hcm,H0⟩:=A6.open D8 (by decide) h1;unfold maxLen at hcm;have hv3:vs.length=3:=by rw[h2.1,h3]
 have HB:=AA h2;have H3:=AA h3;have Hok:=AA hok;have Hsm:=AA hsm;have Hv3:=AA hv3;have hany:(tss.any fun ts=>!Ax ts)=false:=by rw[List.any_eq_false];intro ts hts;simp[hok ts hts]
 rw[hany] at C0;have C:=AA (C0 (fun _ _=>by kernel_rfl) (fun u r hr W _ hu=>Lv u r W hu (hsm r hr)));rw[hv3] at C hc ⊢;clear h2 h3 hok hsm hany C0 h1 hv3;go_in;go_wp2_with fail;refine(C.out).mono ?_;rintro e w1 ⟨rfl,hb1⟩;generalize w.alloc _=W0 at*;go_wp2_with (first|(at_make;go_must (refine Un (n:=12) rfl rfl 91 _ 3 32 underlying23 Tryz.infoInfoK rfl (by omega) (by unfold maxLen;omega) ?_;intro w2 hown hbel hsz)));rw[Nl] at hown;have hgW:W0.heap.size≤w2.heap.size:=Nat.le_trans hb1.size hbel.size;have hbx:=hb1.trans (hbel.mono hb1.size);have N2:=heap_alloc_new w2 (.cells #[.slice none 0 0, .slice (some ⟨w1.heap.size,0,none⟩) 12 12, .slice none 0 0, .slice none 0 0] 27);have hb3:=hbx.trans ((AF w2 (.cells #[.slice none 0 0, .slice (some ⟨w1.heap.size,0,none⟩) 12 12, .slice none 0 0, .slice none 0 0] 27)).mono hgW);have hown3:AC W0.heap.size 91 3 AX w2 (.slice (some ⟨w1.heap.size,0,none⟩) 12 12) (List.replicate 12 AL.zero):=Bd hown hb1.size;have St:Sj W0 w2.heap.size 0 [] (w2.alloc (.cells #[.slice none 0 0, .slice (some ⟨w1.heap.size,0,none⟩) 12 12, .slice none 0 0, .slice none 0 0] 27)):=
  ⟨_,_,_,[],[],N2,hgW,Ub _ _,hown3.below (AF _ _),MJ _ _,hb3⟩
 generalize w2.heap.size=g at*;clear N2 hb3 hown3 hown hbel hbx;go_loopw [17] (fun i wr=>∃k:Nat,k≤12∧i= .int .i64 k∧Sj W0 g k [] wr) (fun i _=>12 - (intOf i).toNat)
 case atStart=>exact⟨0,by omega,rfl,St⟩
 case round=>
  clear St;obtain⟨k,hk,rfl,m,iv,ev,rs,ps,hB,hg,o1,o2,o3,hbel⟩:=hrel
  by_cases hlt:k<12
  ·have hrl:rs.length=k:=by rw[o1.2.1.1];simp[GL]
   have hne:=Bs o1.1 hB (by decide);have hgl:=Aq hB;have y0:=(AB hB).1;have hrow:=fun k hk=>(World.ownsRow.lt o1.1 k hk)
   go_wp2_with fail;refine Jr 5 mixed (by kernel_rfl) 42 rfl (by kernel_rfl) 4 (m.ownBlock) (fun ix vv ww=>match ix with
    |0=>vv= .pointer (some ⟨g,0,none⟩)
    |1=>vv=m
    |2=>AE wr.heap.size ww vv [0,0,0,0]
    |3=>Ku wr.heap.size ww vv [0,0,0,0]
    |4=>∃u,AV W0.heap.size ww vv (rs++[u]) (GL k++[[0,0,0,0]])
    |_=>True) ?_ ?_ ?_ ?_ ?_
   ·intro i hi his vv wz ww' hz0 hbz hz
    match i,hi,his with
    |0,_,hs|1,_,hs=>exact hz
    |2,_,hs=>exact(Do hz hbz (fun k hk=>(hrow k hk).2))
    |3,_,hs=>exact(Ku.past hz hbz (fun k hk=>(hrow k hk).2))
    |4,_,hs=>exact absurd rfl hs
   ·intro vv wz ww' hbz hz
    exact(by obtain⟨u,h⟩:=hz;exact⟨u,h.below hbz⟩)
   ·intro i hi his o ho a wx Hb Hd hG K HK
    match i,hi,his with
    |0,_,_=>exact dF ho rfl (gn rfl) HK rfl VV (eb (SA Hb 4)) rfl
    |1,_,_=>exact dL ho rfl (gn rfl) HK rfl (et (Bx Hd 0)) (Ff ((Du hG hgl hne).trans y0)) rfl
    |2,_,_=>obtain rfl:=So_ ho;clear Hd Hb;obtain⟨i0,hi0,hz0,hz1,hz2⟩:=info_parts Tryz.infoInt;obtain⟨w9,hrun,h3,h4⟩:=run_make_full (P:=prog) wx wx.heap.size 28 3 i0 _ 1 underlying28 hi0 hz0 hz1 .i64 .i64 4 (by rw[hz2];decide) (by decide) (Nat.le_refl _);have h5:=Below.of_grown h4;rw[KS (.int .i64 0) rfl 4] at h3;have hrun':(Instr.makeSlice 28 (.int .i64 4) (.int .i64 4)).run prog wx= .ok (.slice (some ⟨wx.heap.size,0,none⟩) 4 4) w9:=hrun;clear hi0 hz0 hz1 hz2 hrun;refine Aa.of rfl ?_;go_simp;exact HK.out _ _ (Bd h3 hG.size) h5
    |3,_,_=>obtain rfl:=So_ ho;have d2:AE wr.heap.size wx (a.tmps[21]?.getD undef) [0,0,0,0]:=Bx Hd 2;clear Hd Hb;generalize e21:a.tmps[21]?.getD undef=u at d2;have W:=AA d2;obtain⟨_,_,rfl,_⟩:=d2.rd.open;clear d2;refine Aa.of rfl ?_;go_simp;exact HK.out _ _ ⟨_,_,rfl,hG.size,heap_alloc_new _ _,AE.below W.out (AF _ _)⟩ (AF _ _)
    |4,_,hs=>exact absurd rfl hs
   ·intro o ho a wx Hb Hd hG K HK
    obtain rfl:=So_ ho;have d1:(a.tmps[20]?.getD undef)=m:=Bx Hd 1;have d3:Ku wr.heap.size wx (a.tmps[22]?.getD undef) [0,0,0,0]:=Bx Hd 3;clear Hd Hb;obtain⟨u,g9,d3,d3a,d3b,d3c⟩:=d3;have o1':=o1.below hG;obtain⟨i0,hi0,hz0,hz1,hz2⟩:=info_parts Tryz.infoRow;obtain⟨v10,w4,hrun,r1,r2,_,r4⟩:=run_append_own_at (P:=prog) wx W0.heap.size 22 22 28 i0 _ 1 24 underlying22 hi0 hz0 hz1 hz2 rfl (by decide) m rs.length (Bf Dz rs) o1'.1 ⟨g9,0,none⟩ 1 1 [u] rfl (by
     intro j x hx
     match j,hx with
     |0,hx=>simp at hx;subst hx;exact cell_of_row wx g9 0 _ _ _ d3b) (by
     obtain⟨_,_,rfl,_⟩:=d3c.rd.open;simp[Value.oneCell']) (by simp only[maxLen];omega) (by omega) (Nat.le_trans hbel.size hG.size)
    clear hi0 hz0 hz1 hz2;refine Aa.of rfl ?_;refine BR rfl (BC d1) (BC d3) hrun ?_;exact HK.out _ _ ⟨u,o1.push hG hbel.size d3c r1 r2⟩ r2
   ·intro vs wx hR hG
    have q4:∃u,AV W0.heap.size wx (vs 4) (rs++[u]) (GL k++[[0,0,0,0]]):=BT hR 4
    clear hR;simp only[Ai,AQ,List.range,List.range.loop,List.foldl_cons,List.foldl_nil];simp;generalize vs 4=z4 at q4 ⊢;obtain⟨u,q4⟩:=q4;have hB3:=(hG.block g hgl (fun e=>hne e.symm)).trans hB;have hgr:=Aj wx g 0 z4;have St:Sj W0 g (k+1) [] (wx.setCell ⟨g,0,none⟩ z4):=by
     refine⟨z4,iv,ev,rs++[u],ps,?_,hg,?_,?_,?_,?_⟩
     ·have:=heap_setCell_same wx g 0 _ 27 z4 hB3
      simpa using this
     ·rw[show GL (k+1)=GL k++[[0,0,0,0]] by simp[GL,List.replicate_succ']]
      exact q4.far hgr hB3 (by decide) (by decide)
     ·exact AC.far (An o2 hG (BA o2 o1.1 (by decide)).ne) hgr hB3 (by decide)
     ·have hps:ps=[]:=List.eq_nil_of_length_eq_zero (by rw[o3.2.1.1];rfl)
      subst hps;exact A2.far ⟨An o3.1 hG (BA o3.1 o1.1 (by decide)).ne,Ei.nil,Bj.nil⟩ hgr hB3 (by decide) (by decide)
     ·exact(hbel.grown hG hbel.size (fun k hk=>(hrow k hk).1)).setCell hg _
    obtain⟨_,_,rfl,_,_⟩:=q4.1.rd.shape;obtain⟨_,_,rfl,_,_⟩:=o1.1.rd.shape;obtain⟨c0,_,_,_⟩:=AB hB3;have hfz:=AI hB3;simp only[List.length_append,List.length_singleton,hrl] at St;clear hB3 hgr q4 o1 o2 o3 hne hrow y0;go_wp2_with fail;go_roundw
    case rel=>exact⟨k+1,by omega,by go_num,St⟩
    case measure=>simp[intOf];omega
  ·obtain rfl:k=12:=by omega
   have St:Sj W0 g 12 (DZ (tss.take 0)) wr:=⟨m,iv,ev,rs,ps,hB,hg,o1,o2,o3,hbel⟩;clear hB o1 o2 o3 hbel;go_wp2_with fail;rw[show((12:Nat):Int)=12 from rfl];go_loopw [28] (fun i wr=>∃k:Nat,k≤3∧i= .int .i64 k∧Sj W0 g 12 (DZ (tss.take k)) wr) (fun i _=>3 - (intOf i).toNat)
   case atStart=>exact⟨0,by omega,rfl,St⟩
   case round=>
    clear St;obtain⟨k,hk,rfl,m,iv,ev,rs,ps,hB,hg,o1,o2,o3,hbel⟩:=hrel
    by_cases hlt:k<3
    ·have hlv:k<vs.length:=by have:=Hv3.out;omega
     obtain⟨u,hu⟩:∃u,vs[k]? =some u:=⟨_,List.getElem?_eq_getElem hlv⟩
     obtain⟨ts,hts⟩:∃ts,tss[k]? =some ts:=⟨_,List.getElem?_eq_getElem (by rw[H3.out];exact hlt)⟩
     have Ru:=HB.out.2 k u ts hu hts;have hok:=Hok.out ts (List.mem_of_getElem? hts);obtain⟨b,off,rfl,hbl0,hcell⟩:=H0 k u hu;have Dw:w.cell? ⟨b,off+k,none⟩=some u:=by simpa using hcell 0 u rfl
     have hbw:=hb0.trans (hbel.mono hb0.size);have D:wr.cell? ⟨b,off+k,none⟩=some u:=(hbw.cell (World.block_lt_of_cell? w _ Dw)).trans Dw;have Hts:=AA hts;have htl:ts.length≤6:=by simp only[Ax,Bool.and_eq_true,decide_eq_true_eq] at hok;exact hok.2
     have hrl:ps.length=k:=by rw[o3.2.1.1];simp[DZ];have:=H3.out;omega
     have hne:=Bs o3.1 hB (by decide);have hgl:=Aq hB;have y2:=(AB hB).2.2.1;have hrow:=fun k hk=>(World.ownsRow.lt o3.1 k hk)
     have k3:(k:Int)<3:=by omega
     have c3:(3:Int)≤cv:=by omega
     have CS:=AA (fun W (hW:Below wr.heap.size wr W)=>EV u ts W (A6.below (A6.below Ru hbw) hW) (by omega));have hRu:=AA Ru;obtain⟨ua,uc,rfl,_,_⟩:=A6.shape Ru;clear hu hts Dw hcell hok Ru;go_wp2_with fail;have hso:Below wr.heap.size wr wr:=Below.refl _ _;refine Jr 7 mixed (by kernel_rfl) 42 rfl (by kernel_rfl) 6 (ev.ownBlock) (fun ix vv ww=>match ix with
      |0=>vv= .pointer (some ⟨g,2,none⟩)
      |1=>vv=ev
      |2=>vv= .slice ua ts.length uc
      |3=>AC wr.heap.size 9 1 Ag ww vv ts
      |4=>∃r,vv= .agg #[r, .int .i64 (-1)]∧AC wr.heap.size 9 1 Ag ww r ts
      |5=>Kt wr.heap.size ww vv ts
      |6=>∃r,A2 W0.heap.size ww vv (ps++[(r,-1)]) (DZ (tss.take k)++[⟨ts,-1⟩])
      |_=>True) ?_ ?_ ?_ ?_ ?_
     ·intro i hi his vv wz ww' hz0 hbz hz
      match i,hi,his with
      |0,_,hs|1,_,hs|2,_,hs=>exact hz
      |3,_,hs=>exact(Do hz hbz (fun k hk=>(hrow k hk).2))
      |4,_,hs=>exact(by obtain⟨r,h0,h1⟩:=hz;exact⟨r,h0,Do h1 hbz (fun k hk=>(hrow k hk).2)⟩)
      |5,_,hs=>exact(Kt.past hz hbz (fun k hk=>(hrow k hk).2))
      |6,_,hs=>exact absurd rfl hs
     ·intro vv wz ww' hbz hz
      exact(by obtain⟨u,h⟩:=hz;exact⟨u,h.below hbz⟩)
     ·intro i hi his o ho a wx Hb Hd hG K HK
      match i,hi,his with
      |0,_,_=>exact dF ho rfl (gn rfl) HK rfl VW (eb (SA Hb 4)) rfl
      |1,_,_=>exact dL ho rfl (gn rfl) HK rfl (et (Bx Hd 0)) (MX ((Du hG hgl hne).trans y2)) rfl
      |2,_,_=>exact dM ho rfl (gn rfl) HK rfl (eb (SA Hb 6)) rfl
      |3,_,_=>obtain rfl:=So_ ho;have d2:(a.tmps[34]?.getD undef)= .slice ua ts.length uc:=Bx Hd 2;clear Hd Hb;refine Aa.of rfl ?_;go_simp;refine(EV _ ts wx (A6.keep hRu.out (fun k hk=>(hG.block k (Nat.lt_of_lt_of_le hk hbw.size) (fun e=>by have:=(hrow k e.symm).1;have:=hb0.size;omega)).trans (hbw.block k hk))) (by omega)).mono ?_;rintro e w_ ⟨v',rfl,hO,hb2⟩;exact HK.out _ _ (hO.lower hG.size) hb2
      |4,_,_=>obtain rfl:=So_ ho;have d3:AC wr.heap.size 9 1 Ag wx (a.tmps[35]?.getD undef) ts:=Bx Hd 3;clear Hd Hb;generalize e35:a.tmps[35]?.getD undef=u at d3;have W:=AA d3;obtain⟨_,_,rfl,_,_⟩:=d3.rd.shape;clear d3;refine Aa.of rfl ?_;go_simp;exact HK.out _ _ ⟨_,rfl,W.out⟩ (Below.refl _ _)
      |5,_,_=>
       obtain rfl:=So_ ho;have d4:∃r,(a.tmps[36]?.getD undef)= .agg #[r, .int .i64 (-1)]∧AC wr.heap.size 9 1 Ag wx r ts:=Bx Hd 4
       clear Hd Hb;obtain⟨r,d4,d4a⟩:=d4;refine Aa.of rfl ?_;go_simp;exact HK.out _ _ ⟨r,_,rfl,hG.size,heap_alloc_new _ _,AC.below d4a (AF _ _)⟩ (AF _ _)
      |6,_,hs=>exact absurd rfl hs
     ·intro o ho a wx Hb Hd hG K HK
      obtain rfl:=So_ ho;have d1:(a.tmps[33]?.getD undef)=ev:=Bx Hd 1;have d5:Kt wr.heap.size wx (a.tmps[37]?.getD undef) ts:=Bx Hd 5;clear Hd Hb;obtain⟨u,g9,d5,d5a,d5b,d5c⟩:=d5;have o3':=o3.below hG;obtain⟨i0,hi0,hz0,hz1,hz2⟩:=info_parts Tryz.infoEnv;obtain⟨v10,w4,hrun,r1,r2,_,r4⟩:=run_append_own_at (P:=prog) wx W0.heap.size 24 24 62 i0 _ 2 32 underlying24 hi0 hz0 hz1 hz2 rfl (by decide) ev ps.length (Bf DO ps) o3'.1 ⟨g9,0,none⟩ 1 1 [u, .int .i64 (-1)] rfl (by
       intro j x hx
       match j,hx with
       |0,hx=>simp at hx;subst hx;exact cell_of_row wx g9 0 _ _ _ d5b
       |1,hx=>simp at hx;subst hx;exact cell_of_row wx g9 1 _ _ _ d5b) (by
       obtain⟨_,_,rfl,_,_⟩:=d5c.rd.shape;simp[Value.oneCell']) (by simp only[maxLen];omega) (by omega) (Nat.le_trans hbel.size hG.size)
      clear hi0 hz0 hz1 hz2;refine Aa.of rfl ?_;refine BR rfl (BC d1) (BC d5) hrun ?_;exact HK.out _ _ ⟨u,o3.push hG hbel.size (Nat.le_refl _) d5c r1 r2⟩ r2
     ·intro vs wx hR hG
      have q6:∃r,A2 W0.heap.size wx (vs 6) (ps++[(r,-1)]) (DZ (tss.take k)++[⟨ts,-1⟩]):=BT hR 6
      clear hR;simp only[Ai,AQ,List.range,List.range.loop,List.foldl_cons,List.foldl_nil];simp;generalize vs 6=z6 at q6 ⊢;obtain⟨r,q6⟩:=q6;have hB3:=(hG.block g hgl (fun e=>hne e.symm)).trans hB;have hgr:=Aj wx g 2 z6;have St:Sj W0 g 12 (DZ (tss.take (k+1))) (wx.setCell ⟨g,2,none⟩ z6):=by
       have e1:DZ (tss.take (k+1))=DZ (tss.take k)++[⟨ts,-1⟩]:=by rw[DI Hts.out];simp[DZ]
       rw[e1];refine⟨m,iv,z6,rs,_,?_,hg,?_,?_,q6.far hgr hB3 (by decide) (by decide),?_⟩
       ·have:=heap_setCell_same wx g 2 _ 27 z6 hB3
        simpa using this
       ·exact AV.far (o1.kept hG o3.1 (by decide) (by decide)) hgr hB3 (by decide) (by decide)
       ·exact AC.far (An o2 hG (BA o2 o3.1 (by decide)).ne) hgr hB3 (by decide)
       ·exact(hbel.grown hG hbel.size (fun k hk=>(hrow k hk).1)).setCell hg _
      obtain⟨_,_,rfl,_,_⟩:=q6.1.rd.shape;obtain⟨_,_,rfl,_,_⟩:=o3.1.rd.shape;obtain⟨_,_,c2,_⟩:=AB hB3;have hfz:=AI hB3;simp only[List.length_append,List.length_singleton,hrl] at St;clear hB3 hgr q6 o1 o2 o3 hne hrow y2;go_wp2_with fail;go_roundw
      case rel=>exact⟨k+1,by omega,by go_num,St⟩
      case measure=>simp[intOf];omega
    ·obtain rfl:k=3:=by omega
     have e3:tss.take 3=tss:=List.take_of_length_le (by rw[H3.out];omega);rw[e3] at o3;have hne:g≠w.heap.size:=by omega
     have hBs:=(hbel.block _ (by omega)).trans N0;have S:=AA (show ∀w',wr.grownBy w' (some w.heap.size)→Uv w true (KW tss) (.returned (.tuple #[.agg #[m,iv,ev, .slice none 0 0], .bool true])) w' from fun w' hg'=>⟨m,iv,ev,_,rfl,⟨⟨rs,(o1.far hg' hBs (by decide) (by decide)).lower hb0.size⟩,(o2.far hg' hBs (by decide)).lower hb0.size,⟨ps,(o3.far hg' hBs (by decide) (by decide)).lower hb0.size⟩,Es _ _ _ _ _⟩,(hb0.trans (hbel.mono hb0.size)).grown hg' (hb0.trans (hbel.mono hb0.size)).size (fun k hk=>by cases hk;exact Nat.le_refl _)⟩)
     have hgr:wr.grownBy ((((wr.setCell ⟨w.heap.size,0,none⟩ m).setCell ⟨w.heap.size,1,none⟩ iv).setCell ⟨w.heap.size,2,none⟩ ev).setCell ⟨w.heap.size,3,none⟩ (.slice none 0 0)) (some w.heap.size):=AZ (AZ (AZ (Aj wr w.heap.size 0 m) 1 iv) 2 ev) 3 _;obtain⟨E0,E1,E2,E3⟩:=AB (DB (m':=m) (i':=iv) (e':=ev) (c':= .slice none 0 0) hBs);have HE:=AA (And.intro E0 (And.intro E1 (And.intro E2 E3)));clear E0 E1 E2 E3;obtain⟨_,_,rfl,_,_⟩:=o1.1.rd.shape;obtain⟨_,_,rfl,_,_⟩:=o2.rd.shape;obtain⟨_,_,rfl,_,_⟩:=o3.1.rd.shape;obtain⟨c0,c1,c2,c3⟩:=AB hB;obtain⟨d0,d1,d2,d3⟩:=AB hBs;have hfz:=AI hBs;clear hB hBs o1 o2 o3 e3;simp only[List.length_replicate] at HE S hgr ⊢;go_wp2_with fail;obtain⟨E0,E1,E2,E3⟩:=HE.out;exact bodyPost_ret (v:= .tuple #[.agg #[_,_,_,_], .bool true]) (by simp[results,Tryz.results15,go_sem,E0,E1,E2,E3]) rfl (S.out _ hgr)
def G2 (lo:Nat) (w:World) (g:Nat) (m i e c:Value) (k:AH):Prop:=w.heap[g]? =some (.cells #[m,i,e,c] 27 (0,0))∧lo≤g∧Ct lo w m i e c k
theorem G2.below {lo g:Nat} {w w':World} {m i e c:Value} {k:AH} (h:G2 lo w g m i e c k) (hb:Below w.heap.size w w'):G2 lo w' g m i e c k:=⟨AG h.1 hb,h.2.1,h.2.2.below hb⟩
theorem G2.cells {lo g:Nat} {w:World} {m i e c:Value} {k:AH} (h:G2 lo w g m i e c k):w.cell? ⟨g,0,none⟩=some m∧w.cell? ⟨g,1,none⟩=some i∧w.cell? ⟨g,2,none⟩=some e∧w.cell? ⟨g,3,none⟩=some c:=AB h.1
section
variable {lo g:Nat} {w w1:World} {m i e c:Value} {k:AH}
theorem JM {b T:Nat} {cur:Array Value} (hB:w.heap[g]? =some (.cells #[m,i,e,c] 27 (0,0))) (hg:w.grownBy w1 (some b)) (hb:w.heap[b]? =some (.cells cur T (0,0))) (hT:27≠T):w1.heap[g]? =some (.cells #[m,i,e,c] 27 (0,0)):=by
 refine(hg.block g (Aq hB) fun he=>?_).trans hB;cases he;rw[hB] at hb;simp at hb;exact hT hb.2
theorem G2.infos (h:G2 lo w g m i e c k) (hlo:lo≤w.heap.size) (hb:Below w.heap.size w w1) {i':Value} {xs:List AL} (h2:AC w.heap.size 91 3 AX w1 i' xs):G2 lo (w1.setCell ⟨g,1,none⟩ i') g m i' e c {k with infos:=xs}:=by obtain⟨hB,hg,⟨vs,o1⟩,o2,⟨ps,o3⟩,o4⟩:=h.below hb;have hgr:=Aj w1 g 1 i';refine⟨?_,hg,⟨vs,o1.far hgr hB (by decide) (by decide)⟩,(h2.lower hlo).far hgr hB (by decide),⟨ps,o3.far hgr hB (by decide) (by decide)⟩,o4.far hgr hB (by decide)⟩;have:=heap_setCell_same w1 g 1 _ 27 i' hB;simpa using this
theorem G2.cache (h:G2 lo w g m i e c k) (hlo:lo≤w.heap.size) (hb:Below w.heap.size w w1) {c':Value} {xs:List AU} (h2:AC w.heap.size 95 4 AJ w1 c' xs):G2 lo (w1.setCell ⟨g,3,none⟩ c') g m i e c' {k with cache:=xs}:=by obtain⟨hB,hg,⟨vs,o1⟩,o2,⟨ps,o3⟩,o4⟩:=h.below hb;have hgr:=Aj w1 g 3 c';refine⟨?_,hg,⟨vs,o1.far hgr hB (by decide) (by decide)⟩,o2.far hgr hB (by decide),⟨ps,o3.far hgr hB (by decide) (by decide)⟩,(h2.lower hlo).far hgr hB (by decide)⟩;have:=heap_setCell_same w1 g 3 _ 27 c' hB;simpa using this
theorem G2.info {gi n cap:Nat} (h:G2 lo w g m (.slice (some ⟨gi,0,none⟩) n cap) e c k) (hn:n=k.infos.length) {f j:Nat} {x y:AL} {u:Value} (hk:k.infos[f]? =some x) (hj:j<3) (hy:AX y=(AX x).set j u):
 G2 lo (w.setCell ⟨gi,f*3+j,none⟩ u) g m (.slice (some ⟨gi,0,none⟩) n cap) e c {k with infos:=k.infos.set f y}∧w.grownBy (w.setCell ⟨gi,f*3+j,none⟩ u) (some gi)∧lo≤gi:=by
 obtain⟨hB,hg,⟨vs,o1⟩,o2,⟨ps,o3⟩,o4⟩:=h;subst hn;have S:=AC.stored1 Ak o2 hk hj hy;obtain⟨cur,hc⟩:=A8 o2 gi rfl;exact⟨⟨JM hB S.2 hc (by decide),hg,⟨vs,o1.far S.2 hc (by decide) (by decide)⟩,S.1,⟨ps,o3.far S.2 hc (by decide) (by decide)⟩,o4.far S.2 hc (by decide)⟩,S.2,(World.ownsRow.lt o2 gi rfl).1⟩
end
theorem AV.turn {lo:Nat} {w w':World} {v u:Value} {vs:List Value} {m:List (List Int)} {f:Nat} {r:List Int} (h:AV lo w v vs m) (hf:f<m.length) (hu:vs[f]? =some u) (hr:AE lo w' u r) (hg:w.grownBy w' u.ownBlock):AV lo w' v vs (m.set f r):=by
 obtain⟨a1,a2,a3⟩:=h;have hx:=a2.2 f u _ hu (List.getElem?_eq_getElem hf);refine⟨An a1 hg (BA a1 hx JJ).ne,⟨by rw[List.length_set];exact a2.1,fun j y ys hy hys=>?_⟩,a3⟩
 by_cases e:f=j
 ·subst e
  rw[hu] at hy;cases hy;rw[List.getElem?_set_self hf] at hys;cases hys;exact hr
 ·rw[List.getElem?_set_ne e] at hys
  exact An (a2.2 j y ys hy hys) hg (a3 j f y u (fun h=>e h.symm) hy hu).ne
theorem AV.row {lo:Nat} {w:World} {v:Value} {vs:List Value} {m:List (List Int)} (h:AV lo w v vs m) {f:Nat} (hf:f<m.length) (h0:0<(AK m f).length):
 ∃gw cap,vs[f]? =some (.slice (some ⟨gw,0,none⟩) (AK m f).length cap)∧AE lo w (.slice (some ⟨gw,0,none⟩) (AK m f).length cap) (AK m f)∧lo≤gw∧gw<w.heap.size:=by
 obtain⟨a1,a2,a3⟩:=h;obtain⟨u,hu⟩:∃u,vs[f]? =some u:=⟨_,List.getElem?_eq_getElem (by rw[a2.1];exact hf)⟩
 have hx:=a2.2 f u (AK m f) hu (by unfold AK;exact Ba hf);obtain⟨gw,cap,rfl,h1,h2⟩:=JW hx h0;exact⟨gw,cap,hu,hx,h1,h2⟩
section
variable {lo g:Nat} {w w1:World} {m i e c:Value} {k:AH}
theorem G2.row (h:G2 lo w g m i e c k) {vs:List Value} (hv:AV lo w m vs k.mem) {f gw n cap:Nat} {r:List Int} (hf:f<k.mem.length) (hu:vs[f]? =some (.slice (some ⟨gw,0,none⟩) n cap)) (hr:AE lo w1 (.slice (some ⟨gw,0,none⟩) n cap) r) (hg:w.grownBy w1 (some gw)):
 G2 lo w1 g m i e c {k with mem:=k.mem.set f r}:=by
 obtain⟨hB,hg0,_,o2,⟨ps,o3⟩,o4⟩:=h;have hx:=hv.2.1.2 f _ _ hu (List.getElem?_eq_getElem hf);obtain⟨cur,hc⟩:=A8 hx gw rfl;exact⟨JM hB hg hc (by decide),hg0,⟨vs,hv.turn hf hu hr hg⟩,o2.far hg hc (by decide),⟨ps,o3.far hg hc (by decide) (by decide)⟩,o4.far hg hc (by decide)⟩
theorem G2.root {ge n cap:Nat} (h:G2 lo w g m i (.slice (some ⟨ge,0,none⟩) n cap) c k) (hn:n=k.envs.length) {j:Nat} (hj:j<k.envs.length) (r:Int):
 G2 lo (w.setCell ⟨ge,j*2+1,none⟩ (.int .i64 r)) g m i (.slice (some ⟨ge,0,none⟩) n cap) c {k with envs:=AR k.envs j (Bl r)}∧w.grownBy (w.setCell ⟨ge,j*2+1,none⟩ (.int .i64 r)) (some ge)∧lo≤ge:=by
 obtain⟨hB,hg,⟨vs,o1⟩,o2,⟨ps,a1,a2,a3⟩,o4⟩:=h;have hpl:ps.length=k.envs.length:=a2.1;rw[←hpl] at hn;subst hn;have hjp:j<ps.length:=by omega
 have S:=AC.stored1 EO a1 (k:=j) (x:=ps[j]) (List.getElem?_eq_getElem hjp) (j:=1) (by decide) (y:=(ps[j].1,r)) (u:= .int .i64 r) rfl;obtain⟨cur,hc⟩:=A8 a1 ge rfl;refine⟨⟨JM hB S.2 hc (by decide),hg,⟨vs,o1.far S.2 hc (by decide) (by decide)⟩,o2.far S.2 hc (by decide),⟨ps.set j (ps[j].1,r),?_,⟨?_,?_⟩,?_⟩,o4.far S.2 hc (by decide)⟩,S.2,(World.ownsRow.lt a1 ge rfl).1⟩
 ·exact S.1
 ·rw[List.length_set,As];exact hpl
 ·intro q p ev hp hev
  rw[IF (d:=⟨[],0⟩)] at hev
  by_cases e:j=q
  ·subst e
   rw[List.getElem?_set_self hjp] at hp;rw[List.getElem?_set_self hj] at hev;cases hp;cases hev;have hx:=a2.2 j ps[j] (k.envs.getD j ⟨[],0⟩) (List.getElem?_eq_getElem hjp) (Ba hj);exact⟨hx.1.far S.2 hc (by decide),rfl⟩
  ·rw[List.getElem?_set_ne e] at hp hev
   have hx:=a2.2 q p ev hp hev;exact⟨hx.1.far S.2 hc (by decide),hx.2⟩
 ·rw[List.map_set,show ps[j].1=(ps.map (·.1))[j]'(by simpa using hjp) by simp,List.set_getElem_self]
  exact a3
theorem G2.rights {ge n cap:Nat} (h:G2 lo w g m i (.slice (some ⟨ge,0,none⟩) n cap) c k) (hn:n=k.envs.length) (hlo:lo≤w.heap.size) (hb:Below w.heap.size w w1) {j:Nat} (hj:j<k.envs.length) {u:Value} {ss:List ByteArray} (hu:AC w.heap.size 9 1 Ag w1 u ss):
 G2 lo (w1.setCell ⟨ge,j*2,none⟩ u) g m i (.slice (some ⟨ge,0,none⟩) n cap) c {k with envs:=AR k.envs j (A7 ss)}∧w1.grownBy (w1.setCell ⟨ge,j*2,none⟩ u) (some ge)∧lo≤ge:=by
 have h':=h.below hb;obtain⟨hB0,hg0,_,_,⟨ps0,b1,b2,b3⟩,_⟩:=h;obtain⟨hB,hg,⟨vs,o1⟩,o2,_,o4⟩:=h';have a1:=AC.below b1 hb;have hpl:ps0.length=k.envs.length:=b2.1;rw[←hpl] at hn;subst hn;have hjp:j<ps0.length:=by omega
 have S:=AC.stored1 EO a1 (k:=j) (x:=ps0[j]) (List.getElem?_eq_getElem hjp) (j:=0) (by decide) (y:=(u,ps0[j].2)) (u:=u) rfl;rw[Nat.add_zero] at S;obtain⟨cur,hc⟩:=A8 a1 ge rfl;have hne:9≠62:=by decide
 refine⟨⟨JM hB S.2 hc (by decide),hg,⟨vs,o1.far S.2 hc (by decide) (by decide)⟩,o2.far S.2 hc (by decide),⟨ps0.set j (u,ps0[j].2),?_,⟨?_,?_⟩,?_⟩,o4.far S.2 hc (by decide)⟩,S.2,(World.ownsRow.lt a1 ge rfl).1⟩
 ·exact S.1
 ·rw[List.length_set,As];exact hpl
 ·intro q p ev hp hev
  rw[IF (d:=⟨[],0⟩)] at hev
  by_cases e:j=q
  ·subst e
   rw[List.getElem?_set_self hjp] at hp;rw[List.getElem?_set_self hj] at hev;cases hp;cases hev;have hx:=b2.2 j ps0[j] (k.envs.getD j ⟨[],0⟩) (List.getElem?_eq_getElem hjp) (Ba hj);exact⟨(hu.lower hlo).far S.2 hc hne,hx.2⟩
  ·rw[List.getElem?_set_ne e] at hp hev
   have hx:=b2.2 q p ev hp hev;exact⟨(hx.1.below hb).far S.2 hc hne,hx.2⟩
 ·rw[List.map_set]
  intro x y a b hxy ha hb';have far:∀(q:Nat) (p:Value×Int),ps0[q]? =some p→Ey p.1 u:=fun q p hq=>by
   obtain⟨ev,hev⟩:∃ev,k.envs[q]? =some ev:=⟨_,List.getElem?_eq_getElem (by rw[←hpl];exact(List.getElem?_eq_some_iff.1 hq).1)⟩
   exact IH (B:=0) (b2.2 q p ev hq hev).1 (fun k hk=>(hu.lt k hk).1)
  by_cases e1:j=x
  ·subst e1
   rw[List.getElem?_set_self (by simpa using hjp)] at ha;cases ha;rw[List.getElem?_set_ne hxy] at hb';rw[List.getElem?_map] at hb';obtain⟨p,hp,rfl⟩:=Option.map_eq_some_iff.1 hb';exact(far y p hp).symm
  ·rw[List.getElem?_set_ne e1] at ha
   by_cases e2:j=y
   ·subst e2
    rw[List.getElem?_set_self (by simpa using hjp)] at hb';cases hb';rw[List.getElem?_map] at ha;obtain⟨p,hp,rfl⟩:=Option.map_eq_some_iff.1 ha;exact far x p hp
   ·rw[List.getElem?_set_ne e2] at hb'
    exact b3 x y a b hxy ha hb'
end
def Ev {α:Type} (f:Int→α) (c:Nat) (k:Int) (n:Nat):List α:=(List.range n).map fun(j:Nat)=>f (k+c*j)
theorem Ge {α:Type} (f:Int→α) (c:Nat) (k:Int) (n:Nat):(Ev f c k n).length=n:=by simp[Ev]
theorem I5 {α:Type} (f:Int→α) (c:Nat) (k:Int) {n j:Nat} (h:j<n):(Ev f c k n)[j]? =some (f (k+c*j)):=by simp[Ev,h]
theorem KU {α:Type} {f:Int→α} {c:Nat} {k:Int} {n:Nat} {ys:List α} (hl:ys.length=n) (h:∀j,j<n→ys[j]? =some (f (k+c*j))):ys=Ev f c k n:=by
 refine List.ext_getElem? fun j=>?_
 by_cases hj:j<n
 ·rw[h j hj,I5 _ _ _ hj]
 ·rw[List.getElem?_eq_none (by omega),List.getElem?_eq_none (by rw[Ge];omega)]
theorem Ln {α:Type} {ys:List α} {q:Nat} {f:Nat→α} (h:∀j,j<q→ys[j]? =some (f j)) (hq:q<ys.length) {y:α} (hy:y=f q):∀j,j<q+1→(ys.set q y)[j]? =some (f j):=by
 intro j hj;subst hy
 by_cases e:j=q
 ·subst e;simp[hq]
 ·rw[List.getElem?_set_ne (by omega)];exact h j (by omega)
def JA (k:Int):AL:=⟨k,D6 (k+1),k+1+1⟩
def GE (k:Int):AU:=⟨k,k+1,k+1+1,(k+1+1+1)%3==0⟩
def Gs (k:Int):DR:=⟨k,k+1,(k+1+1)%3==0⟩
section
variable {α:Type} {lo e sz n:Nat} {cs:α→List Value} {w:World} {g cap q:Nat} {ys:List α}
theorem AC.putN (hs:∀x,(cs x).length=sz) (h:AC lo e sz cs w (.slice (some ⟨g,0,none⟩) n cap) ys) (hl:ys.length=n) {x:α} (j:Nat) (y:α) (u:Value) (hk:ys[q]? =some x) (hj:j<sz) (hy:cs y=(cs x).set j u):
 AC lo e sz cs (w.setCell ⟨g,q*sz+j,none⟩ u) (.slice (some ⟨g,0,none⟩) n cap) (ys.set q y)∧w.grownBy (w.setCell ⟨g,q*sz+j,none⟩ u) (some g):=by
 subst hl;exact AC.stored1 hs h hk hj hy
theorem AC.storedN (hs:∀x,(cs x).length=sz) (h:AC lo e sz cs w (.slice (some ⟨g,0,none⟩) n cap) ys) (hl:ys.length=n) (hq:q<n) (y:α):
 AC lo e sz cs (Eg w g (q*sz) 0 (cs y)) (.slice (some ⟨g,0,none⟩) n cap) (ys.set q y)∧w.grownBy (Eg w g (q*sz) 0 (cs y)) (some g):=by
 subst hl;exact AC.stored hs h hq y
theorem AC.cellsN (hs:∀x,(cs x).length=sz) (h:AC lo e sz cs w (.slice (some ⟨g,0,none⟩) n cap) ys) (hl:ys.length=n) {x:α} (hk:ys[q]? =some x):∀(j:Nat) u,(cs x)[j]? =some u→w.cell? ⟨g,q*sz+j,none⟩=some u:=by subst hl;exact AC.cellsAt hs h hk
theorem AC.frozenN (h:AC lo e sz cs w (.slice (some ⟨g,0,none⟩) n cap) ys) (hl:ys.length=n):∀j,w.frozen? ⟨g,j,none⟩=false:=by
 subst hl;exact fun j=>World.ownsRow.frozenAt h j
theorem Ui {α:Type} {ys:List α} {q:Nat} {x y:α} (hx:ys[q]? =some x):(ys.set q y)[q]? =some y:=by rw[List.getElem?_set_self (List.getElem?_eq_some_iff.1 hx).1]
theorem KR {α:Type} {ys:List α} {q:Nat} {x:α} (hx:ys[q]? =some x):q<ys.length:=(List.getElem?_eq_some_iff.1 hx).1
end
theorem Ld (lo:Nat) (v:Value) (xs:List ByteArray) (k:Int) (w:World) (h:AC lo 9 1 Ag w v xs) (hs:xs.length≤1000) (hk0:0≤k) (hk1:k≤1000000):
 Calls prog 68 #[v, .int .i64 k] w fun e w'=>e= .returned (.int .i64 (k+1*xs.length))∧AC lo 9 1 Ag w' v (Ev D6 1 k xs.length)∧w.grownBy w' v.ownBlock:=by
 by_cases hz:xs.length=0
 ·obtain⟨a,cp,rfl,_,_⟩:=h.rd.shape
  obtain rfl:=List.eq_nil_of_length_eq_zero hz;have Ho:=AA h;go_in;go_wp2_with fail;refine wp_loop_rounds 1 ?_;rw[rounds_succ];go_wp2_with fail;go_ret;exact⟨BQ (by simp),Ho.out,⟨rfl,rfl,rfl,Nat.le_refl _,fun _ _ _=>rfl⟩⟩
 ·obtain⟨g,cap,rfl,_,_,hg1,hg2,_⟩:=AC.shapeOwn h (by omega)
  have Hz:=AA hz;clear hz;have HO:=AA h;clear h;generalize hn:xs.length=n at*;have Hn:=AA hn;clear hn;go_in;go_wp2_with fail;go_loopw [1,5] (fun m i wr=>∃q:Nat,q≤n∧i= .int .i64 q∧m= .int .i64 (k+1*q)∧(∃ys:List ByteArray,ys.length=n∧(∀j,j<q→ys[j]? =some (D6 (k+1*j)))∧AC lo 9 1 Ag wr (.slice (some ⟨g,0,none⟩) n cap) ys)∧w.grownBy wr (some g)) (fun _ i _=>n - (intOf i).toNat)
  case atStart=>exact⟨0,Nat.zero_le _,rfl,by simp,⟨xs,Hn.out,fun j hj=>absurd hj (Nat.not_lt_zero _),HO.out⟩,⟨rfl,rfl,rfl,Nat.le_refl _,fun _ _ _=>rfl⟩⟩
  case round=>
   obtain⟨q,hq,rfl,rfl,⟨ys,hl,hpre,hO⟩,hgr⟩:=hrel;have Hgr:=AA hgr;clear hgr;have Hl:=AA hl;clear hl;have Hpre:=AA hpre;clear hpre
   by_cases hlt:q<n
   ·obtain⟨x,hx⟩:∃x,ys[q]? =some x:=⟨_,List.getElem?_eq_getElem (by have:=Hl.out;omega)⟩
    have Hx:=AA hx;clear hx;have HY:=AA hO;have hO1:=AA hO;clear hO;go_wp2_with fail;refine(GY _ _ (by omega) (by omega)).mono ?_;rintro e w1 ⟨rfl,hbel1⟩;have T:=AC.below HY.out hbel1;have C:=AC.cellsN DE T Hl.out Hx.out;have F:=AC.frozenN T Hl.out;have E0:w1.cell? ⟨g,q,none⟩=some (.string x):=by simpa using C 0 _ rfl
    have SF:=AC.storedN DE T Hl.out hlt (D6 (k+1*q));rw[Nat.mul_one,Int.one_mul] at SF;have SF:=AA SF;have HG:=AA (Bp Hgr.out (Cy hbel1 _));clear C T hbel1;go_wp2_with fail;go_roundw
    case rel=>exact⟨q+1,by omega,by go_num,by go_num,⟨_,by simpa using Hl.out,Ln (f:=fun(j:Nat)=>D6 (k+1*j)) Hpre.out (KR Hx.out) (by first|rfl|simp),SF.out.1⟩,Bp HG.out SF.out.2⟩
    case measure=>simp[intOf];omega
   ·obtain rfl:q=n:=by omega
    have HE:=AA (KU (f:=D6) (c:=1) Hl.out Hpre.out);have HY:=AA hO;clear hO;go_wp2_with fail;go_ret;exact⟨rfl,by rw[←HE.out];exact HY.out,Hgr.out⟩
theorem NK (lo:Nat) (v:Value) (xs:List AL) (k:Int) (w:World) (h:AC lo 91 3 AX w v xs) (hs:xs.length≤1000) (hk0:0≤k) (hk1:k≤1000000):
 Calls prog 48 #[v, .int .i64 k] w fun e w'=>e= .returned (.int .i64 (k+3*xs.length))∧AC lo 91 3 AX w' v (Ev JA 3 k xs.length)∧w.grownBy w' v.ownBlock:=by
 by_cases hz:xs.length=0
 ·obtain⟨a,cp,rfl,_,_⟩:=h.rd.shape
  obtain rfl:=List.eq_nil_of_length_eq_zero hz;have Ho:=AA h;go_in;go_wp2_with fail;refine wp_loop_rounds 1 ?_;rw[rounds_succ];go_wp2_with fail;go_ret;exact⟨BQ (by simp),Ho.out,⟨rfl,rfl,rfl,Nat.le_refl _,fun _ _ _=>rfl⟩⟩
 ·obtain⟨g,cap,rfl,_,_,hg1,hg2,_⟩:=AC.shapeOwn h (by omega)
  have Hz:=AA hz;clear hz;have HO:=AA h;clear h;generalize hn:xs.length=n at*;have Hn:=AA hn;clear hn;go_in;go_wp2_with fail;go_loopw [1,5] (fun m i wr=>∃q:Nat,q≤n∧i= .int .i64 q∧m= .int .i64 (k+3*q)∧(∃ys:List AL,ys.length=n∧(∀j,j<q→ys[j]? =some (JA (k+3*j)))∧AC lo 91 3 AX wr (.slice (some ⟨g,0,none⟩) n cap) ys)∧w.grownBy wr (some g)) (fun _ i _=>n - (intOf i).toNat)
  case atStart=>exact⟨0,Nat.zero_le _,rfl,by simp,⟨xs,Hn.out,fun j hj=>absurd hj (Nat.not_lt_zero _),HO.out⟩,⟨rfl,rfl,rfl,Nat.le_refl _,fun _ _ _=>rfl⟩⟩
  case round=>
   obtain⟨q,hq,rfl,rfl,⟨ys,hl,hpre,hO⟩,hgr⟩:=hrel;have Hgr:=AA hgr;clear hgr;have Hl:=AA hl;clear hl;have Hpre:=AA hpre;clear hpre
   by_cases hlt:q<n
   ·obtain⟨x,hx⟩:∃x,ys[q]? =some x:=⟨_,List.getElem?_eq_getElem (by have:=Hl.out;omega)⟩
    have Hx:=AA hx;clear hx;have HY:=AA hO;have C:=AC.cellsN Ak hO Hl.out Hx.out;have F:=AC.frozenN hO Hl.out;have E0:wr.cell? ⟨g,q*3,none⟩=some _:=C 0 _ rfl;have S0:=AA (AC.putN Ak hO Hl.out 0 ⟨k+3*q,x.g,x.r⟩ (.int .i64 (k+3*q)) Hx.out (by decide) rfl);clear C hO;go_wp2_with fail;refine(GY _ _ (by omega) (by omega)).mono ?_;rintro e w1 ⟨rfl,hbel1⟩;have T:=AC.below S0.out.1 hbel1;have HG:=AA (Bp (Bp Hgr.out S0.out.2) (Cy hbel1 _));have Hx1:=AA (Ui (y:=(⟨k+3*q,x.g,x.r⟩:AL)) Hx.out);have Hl1:=AA (show(ys.set q (⟨k+3*q,x.g,x.r⟩:AL)).length=n by simpa using Hl.out);have C:=AC.cellsN Ak T Hl1.out Hx1.out;have F:=AC.frozenN T Hl1.out;have E1:=C 1 _ rfl;have E2:=C 2 _ rfl;have S1:=AC.putN Ak T Hl1.out 1 ⟨k+3*q,D6 (k+3*q+1),x.r⟩ (.string (D6 (k+3*q+1))) Hx1.out (by decide) rfl;have S2:=AC.putN Ak S1.1 (by simpa using Hl1.out) 2 (JA (k+3*q)) (.int .i64 (k+3*q+1+1)) (Ui Hx1.out) (by decide) rfl;rw[List.set_set,List.set_set] at S2;have SF:=AA (And.intro S2.1 (Bp S1.2 S2.2));clear C T hbel1 S1 S2 S0;go_wp2_with fail;go_roundw
    case rel=>exact⟨q+1,by omega,by go_num,by go_num,⟨_,by simpa using Hl.out,Ln (f:=fun(j:Nat)=>JA (k+3*j)) Hpre.out (KR Hx.out) (by first|rfl|simp),SF.out.1⟩,Bp HG.out SF.out.2⟩
    case measure=>simp[intOf];omega
   ·obtain rfl:q=n:=by omega
    have HE:=AA (KU (f:=JA) (c:=3) Hl.out Hpre.out);have HY:=AA hO;clear hO;go_wp2_with fail;go_ret;exact⟨rfl,by rw[←HE.out];exact HY.out,Hgr.out⟩
theorem NP (lo:Nat) (v:Value) (xs:List DR) (k:Int) (w:World) (h:AC lo 73 3 CQ w v xs) (hs:xs.length≤1000) (hk0:0≤k) (hk1:k≤1000000):
 Calls prog 26 #[v, .int .i64 k] w fun e w'=>e= .returned (.int .i64 (k+3*xs.length))∧AC lo 73 3 CQ w' v (Ev Gs 3 k xs.length)∧w.grownBy w' v.ownBlock:=by
 by_cases hz:xs.length=0
 ·obtain⟨a,cp,rfl,_,_⟩:=h.rd.shape
  obtain rfl:=List.eq_nil_of_length_eq_zero hz;have Ho:=AA h;go_in;go_wp2_with fail;refine wp_loop_rounds 1 ?_;rw[rounds_succ];go_wp2_with fail;go_ret;exact⟨BQ (by simp),Ho.out,⟨rfl,rfl,rfl,Nat.le_refl _,fun _ _ _=>rfl⟩⟩
 ·obtain⟨g,cap,rfl,_,_,hg1,hg2,_⟩:=AC.shapeOwn h (by omega)
  have Hz:=AA hz;clear hz;have HO:=AA h;clear h;generalize hn:xs.length=n at*;have Hn:=AA hn;clear hn;go_in;go_wp2_with fail;go_loopw [1,5] (fun m i wr=>∃q:Nat,q≤n∧i= .int .i64 q∧m= .int .i64 (k+3*q)∧(∃ys:List DR,ys.length=n∧(∀j,j<q→ys[j]? =some (Gs (k+3*j)))∧AC lo 73 3 CQ wr (.slice (some ⟨g,0,none⟩) n cap) ys)∧w.grownBy wr (some g)) (fun _ i _=>n - (intOf i).toNat)
  case atStart=>exact⟨0,Nat.zero_le _,rfl,by simp,⟨xs,Hn.out,fun j hj=>absurd hj (Nat.not_lt_zero _),HO.out⟩,⟨rfl,rfl,rfl,Nat.le_refl _,fun _ _ _=>rfl⟩⟩
  case round=>
   obtain⟨q,hq,rfl,rfl,⟨ys,hl,hpre,hO⟩,hgr⟩:=hrel;have Hgr:=AA hgr;clear hgr;have Hl:=AA hl;clear hl;have Hpre:=AA hpre;clear hpre
   by_cases hlt:q<n
   ·obtain⟨x,hx⟩:∃x,ys[q]? =some x:=⟨_,List.getElem?_eq_getElem (by have:=Hl.out;omega)⟩
    have Hx:=AA hx;clear hx;have HY:=AA hO;have C:=AC.cellsN Gu hO Hl.out Hx.out;have F:=AC.frozenN hO Hl.out;have SF:=AA (AC.storedN Gu hO Hl.out hlt (Gs (k+3*q)));have E0:wr.cell? ⟨g,q*3,none⟩=some _:=C 0 _ rfl;have E1:=C 1 _ rfl;have E2:=C 2 _ rfl;have HG:=Hgr;clear C hO;go_wp2_with fail;go_roundw
    case rel=>exact⟨q+1,by omega,by go_num,by go_num,⟨_,by simpa using Hl.out,Ln (f:=fun(j:Nat)=>Gs (k+3*j)) Hpre.out (KR Hx.out) (by first|rfl|simp),SF.out.1⟩,Bp HG.out SF.out.2⟩
    case measure=>simp[intOf];omega
   ·obtain rfl:q=n:=by omega
    have HE:=AA (KU (f:=Gs) (c:=3) Hl.out Hpre.out);have HY:=AA hO;clear hO;go_wp2_with fail;go_ret;exact⟨rfl,by rw[←HE.out];exact HY.out,Hgr.out⟩
theorem Lc (lo:Nat) (v:Value) (xs:List AU) (k:Int) (w:World) (h:AC lo 95 4 AJ w v xs) (hs:xs.length≤1000) (hk0:0≤k) (hk1:k≤1000000):
 Calls prog 50 #[v, .int .i64 k] w fun e w'=>e= .returned (.int .i64 (k+4*xs.length))∧AC lo 95 4 AJ w' v (Ev GE 4 k xs.length)∧w.grownBy w' v.ownBlock:=by
 by_cases hz:xs.length=0
 ·obtain⟨a,cp,rfl,_,_⟩:=h.rd.shape
  obtain rfl:=List.eq_nil_of_length_eq_zero hz;have Ho:=AA h;go_in;go_wp2_with fail;refine wp_loop_rounds 1 ?_;rw[rounds_succ];go_wp2_with fail;go_ret;exact⟨BQ (by simp),Ho.out,⟨rfl,rfl,rfl,Nat.le_refl _,fun _ _ _=>rfl⟩⟩
 ·obtain⟨g,cap,rfl,_,_,hg1,hg2,_⟩:=AC.shapeOwn h (by omega)
  have Hz:=AA hz;clear hz;have HO:=AA h;clear h;generalize hn:xs.length=n at*;have Hn:=AA hn;clear hn;go_in;go_wp2_with fail;go_loopw [1,5] (fun m i wr=>∃q:Nat,q≤n∧i= .int .i64 q∧m= .int .i64 (k+4*q)∧(∃ys:List AU,ys.length=n∧(∀j,j<q→ys[j]? =some (GE (k+4*j)))∧AC lo 95 4 AJ wr (.slice (some ⟨g,0,none⟩) n cap) ys)∧w.grownBy wr (some g)) (fun _ i _=>n - (intOf i).toNat)
  case atStart=>exact⟨0,Nat.zero_le _,rfl,by simp,⟨xs,Hn.out,fun j hj=>absurd hj (Nat.not_lt_zero _),HO.out⟩,⟨rfl,rfl,rfl,Nat.le_refl _,fun _ _ _=>rfl⟩⟩
  case round=>
   obtain⟨q,hq,rfl,rfl,⟨ys,hl,hpre,hO⟩,hgr⟩:=hrel;have Hgr:=AA hgr;clear hgr;have Hl:=AA hl;clear hl;have Hpre:=AA hpre;clear hpre
   by_cases hlt:q<n
   ·obtain⟨x,hx⟩:∃x,ys[q]? =some x:=⟨_,List.getElem?_eq_getElem (by have:=Hl.out;omega)⟩
    have Hx:=AA hx;clear hx;have HY:=AA hO;have C:=AC.cellsN BP hO Hl.out Hx.out;have F:=AC.frozenN hO Hl.out;have SF:=AA (AC.storedN BP hO Hl.out hlt (GE (k+4*q)));have E0:wr.cell? ⟨g,q*4,none⟩=some _:=C 0 _ rfl;have E1:=C 1 _ rfl;have E2:=C 2 _ rfl;have E3:=C 3 _ rfl;have HG:=Hgr;clear C hO;go_wp2_with fail;go_roundw
    case rel=>exact⟨q+1,by omega,by go_num,by go_num,⟨_,by simpa using Hl.out,Ln (f:=fun(j:Nat)=>GE (k+4*j)) Hpre.out (KR Hx.out) (by first|rfl|simp),SF.out.1⟩,Bp HG.out SF.out.2⟩
    case measure=>simp[intOf];omega
   ·obtain rfl:q=n:=by omega
    have HE:=AA (KU (f:=GE) (c:=4) Hl.out Hpre.out);have HY:=AA hO;clear hO;go_wp2_with fail;go_ret;exact⟨rfl,by rw[←HE.out];exact HY.out,Hgr.out⟩
theorem NH (v:Value) (k:Int) (n:Nat) (w:World) (h:A6 3 CQ w v (Ev Gs 3 k n)) (hs:n≤1000) (hk0:0≤k) (hk1:k≤1000000):
 Calls prog 30 #[v, .int .i64 k] w fun e w'=>e= .returned (.int .i64 (k+3*n))∧Below w.heap.size w w':=by
 obtain⟨a,c,e0,hc,hcm,H⟩:=A6.open Gu (by decide) h;rw[Ge] at e0 hc;subst e0;unfold maxLen at hcm;have HH:=AA H;clear h H;go_in;go_wp2_with fail;go_loopw [1,5] (fun m i wr=>∃q:Nat,q≤n∧i= .int .i64 q∧m= .int .i64 (k+3*q)∧Below w.heap.size w wr) (fun _ i _=>n - (intOf i).toNat)
 case atStart=>exact⟨0,Nat.zero_le _,rfl,by simp,Below.refl _ _⟩
 case round=>
  obtain⟨q,hq,rfl,rfl,hb⟩:=hrel
  by_cases hlt:q<n
  ·have hqi:(q:Int)<n:=by omega
   obtain⟨b,off,rfl,hbl,HC⟩:=HH.out q _ (I5 Gs 3 k hlt);have cw:=fun j=>hb.cell (p:=⟨b,off+q*3+j,none⟩) hbl
   have E0:wr.cell? ⟨b,off+q*3,none⟩=some (.int .i64 (k+3*(q:Int))):=(cw 0).trans (HC 0 _ rfl);have E1:wr.cell? ⟨b,off+q*3+1,none⟩=some (.int .i64 (k+3*(q:Int)+1)):=(cw 1).trans (HC 1 _ rfl);have E2:wr.cell? ⟨b,off+q*3+2,none⟩=some (.bool ((k+3*(q:Int)+1+1)%3==0)):=(cw 2).trans (HC 2 _ rfl);have HB:=AA hb;clear HC cw hb;go_wp2_with fail;go_roundw
   case rel=>exact⟨q+1,by omega,by go_num,by go_num,HB.out⟩
   case measure=>simp[intOf];omega
  ·obtain rfl:q=n:=by omega
   go_wp2_with fail;go_ret;exact⟨rfl,hb⟩
theorem La (v:Value) (k:Int) (n:Nat) (w:World) (h:A6 4 AJ w v (Ev GE 4 k n)) (hs:n≤1000) (hk0:0≤k) (hk1:k≤1000000):
 Calls prog 53 #[v, .int .i64 k] w fun e w'=>e= .returned (.int .i64 (k+4*n))∧Below w.heap.size w w':=by
 obtain⟨a,c,e0,hc,hcm,H⟩:=A6.open BP (by decide) h;rw[Ge] at e0 hc;subst e0;unfold maxLen at hcm;have HH:=AA H;clear h H;go_in;go_wp2_with fail;go_loopw [1,5] (fun m i wr=>∃q:Nat,q≤n∧i= .int .i64 q∧m= .int .i64 (k+4*q)∧Below w.heap.size w wr) (fun _ i _=>n - (intOf i).toNat)
 case atStart=>exact⟨0,Nat.zero_le _,rfl,by simp,Below.refl _ _⟩
 case round=>
  obtain⟨q,hq,rfl,rfl,hb⟩:=hrel
  by_cases hlt:q<n
  ·have hqi:(q:Int)<n:=by omega
   obtain⟨b,off,rfl,hbl,HC⟩:=HH.out q _ (I5 GE 4 k hlt);have cw:=fun j=>hb.cell (p:=⟨b,off+q*4+j,none⟩) hbl
   have E0:wr.cell? ⟨b,off+q*4,none⟩=some (.int .i64 (k+4*(q:Int))):=(cw 0).trans (HC 0 _ rfl);have E1:wr.cell? ⟨b,off+q*4+1,none⟩=some (.int .i64 (k+4*(q:Int)+1)):=(cw 1).trans (HC 1 _ rfl);have E2:wr.cell? ⟨b,off+q*4+2,none⟩=some (.int .i64 (k+4*(q:Int)+1+1)):=(cw 2).trans (HC 2 _ rfl);have E3:wr.cell? ⟨b,off+q*4+3,none⟩=some (.bool ((k+4*(q:Int)+1+1+1)%3==0)):=(cw 3).trans (HC 3 _ rfl);have HB:=AA hb;clear HC cw hb;go_wp2_with fail;go_roundw
   case rel=>exact⟨q+1,by omega,by go_num,by go_num,HB.out⟩
   case measure=>simp[intOf];omega
  ·obtain rfl:q=n:=by omega
   go_wp2_with fail;go_ret;exact⟨rfl,hb⟩
theorem NG (v:Value) (k:Int) (n:Nat) (w:World) (h:A6 3 AX w v (Ev JA 3 k n)) (hs:n≤1000) (hk0:0≤k) (hk1:k≤1000000):
 Calls prog 51 #[v, .int .i64 k] w fun e w'=>e= .returned (.int .i64 (k+3*n))∧Below w.heap.size w w':=by
 obtain⟨a,c,e0,hc,hcm,H⟩:=A6.open Ak (by decide) h;rw[Ge] at e0 hc;subst e0;unfold maxLen at hcm;have HH:=AA H;clear h H;go_in;go_wp2_with fail;go_loopw [1,5] (fun m i wr=>∃q:Nat,q≤n∧i= .int .i64 q∧m= .int .i64 (k+3*q)∧Below w.heap.size w wr) (fun _ i _=>n - (intOf i).toNat)
 case atStart=>exact⟨0,Nat.zero_le _,rfl,by simp,Below.refl _ _⟩
 case round=>
  obtain⟨q,hq,rfl,rfl,hb⟩:=hrel
  by_cases hlt:q<n
  ·have hqi:(q:Int)<n:=by omega
   obtain⟨b,off,rfl,hbl,HC⟩:=HH.out q _ (I5 JA 3 k hlt);have cw:=fun j=>hb.cell (p:=⟨b,off+q*3+j,none⟩) hbl
   have E0:wr.cell? ⟨b,off+q*3,none⟩=some (.int .i64 (k+3*(q:Int))):=(cw 0).trans (HC 0 _ rfl);have E1:wr.cell? ⟨b,off+q*3+1,none⟩=some (.string (D6 (k+3*(q:Int)+1))):=(cw 1).trans (HC 1 _ rfl);have E2:wr.cell? ⟨b,off+q*3+2,none⟩=some (.int .i64 (k+3*(q:Int)+1+1)):=(cw 2).trans (HC 2 _ rfl);have Hb:=AA hb;have ES:=cell_regrown E1;have cT:=Io (w1:=wr) (fun W _=>GY (k+3*(q:Int)+1) W (by omega) (by omega));have hq5:((D6 (k+3*(q:Int)+1)).toList==(D6 (k+3*(q:Int)+1)).toList)=true:=by simp
   generalize D6 (k+3*(q:Int)+1)=s5 at ES cT hq5;clear hb HC cw;go_wp2_with fail;refine wp_region_quiet_below mixed (by kernel_rfl) ?_
   repeat(go_big_quiet_step (exact cT _ _))
   refine wpQuiet_nil ?_;intro _ hw';obtain⟨⟨dq,osq⟩,hw''⟩:=hw';subst hw'';have bq:=below_regrown wr dq osq;generalize Sort.grow (redrawn wr dq) osq=wq at bq;have HB:=AA (Hb.out.trans (bq.mono Hb.out.size));have E2w:=(bq.cell (p:=⟨b,off+q*3+2,none⟩) (Nat.lt_of_lt_of_le hbl Hb.out.size)).trans E2;clear E0 E1 E2 ES cT bq;go_wp2_with fail;go_roundw
   case rel=>exact⟨q+1,by omega,by go_num,by go_num,HB.out⟩
   case measure=>simp[intOf];omega
  ·obtain rfl:q=n:=by omega
   go_wp2_with fail;go_ret;exact⟨rfl,hb⟩
theorem Lb (v:Value) (k:Int) (n:Nat) (w:World) (h:A6 1 Ag w v (Ev D6 1 k n)) (hs:n≤1000) (hk0:0≤k) (hk1:k≤1000000):
 Calls prog 69 #[v, .int .i64 k] w fun e w'=>e= .returned (.int .i64 (k+n))∧Below w.heap.size w w':=by
 obtain⟨a,c,e0,hc,hcm,H⟩:=A6.open DE (by decide) h;rw[Ge] at e0 hc;subst e0;unfold maxLen at hcm;have HH:=AA H;clear h H;go_in;go_wp2_with fail;go_loopw [1,5] (fun m i wr=>∃q:Nat,q≤n∧i= .int .i64 q∧m= .int .i64 (k+q)∧Below w.heap.size w wr) (fun _ i _=>n - (intOf i).toNat)
 case atStart=>exact⟨0,Nat.zero_le _,rfl,by simp,Below.refl _ _⟩
 case round=>
  obtain⟨q,hq,rfl,rfl,hb⟩:=hrel
  by_cases hlt:q<n
  ·have hqi:(q:Int)<n:=by omega
   obtain⟨b,off,rfl,hbl,HC⟩:=HH.out q _ (I5 D6 1 k hlt);have cw:=fun j=>hb.cell (p:=⟨b,off+q*1+j,none⟩) hbl
   have E1:wr.cell? ⟨b,off+q,none⟩=some (.string (D6 (k+(q:Int)))):=by have:=(cw 0).trans (HC 0 _ rfl);simpa using this
   have Hb:=AA hb;have ES:=cell_regrown E1;have cT:=Io (w1:=wr) (fun W _=>GY (k+(q:Int)) W (by omega) (by omega));have hq5:((D6 (k+(q:Int))).toList==(D6 (k+(q:Int))).toList)=true:=by simp
   generalize D6 (k+(q:Int))=s5 at ES cT hq5;clear hb HC cw;go_wp2_with fail;refine wp_region_quiet_below mixed (by kernel_rfl) ?_
   repeat(go_big_quiet_step (exact cT _ _))
   refine wpQuiet_nil ?_;intro _ hw';obtain⟨⟨dq,osq⟩,hw''⟩:=hw';subst hw'';have bq:=below_regrown wr dq osq;generalize Sort.grow (redrawn wr dq) osq=wq at bq;have HB:=AA (Hb.out.trans (bq.mono Hb.out.size));clear E1 ES cT bq;go_wp2_with fail;go_roundw
   case rel=>exact⟨q+1,by omega,by go_num,by go_num,HB.out⟩
   case measure=>simp[intOf];omega
  ·obtain rfl:q=n:=by omega
   go_wp2_with fail;go_ret;exact⟨rfl,hb⟩
end Go.Proofs.YteocokgpmgfbaaaGreatDoor
