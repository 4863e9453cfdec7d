/-
  Packed:12 texts.
-/
import Derived.Test.YtnieoiclifjoaaaGreatDoorY3
import Derived.Test.YtnieoiclifjoaaaGreatDoorY1
import Derived.Test.YtnieoiclifjoaaaGreatDoorY2
set_option linter.unusedVariables false
set_option maxHeartbeats 16000000
set_option maxRecDepth 100000
namespace Go.Proofs.YtnieoiclifjoaaaGreatDoor
open Go.Proofs.Tryz
open Go.RowKit
def IL (m:List (List Int)) (infos:List AQ) (t j g:Nat):Nat:=
 ((List.range t).map fun u=>if Ba (infoAt infos u).k then(named (AL m u)).count g else 0).sum+(named ((AL m t).take j)).count g
def Gn (m:List (List Int)) (infos:List AQ) (t j:Nat):List Int:=(List.range 12).map fun g=>(IL m infos t j g:Int)
section
variable {m:List (List Int)} {infos:List AQ} {t j g:Nat}
theorem Ib:(Gn m infos t j).length=12:=by simp[Gn]
theorem Mn (h:g<12):nth (Gn m infos t j) g=IL m infos t j g:=by unfold Gn nth;rw[List.getD_eq_getElem?_getD,List.getElem?_map,List.getElem?_range h];rfl
theorem TD:Gn m infos 0 0=List.replicate 12 0:=by simp[Gn,IL,named,List.range,List.range.loop,List.replicate]
theorem VN (hj:j<(AL m t).length) (h:BX ((AL m t).getD j 0)=false):Gn m infos t (j+1)=Gn m infos t j:=by unfold Gn IL;rw[Hy hj,h];simp
theorem UT (hj:j<(AL m t).length) (h:BX ((AL m t).getD j 0)=true):
 Gn m infos t (j+1)=(Gn m infos t j).set (Ax ((AL m t).getD j 0)) (IL m infos t j (Ax ((AL m t).getD j 0))+1):=by
 refine LW (by simp[Gn]) fun g hg=>?_
 rw[Ib] at hg;have hf:=DZ h;rw[Sk (by rw[Ib];exact hf),Mn hg,Mn hg];unfold IL;rw[Hy hj,h,if_pos rfl,List.count_append]
 by_cases e:g=Ax ((AL m t).getD j 0)
 ·subst e;simp;omega
 ·rw[if_neg e,List.count_singleton]
  have:(Ax ((AL m t).getD j 0)==g)=false:=by simp;exact fun h=>e h.symm
  rw[this];simp
theorem UR (hk:Ba (infoAt infos t).k=true) (hl:(AL m t).length=4):Gn m infos t 4=Gn m infos (t+1) 0:=by unfold Gn IL;rw[List.range_succ (n:=t),List.take_of_length_le (Nat.le_of_eq hl)];simp[hk,named]
theorem TC (hk:Ba (infoAt infos t).k=false):Gn m infos t 0=Gn m infos (t+1) 0:=by unfold Gn IL;rw[List.range_succ (n:=t)];simp[hk,named]
theorem UQ:Gn m infos 12 0=(List.range 12).map fun g=>(countP m infos g:Int):=by unfold Gn IL countP;simp[named]
theorem QA (hm:Bg m=true) (ht:t≤12) (hj:j≤4):IL m infos t j g≤100:=by
 have h1:((List.range t).map fun u=>if Ba (infoAt infos u).k then(named (AL m u)).count g else 0).sum≤4*t:=by
  clear hj
  induction t with
  |zero=>simp
  |succ t ih=>
   have:=ih (by omega);rw[List.range_succ,List.map_append,List.sum_append];have h2:(if Ba (infoAt infos t).k then(named (AL m t)).count g else 0)≤4:=by
    split
    ·have h3:=List.count_le_length (a:=g) (l:=named (AL m t))
     have h4:=Ex (r:=AL m t);have h5:=(BG.1 ((Af.1 hm).2 t (by omega))).1;omega
    ·omega
   simp only[List.map_cons,List.map_nil,List.sum_cons,List.sum_nil];omega
 have h3:=List.count_le_length (a:=g) (l:=named ((AL m t).take j));have h4:=Ex (r:=(AL m t).take j);rw[List.length_take] at h4;unfold IL;omega
end
theorem QE (v iv:Value) (m:List (List Int)) (infos:List AQ) (w:World) (h:BJ w v m) (hok:Bg m=true) (hI:BH w iv infos) (hl:infos.length=12):
 Calls prog 108 #[v,iv] w fun e w'=>∃v',e= .returned v'∧AE w.heap.size w' v' ((List.range 12).map fun g=>(countP m infos g:Int))∧Below w.heap.size w w':=by
 obtain⟨q,c,rfl,hc,hcm,H0⟩:=h.open;obtain⟨a2,c2,rfl,hc2,hcm2,H2⟩:=A3.open As (by decide) hI;have hml:=(Af.1 hok).1;unfold maxLen at hcm hcm2;rw[hml] at hc ⊢;rw[hl] at hc2 ⊢;have Hok:=AA hok;have HR:=AA H0;have HI:=AA H2;have Hl:=AA hl;clear h hok H0 H2 hml hI hl;go_in;go_wp2_with (at_make;go_must (refine Pw (n:=12) rfl rfl 3 (.int .i64 0) 8 underlying30 Tryz.infoInt rfl rfl (by omega) (by unfold maxLen;omega) ?_;intro w1 hown hbel hsz));have hO0:AE w.heap.size w1 (.slice (some ⟨w.heap.size,0,none⟩) 12 12) (Gn m infos 0 0):=by unfold AE;rw[Ib,TD];exact hown
 have hg1:w.heap.size≤w.heap.size:=Nat.le_refl _;have HB1:=AA hbel;clear hown hbel;go_loopw [16] (fun i wr=>∃t:Nat,t≤12∧i= .int .i64 t∧AE w.heap.size wr (.slice (some ⟨w.heap.size,0,none⟩) 12 12) (Gn m infos t 0)∧Below w.heap.size w wr) (fun i _=>12 - (intOf i).toNat)
 case atStart=>exact⟨0,Nat.zero_le _,rfl,hO0,HB1.out⟩
 case round=>
  obtain⟨t,ht,rfl,hO,hbel⟩:=hrel;clear hO0
  by_cases hlt:t<12
  ·obtain⟨b,off,rfl,hbl,D0,D1,D2⟩:=HI.out.infoCells (show t<infos.length by rw[Hl.out];exact hlt)
   replace D0:=(hbel.cell (p:=⟨b,off+t*3,none⟩) hbl).trans D0;replace D1:=(hbel.cell (p:=⟨b,off+t*3+1,none⟩) hbl).trans D1;replace D2:=(hbel.cell (p:=⟨b,off+t*3+2,none⟩) hbl).trans D2;have N:=heap_alloc_new wr (.cells #[.int .i64 (infoAt infos t).k, .string (infoAt infos t).g, .int .i64 (infoAt infos t).r] 135);have hba:=hbel.trans ((AG wr (.cells #[.int .i64 (infoAt infos t).k, .string (infoAt infos t).g, .int .i64 (infoAt infos t).r] 135)).mono hbel.size);have HO:=AA (AE.below hO (AG wr (.cells #[.int .i64 (infoAt infos t).k, .string (infoAt infos t).g, .int .i64 (infoAt infos t).r] 135)));have CT:=AA (fun W=>By (infoAt infos t).k W);clear hO;obtain⟨bm,offm,br,offr,cr,rfl,hbm,M0,hbr,hcr,W0⟩:=HR.out.row4 Hok.out hlt;have HW:=AA W0;have M:=(hba.cell (p:=⟨bm,offm+t,none⟩) hbm).trans M0;have hrl:=AA (BG.1 ((Af.1 Hok.out).2 _ hlt)).1;clear W0 M0;cases hk:Ba (infoAt infos t).k
   ·have S:=AA (TC (m:=m) hk)
    have HK:=AA hk;clear hk;go_wp2_with (go_at_call 111;refine(CT.out _).mono ?_;rintro e w' ⟨rfl,rfl⟩;rw[HK.out]);go_roundw
    case rel=>exact⟨t+1,by omega,by go_num,by rw[←S.out];exact HO.out,hba⟩
    case measure=>simp[intOf];omega
   ·have S:=AA (UR (m:=m) hk hrl.out)
    have HK:=AA hk;clear hk;go_wp2_with (go_at_call 111;refine(CT.out _).mono ?_;rintro e w' ⟨rfl,rfl⟩;rw[HK.out]);generalize wr.alloc _=wa at*;clear D0 D1 D2 M N hbel;have HB:=AA hba;clear hba;go_loopw [30] (fun i wi=>∃j:Nat,j≤4∧i= .int .i64 j∧AE w.heap.size wi (.slice (some ⟨w.heap.size,0,none⟩) 12 12) (Gn m infos t j)∧Below w.heap.size w wi) (fun i _=>4 - (intOf i).toNat)
    case atStart=>exact⟨0,by omega,rfl,HO.out,HB.out⟩
    case round=>
     obtain⟨j,hj,rfl,hOi,hbi⟩:=hrel
     by_cases hjl:j<4
     ·have W:=(hbi.cell (p:=⟨br,offr+j,none⟩) hbr).trans (HW.out j hjl)
      have wb:=FO Hok.out hlt hjl;have CE:=AA (fun W=>EL (Am m t j) W (by omega));cases hg:BX (Am m t j)
      ·have V:=AA (Do hg)
       have E:=AA (VN (infos:=infos) (show j<(AL m t).length by rw[hrl.out];exact hjl) hg);clear hg;go_wp2_with (go_at_call 175;refine(CE.out _).mono ?_;rintro e w' ⟨rfl,rfl⟩;rw[V.out]);go_roundw
       case rel=>exact⟨j+1,by omega,by go_num,by rw[E.out];exact hOi,hbi⟩
       case measure=>simp[intOf];omega
      ·have V:=AA (Di hg)
       have hF:=DZ hg;have E:=AA (UT (infos:=infos) (show j<(AL m t).length by rw[hrl.out];exact hjl) hg);have hcl:=QA (infos:=infos) (g:=Ax (Am m t j)) Hok.out (Nat.le_of_lt hlt) hj;have own1:wr.ownsRow w.heap.size 3 1 (.slice (some ⟨w.heap.size,0,none⟩) 12 12) 12 ((Gn m infos t j).map (Value.int .i64)):=by have:=hOi;unfold AE at this;rwa [Ib] at this
       have C:=(own1.cellAt (Ax (Am m t j)) (by omega)).trans (Iz (xs:=Gn m infos t j) (by rw[Ib];exact hF));rw[Mn hF] at C;have Fr:=own1.frozenAt (Ax (Am m t j));have S2:=AA (own1.stored (Ax (Am m t j)) (.int .i64 ((IL m infos t j (Ax (Am m t j)):Int)+1)));have e0:(AL m t).getD j 0=Am m t j:=rfl;rw[e0] at E;clear hg e0 own1 hOi;generalize Ax (Am m t j)=f at*;generalize IL m infos t j f=n at*;go_wp2_with (go_at_call 175;refine(CE.out _).mono ?_;rintro e w' ⟨rfl,rfl⟩;rw[V.out]);go_roundw
       case rel=>refine⟨j+1,by omega,by go_num,?_,AT hbi S2.out.2 hg1 hbi.size⟩;rw[E.out];unfold AE;rw[List.length_set,Ib,List.map_set];exact S2.out.1
       case measure=>simp[intOf];omega
     ·obtain rfl:j=4:=by omega
      go_wp2_with fail;go_roundw
      case rel=>exact⟨t+1,by omega,by go_num,by rw[←S.out];exact hOi,hbi⟩
      case measure=>simp[intOf];omega
  ·obtain rfl:t=12:=by omega
   rw[UQ] at hO;go_wp2_with fail;go_ret;exact⟨_,rfl,hO,hbel⟩
theorem TM {α:Type} {cs:α→List Value} {sz:Nat} (hs:∀x,(cs x).length=sz) {xs:List α} {k j:Nat} {x y:α} {u:Value} (hk:xs[k]? =some x) (hj:j<sz) (hy:cs y=(cs x).set j u):
 (Bj cs xs).set (k*sz+j) u=Bj cs (xs.set k y):=by
 have h1:=QM hs (List.getElem?_eq_some_iff.1 hk).1 y;rw[←h1];refine List.ext_getElem? fun i=>?_
 obtain⟨hlt,hx⟩:=List.getElem?_eq_some_iff.1 hk;have hb:k*sz+sz≤xs.length*sz:=by rw[←Nat.succ_mul];exact Nat.mul_le_mul_right _ hlt
 rw[h1,List.getElem?_set,Gc hs]
 by_cases hi:i<xs.length*sz
 ·have hz:0<sz:=by omega
  have hkd:i/sz<xs.length:=Nat.div_lt_of_lt_mul (by rw[Nat.mul_comm];exact hi);have hmod:=Nat.mod_lt i hz;have hdm:i/sz*sz+i%sz=i:=by rw[Nat.mul_comm];exact Nat.div_add_mod i sz
  have ha:(Bj cs xs)[i]? =(cs xs[i/sz])[i%sz]? :=by have:=MM hs (List.getElem?_eq_getElem hkd) hmod;rw[hdm] at this;exact this
  have hb':(Bj cs (xs.set k y))[i]? =(cs ((xs.set k y)[i/sz]'(by rw[List.length_set];exact hkd)))[i%sz]? :=by have:=MM hs (List.getElem?_eq_getElem (l:=xs.set k y) (i:=i/sz) (by rw[List.length_set];exact hkd)) hmod;rw[hdm] at this;exact this
  rw[ha,hb',List.getElem_set]
  by_cases e:k=i/sz
  ·subst e
   rw[if_pos rfl,hy,List.getElem?_set,hx,hs]
   by_cases e2:j=i%sz
   ·subst e2;rw[if_pos hdm,if_pos (by omega),if_pos rfl,if_pos hmod]
   ·rw[if_neg (by omega),if_neg e2]
  ·rw[if_neg e]
   have:¬k*sz+j=i:=by intro h;apply e;rw[←h,Nat.mul_comm,Nat.mul_add_div hz,Nat.div_eq_of_lt hj,Nat.add_zero]
   rw[if_neg this]
 ·rw[List.getElem?_eq_none (by rw[Gc hs];omega),List.getElem?_eq_none (by rw[Gc hs,List.length_set];omega),if_neg (by omega)]
section
variable {α:Type} {lo e sz:Nat} {cs:α→List Value} {w:World} {g cap k j:Nat} {xs:List α}
theorem AJ.stored1 (hs:∀x,(cs x).length=sz) (h:AJ lo e sz cs w (.slice (some ⟨g,0,none⟩) xs.length cap) xs) {x y:α} {u:Value} (hk:xs[k]? =some x) (hj:j<sz) (hy:cs y=(cs x).set j u):
 AJ lo e sz cs (w.setCell ⟨g,k*sz+j,none⟩ u) (.slice (some ⟨g,0,none⟩) xs.length cap) (xs.set k y)∧w.grownBy (w.setCell ⟨g,k*sz+j,none⟩ u) (some g):=by
 obtain⟨h1,h2⟩:=World.ownsRow.stored h (k*sz+j) u;rw[TM hs hk hj hy] at h1;refine⟨?_,h2⟩;unfold AJ;rw[List.length_set];exact h1
end
theorem Bo {l:List AQ} {k:Nat} (h:k<l.length):l[k]? =some (infoAt l k):=by simp[infoAt,h]
theorem Fu {l:List AQ} {k:Nat} {f:AQ→AQ}:AV l k f=l.set k (f (infoAt l k)):=Ig
theorem R8 {infos:List AQ} {r:List Int} {n:Int} {j:Nat} (hj:j<r.length):
 Aw infos (named (r.take (j+1))) n=if BX (r.getD j 0) then AV (Aw infos (named (r.take j)) n) (Ax (r.getD j 0)) (DK n) else Aw infos (named (r.take j)) n:=by
 rw[Hy hj];unfold Aw;rw[List.foldl_append]
 split<;>simp
theorem IY {s:ByteArray} (h:A4 s=true):s.size≤4:=by unfold A4 at h;simp only[Bool.and_eq_true,decide_eq_true_eq] at h;exact h.2
theorem F5 {x:AQ} (h:Cj x=true):x.g.size≤maxLen∧0≤x.r∧x.r≤50:=by
 unfold Cj at h;simp only[Bool.or_eq_true,decide_eq_true_eq,Bool.and_eq_true,AZ] at h
 rcases h with rfl|⟨⟨_,h1⟩,h2⟩
 ·exact⟨by simp[AQ.zero,ByteArray.size],by simp[AQ.zero],by simp[AQ.zero]⟩
 ·exact⟨Nat.le_trans (IY h1) (by decide),h2.1,h2.2⟩
theorem Oi {l:List AQ} (h:∀f,f<l.length→(infoAt l f).g.size≤maxLen):HY l:=by intro x hx;obtain⟨i,hi,rfl⟩:=List.getElem_of_mem hx;have:=h i hi;simpa[infoAt,hi] using this
theorem Bh {l:List AQ} (h:A0 l=true):HY l:=Oi fun f hf=>(F5 ((At.1 h).2 f (by have:=(At.1 h).1;omega))).1
theorem IQ {infos:List AQ} (h:A0 infos=true) {fs:List Nat} (hfs:fs.length≤4) {n:Int} (hn:n=1∨n= -1) {g:Nat} (hg:g<12):
 -4≤(infoAt (Aw infos fs n) g).r∧(infoAt (Aw infos fs n) g).r≤54∧(infoAt (Aw infos fs n) g).g.size≤maxLen:=by
 obtain⟨hl,h2⟩:=At.1 h;obtain⟨a,b,c⟩:=F5 (h2 g hg);rw[NJ (by omega)];have:=List.count_le_length (a:=g) (l:=fs);refine⟨?_,?_,a⟩
 ·show -4≤_+n*_
  rcases hn with rfl|rfl<;>omega
 ·show _+n*_≤54
  rcases hn with rfl|rfl<;>omega
theorem Of (v iv:Value) (m:List (List Int)) (infos:List AQ) (f:Nat) (n:Int) (w:World) (h:BJ w v m) (hok:Bg m=true) (hI:BH w iv infos) (hio:A0 infos=true) (hf:f<12) (hn:n=1∨n= -1):
 Calls prog 318 #[v,iv, .int .i64 f, .int .i64 n] w fun e w'=>∃v',e= .returned v'∧AJ w.heap.size 135 3 Ag w' v' (Aw infos (named (AL m f)) n)∧Below w.heap.size w w':=by
 obtain⟨q,c,rfl,hc,hcm,H0⟩:=h.open;have hl:=(At.1 hio).1;have hml:=(Af.1 hok).1;have CC:=AA (Ew iv infos w hI (by omega));obtain⟨ai,ci,rfl,_,_⟩:=hI.shape;have Hok:=AA hok;have Hio:=AA hio;have Hn:=AA hn;have hnb: -1≤n∧n≤1:=by omega
 obtain⟨bm,offm,br,offr,cr,rfl,hbm,M0,hbr,hcr,W0⟩:=H0.row4 hok hf;have HW:=AA W0;have hrl:=AA (BG.1 ((Af.1 hok).2 _ hf)).1;have fm:(f:Int)<m.length:=by omega
 have Hl:=AA hl;clear h hok H0 W0 hI hio hn hml hl;go_in;go_wp2_with fail;refine(CC.out).mono ?_;rintro e w1 ⟨v',rfl,hO,hb1⟩;obtain⟨g,cap,rfl,c1,c2,q1,q2,hfz⟩:=hO.shapeOwn (by have:=Hl.out;omega);unfold maxLen at c2;have M:=(hb1.cell (p:=⟨bm,offm+f,none⟩) hbm).trans M0;have HB1:=AA hb1;have HO:=AA hO;clear hO hb1 M0 hfz;go_wp2_with fail;clear M;go_loopw [22] (fun i wr=>∃j:Nat,j≤4∧i= .int .i64 j∧AJ w.heap.size 135 3 Ag wr (.slice (some ⟨g,0,none⟩) infos.length cap) (Aw infos (named ((AL m f).take j)) n)∧Below w.heap.size w wr) (fun i _=>4 - (intOf i).toNat)
 case atStart=>exact⟨0,Nat.zero_le _,rfl,by simpa[named,Aw] using HO.out,HB1.out⟩
 case round=>
  obtain⟨j,hj,rfl,hO,hbi⟩:=hrel
  by_cases hjl:j<4
  ·have W:=(hbi.cell (p:=⟨br,offr+j,none⟩) hbr).trans (HW.out j hjl)
   have wb:=FO Hok.out hf hjl;have CE:=AA (fun W=>EL (Am m f j) W (by omega));have RT:=R8 (infos:=infos) (n:=n) (r:=AL m f) (j:=j) (by rw[hrl.out];exact hjl);rw[show(AL m f).getD j 0=Am m f j from rfl] at RT;cases hg:BX (Am m f j)
   ·have V:=AA (Do hg)
    rw[hg] at RT;have E:=AA RT;have HOi:=AA hO;clear hg RT hO;go_wp2_with (go_at_call 175;refine(CE.out _).mono ?_;rintro e w' ⟨rfl,rfl⟩;rw[V.out]);go_roundw
    case rel=>exact⟨j+1,by omega,by go_num,by rw[E.out];exact HOi.out,hbi⟩
    case measure=>simp[intOf];omega
   ·have V:=AA (Di hg)
    have hF:=DZ hg;rw[hg,if_pos rfl] at RT;have hfs:(named ((AL m f).take j)).length≤4:=by have:=Ex (r:=(AL m f).take j);rw[List.length_take] at this;omega
    obtain⟨r1,r2,_⟩:=IQ Hio.out hfs Hn.out hF;have hlr:(Aw infos (named ((AL m f).take j)) n).length=infos.length:=G7;rw[←hlr] at hO;generalize hX:Aw infos (named ((AL m f).take j)) n=X at*;generalize Ax (Am m f j)=o at*;have hoX:o<X.length:=by rw[hlr,Hl.out];exact hF
    have hoi:(o:Int)<infos.length:=by rw[Hl.out];omega
    have hoi2:((o:Nat):Int)≤infos.length:=by omega
    rw[Fu] at RT;obtain⟨_,_,d2⟩:=AJ.infoCells hO hoX;have d2:=d2;have Fr:=World.ownsRow.frozenAt hO (o*3+2);have S2:=AA (AJ.stored1 As hO (Bo hoX) (j:=2) (by decide) (y:=DK n (infoAt X o)) (u:= .int .i64 ((infoAt X o).r+n)) rfl);rw[hlr] at S2;have E:=AA RT;have Hlr:=AA hlr;clear hg RT hO hlr hX;go_wp2_with (go_at_call 175;refine(CE.out _).mono ?_;rintro e w' ⟨rfl,rfl⟩;rw[V.out]);go_roundw
    case rel=>exact⟨j+1,by omega,by go_num,by rw[E.out];exact S2.out.1,AT hbi S2.out.2 q1 hbi.size⟩
    case measure=>simp[intOf];omega
  ·obtain rfl:j=4:=by omega
   rw[List.take_of_length_le (Nat.le_of_eq hrl.out)] at hO;go_wp2_with fail;go_ret;exact⟨_,rfl,hO,hbi⟩
theorem Pb {m:List (List Int)} {infos:List AQ} {f:Nat} {kind:Int} {ss:List ByteArray}:FU m infos f kind ss=
 if(infoAt infos f).k≠1∨(infoAt infos f).r≠0 then(infos,1)
 else if Gv m infos f kind ss=false then(infos,2)
 else if A0 (AV (Aw infos (named (AL m f)) 1) f (Cu kind)) then(AV (Aw infos (named (AL m f)) 1) f (Cu kind),0) else(infos,1):=rfl
theorem K6 {m:List (List Int)} {infos:List AQ} {f:Nat}:Cw m infos f=
 if Ba (infoAt infos f).k=false∨(infoAt infos f).r≠0 then(infos,1)
 else if A0 (AV (Aw infos (named (AL m f)) (-1)) f (Cu 1)) then(AV (Aw infos (named (AL m f)) (-1)) f (Cu 1),0) else(infos,2):=rfl
theorem PW {m:List (List Int)} (h:Bg m=true) {f:Nat} (hf:f<12):(named (AL m f)).length≤4:=by have h1:=Ex (r:=AL m f);have h2:=(BG.1 ((Af.1 h).2 f hf)).1;omega
theorem J0 {m:List (List Int)} {infos:List AQ} {f:Nat} {kind n:Int} (hm:Bg m=true) (h:A0 infos=true) (hf:f<12) (hn:n=1∨n= -1):HY (AV (Aw infos (named (AL m f)) n) f (Cu kind)):=by
 refine Oi fun g hg=>?_
 rw[Au,G7,(At.1 h).1] at hg;have h1:=(IQ h (PW hm hf) hn hg).2.2;rw[Ej]
 split
 ·exact(IQ h (PW hm hf) hn hf).2.2
 ·exact h1
def KP (r:List AQ×Int) (w:World) (e:Ending) (w':World):Prop:=∃v',e= .returned (.tuple #[v', .int .i64 r.2])∧AJ w.heap.size 135 3 Ag w' v' r.1∧Below w.heap.size w w'
theorem Oz (v iv rv:Value) (m:List (List Int)) (infos:List AQ) (f:Nat) (kind:Int) (ss:List ByteArray) (w:World) (h:BJ w v m) (hok:Bg m=true) (hI:BH w iv infos) (hio:A0 infos=true) (hf:f<12) (hk:Ba kind=true) (hv:BC w rv ss) (hss:EB ss) (hr:A2 ss=true):
 Calls prog 253 #[v,iv, .int .i64 f, .int .i64 kind,rv] w (KP (FU m infos f kind ss) w):=by
 have hl:=(At.1 hio).1;have C1:=AA (fun W (hW:Below w.heap.size w W)=>by have:=GJ v m W (h.below hW);rw[hok] at this;exact this);have C2:=AA (fun W (hW:Below w.heap.size w W)=>by have:=Cl iv infos W (A3.below hI hW) (Bh hio);rw[hio] at this;exact this);have C3:=AA (fun W (_:Below w.heap.size w W)=>Ae (by have:=BT (f:Int) W;rw[show Bk (f:Int) 0 11=true from AZ.2 (by omega)] at this;exact this));have C4:=AA (fun W (_:Below w.heap.size w W)=>Ae (by have:=By kind W;rw[hk] at this;exact this));have C5:=AA (fun W (hW:Below w.heap.size w W)=>by have:=Eb rv ss W (A3.below hv hW) hss;rw[hr] at this;exact this);have C6:=AA (fun W (hW:Below w.heap.size w W)=>Ew iv infos W (A3.below hI hW) (by omega));have C7:=AA (fun W (hW:Below w.heap.size w W)=>QP v iv rv m infos f kind ss W (h.below hW) hok (A3.below hI hW) hl hf hk (A3.below hv hW));have C8:=AA (fun W (hW:Below w.heap.size w W)=>Of v iv m infos f 1 W (h.below hW) hok (A3.below hI hW) hio hf (.inl rfl));have SM:=AA (J0 (kind:=kind) hok hio hf (.inl (rfl:(1:Int)=1)));obtain⟨ai,ci,rfl,hci,hcim,H2⟩:=A3.open As (by decide) hI;obtain⟨bi,offi,rfl,hbi,D0,_,D2⟩:=H2.infoCells (show f<infos.length by omega);have hfl:(f:Int)<infos.length:=by omega
 have Hl:=AA hl;have hb:=Below.refl w.heap.size w;clear h hok hI hio hk hv hss hr hl H2;go_in;go_wp2_with fail;refine(C1.out _ hb).mono ?_;rintro e w_ ⟨rfl,hb_⟩;replace hb:=hb.trans (hb_.mono hb.size);clear hb_;go_wp2_with fail;refine(C2.out _ hb).mono ?_;rintro e w_ ⟨rfl,hb_⟩;replace hb:=hb.trans (hb_.mono hb.size);clear hb_;go_wp2_with fail;refine(C3.out _ hb).mono ?_;rintro e w_ ⟨rfl,hb_⟩;replace hb:=hb.trans (hb_.mono hb.size);clear hb_;go_wp2_with fail;refine(C4.out _ hb).mono ?_;rintro e w_ ⟨rfl,hb_⟩;replace hb:=hb.trans (hb_.mono hb.size);clear hb_;go_wp2_with fail;refine(C5.out _ hb).mono ?_;rintro e w_ ⟨rfl,hb_⟩;replace hb:=hb.trans (hb_.mono hb.size);clear hb_;replace D0:=(hb.cell (p:=⟨bi,offi+f*3,none⟩) hbi).trans D0;replace D2:=(hb.cell (p:=⟨bi,offi+f*3+2,none⟩) hbi).trans D2
 by_cases e1:(infoAt infos f).k=1
 ·by_cases e2:(infoAt infos f).r=0
  ·have t1:((infoAt infos f).k !=1)=false:=by simp[e1]
   have t2:((infoAt infos f).r !=0)=false:=by simp[e2]
   have P:=AA (show FU m infos f kind ss=if Gv m infos f kind ss=false then(infos,2)
    else if A0 (AV (Aw infos (named (AL m f)) 1) f (Cu kind)) then(AV (Aw infos (named (AL m f)) 1) f (Cu kind),0) else(infos,1) by rw[Pb,if_neg (by simp[e1,e2])])
   clear e1 e2;cases hg:Gv m infos f kind ss
   ·have P2:=AA (show FU m infos f kind ss=(infos,2) by rw[P.out,hg];rfl)
    have G:=AA hg;clear hg;go_wp2_with fail;refine(C7.out _ hb).mono ?_;rintro e w_ ⟨rfl,hb_⟩;rw[G.out];replace hb:=hb.trans (hb_.mono hb.size);clear hb_;go_wp2_with fail;refine(C6.out _ hb).mono ?_;rintro e w2 ⟨v',rfl,hO,hb2⟩;go_wp2_with fail;go_ret2;exact⟨v',by rw[P2.out];rfl,by rw[P2.out];exact hO.lower hb.size,hb.trans (hb2.mono hb.size)⟩
   ·have G:=AA hg
    have P2:=AA (show FU m infos f kind ss=if A0 (AV (Aw infos (named (AL m f)) 1) f (Cu kind)) then(AV (Aw infos (named (AL m f)) 1) f (Cu kind),0) else(infos,1) by rw[P.out,hg];rfl);clear hg;go_wp2_with fail;refine(C7.out _ hb).mono ?_;rintro e w_ ⟨rfl,hb_⟩;rw[G.out];replace hb:=hb.trans (hb_.mono hb.size);clear hb_;clear D0 D2;go_wp2_with fail;refine(C8.out _ hb).mono ?_;rintro e w2 ⟨v',rfl,hO,hb2⟩;have hlr:(Aw infos (named (AL m f)) 1).length=infos.length:=G7;rw[Fu] at P2 SM;generalize Aw infos (named (AL m f)) 1=X at*;have hfX:f<X.length:=by rw[hlr,Hl.out];exact hf
    obtain⟨g,cap,rfl,c1,c2,q1,q2,hfz⟩:=hO.shapeOwn (by omega);unfold maxLen at c2;have q3:=Nat.le_trans hb.size q1;have S0:=AJ.stored1 As hO (Bo hfX) (j:=0) (by decide) (y:=Cu kind (infoAt X f)) (u:= .int .i64 kind) rfl;rw[Nat.add_zero] at S0;have S:=AA S0;clear S0;obtain⟨d0,_,_⟩:=AJ.infoCells hO hfX;have Fr:=hfz (f*3);have hbX:=AT (hb.trans (hb2.mono hb.size)) S.out.2 q3 (Nat.le_trans hb.size hb2.size);have hfi:(f:Int)<X.length:=by omega
    have hOl:=AA (S.out.1.lower hb.size);clear hO hb2 hb hlr;go_wp2_with fail;generalize hw3:w2.setCell _ _=w3 at*;clear d0 Fr hfz hw3;have hXl:(X.set f (Cu kind (infoAt X f))).length=X.length:=List.length_set ..;have C9:=Cl (.slice (some ⟨g,0,none⟩) X.length cap) (X.set f (Cu kind (infoAt X f))) w3 hOl.out.rd SM.out;cases hq:A0 (X.set f (Cu kind (infoAt X f)))
    ·have P3:=AA (show FU m infos f kind ss=(infos,1) by rw[P2.out,hq];rfl)
     rw[hq] at C9;have C:=AA C9;clear C9 hq hXl;refine(C.out).mono ?_;rintro e w4 ⟨rfl,hb4⟩;have hb:=hbX.trans (hb4.mono hbX.size);go_wp2_with fail;refine(C6.out _ hb).mono ?_;rintro e w2 ⟨v',rfl,hO,hb2⟩;go_wp2_with fail;go_ret2;exact⟨v',by rw[P3.out];rfl,by rw[P3.out];exact hO.lower hb.size,hb.trans (hb2.mono hb.size)⟩
    ·have P3:=AA (show FU m infos f kind ss=(X.set f (Cu kind (infoAt X f)),0) by rw[P2.out,hq];rfl)
     rw[hq] at C9;have C:=AA C9;clear C9 hq hXl;refine(C.out).mono ?_;rintro e w4 ⟨rfl,hb4⟩;have hb:=hbX.trans (hb4.mono hbX.size);have hO4:=AA (hOl.out.below hb4);go_wp2_with fail;go_ret2;exact⟨_,by rw[P3.out];rfl,by rw[P3.out];exact hO4.out,hb⟩
  ·have t1:((infoAt infos f).k !=1)=false:=by simp[e1]
   have t2:((infoAt infos f).r !=0)=true:=by simp[e2]
   have P2:=AA (show FU m infos f kind ss=(infos,1) by rw[Pb,if_pos (.inr e2)]);clear e1 e2;go_wp2_with fail;refine(C6.out _ hb).mono ?_;rintro e w2 ⟨v',rfl,hO,hb2⟩;go_wp2_with fail;go_ret2;exact⟨v',by rw[P2.out];rfl,by rw[P2.out];exact hO.lower hb.size,hb.trans (hb2.mono hb.size)⟩
 ·have t1:((infoAt infos f).k !=1)=true:=by simp[e1]
  have P2:=AA (show FU m infos f kind ss=(infos,1) by rw[Pb,if_pos (.inl e1)]);clear e1 D2;go_wp2_with fail;refine(C6.out _ hb).mono ?_;rintro e w2 ⟨v',rfl,hO,hb2⟩;go_wp2_with fail;go_ret2;exact⟨v',by rw[P2.out];rfl,by rw[P2.out];exact hO.lower hb.size,hb.trans (hb2.mono hb.size)⟩
theorem Mf (v iv:Value) (m:List (List Int)) (infos:List AQ) (f:Nat) (w:World) (h:BJ w v m) (hok:Bg m=true) (hI:BH w iv infos) (hio:A0 infos=true) (hf:f<12):
 Calls prog 255 #[v,iv, .int .i64 f] w (KP (Cw m infos f) w):=by
 have hl:=(At.1 hio).1;have C1:=AA (fun W (hW:Below w.heap.size w W)=>by have:=GJ v m W (h.below hW);rw[hok] at this;exact this);have C2:=AA (fun W (hW:Below w.heap.size w W)=>by have:=Cl iv infos W (A3.below hI hW) (Bh hio);rw[hio] at this;exact this);have C3:=AA (fun W (_:Below w.heap.size w W)=>Ae (by have:=BT (f:Int) W;rw[show Bk (f:Int) 0 11=true from AZ.2 (by omega)] at this;exact this));have C4:=AA (fun W (_:Below w.heap.size w W)=>Ae (By (infoAt infos f).k W));have C6:=AA (fun W (hW:Below w.heap.size w W)=>Ew iv infos W (A3.below hI hW) (by omega));have C8:=AA (fun W (hW:Below w.heap.size w W)=>Of v iv m infos f (-1) W (h.below hW) hok (A3.below hI hW) hio hf (.inr rfl));have SM:=AA (J0 (kind:=1) hok hio hf (.inr (rfl:(-1:Int)= -1)));obtain⟨ai,ci,rfl,hci,hcim,H2⟩:=A3.open As (by decide) hI;obtain⟨bi,offi,rfl,hbi,D0,_,D2⟩:=H2.infoCells (show f<infos.length by omega);have hfl:(f:Int)<infos.length:=by omega
 have Hl:=AA hl;have hb:=Below.refl w.heap.size w;clear h hok hI hio hl H2;go_in;go_wp2_with fail;refine(C1.out _ hb).mono ?_;rintro e w_ ⟨rfl,hb_⟩;replace hb:=hb.trans (hb_.mono hb.size);clear hb_;go_wp2_with fail;refine(C2.out _ hb).mono ?_;rintro e w_ ⟨rfl,hb_⟩;replace hb:=hb.trans (hb_.mono hb.size);clear hb_;go_wp2_with fail;refine(C3.out _ hb).mono ?_;rintro e w_ ⟨rfl,hb_⟩;replace hb:=hb.trans (hb_.mono hb.size);clear hb_;replace D0:=(hb.cell (p:=⟨bi,offi+f*3,none⟩) hbi).trans D0;have D2':=D2;replace D2:=(hb.cell (p:=⟨bi,offi+f*3+2,none⟩) hbi).trans D2;cases e1:Ba (infoAt infos f).k
 ·have P2:=AA (show Cw m infos f=(infos,1) by rw[K6,if_pos (.inl e1)])
  have T:=AA e1;clear e1 D2;go_wp2_with fail;refine(C4.out _ hb).mono ?_;rintro e w_ ⟨rfl,hb_⟩;rw[T.out];replace hb:=hb.trans (hb_.mono hb.size);clear hb_;go_wp2_with fail;refine(C6.out _ hb).mono ?_;rintro e w2 ⟨v',rfl,hO,hb2⟩;go_wp2_with fail;go_ret2;exact⟨v',by rw[P2.out];rfl,by rw[P2.out];exact hO.lower hb.size,hb.trans (hb2.mono hb.size)⟩
 ·have T:=AA e1
  by_cases e2:(infoAt infos f).r=0
  ·have t2:((infoAt infos f).r !=0)=false:=by simp[e2]
   have P2:=AA (show Cw m infos f=if A0 (AV (Aw infos (named (AL m f)) (-1)) f (Cu 1)) then(AV (Aw infos (named (AL m f)) (-1)) f (Cu 1),0) else(infos,2) by rw[K6,if_neg (by simp[e1,e2])]);clear e1 e2;go_wp2_with fail;refine(C4.out _ hb).mono ?_;rintro e w_ ⟨rfl,hb_⟩;rw[T.out];replace hb:=hb.trans (hb_.mono hb.size);clear hb_;replace D2:=(hb.cell (p:=⟨bi,offi+f*3+2,none⟩) hbi).trans D2';go_wp2_with fail;clear D0 D2;refine(C8.out _ hb).mono ?_;rintro e w2 ⟨v',rfl,hO,hb2⟩;have hlr:(Aw infos (named (AL m f)) (-1)).length=infos.length:=G7;rw[Fu] at P2 SM;generalize Aw infos (named (AL m f)) (-1)=X at*;have hfX:f<X.length:=by rw[hlr,Hl.out];exact hf
   obtain⟨g,cap,rfl,c1,c2,q1,q2,hfz⟩:=hO.shapeOwn (by omega);unfold maxLen at c2;have q3:=Nat.le_trans hb.size q1;have S0:=AJ.stored1 As hO (Bo hfX) (j:=0) (by decide) (y:=Cu 1 (infoAt X f)) (u:= .int .i64 1) rfl;rw[Nat.add_zero] at S0;have S:=AA S0;clear S0;obtain⟨d0,_,_⟩:=AJ.infoCells hO hfX;have Fr:=hfz (f*3);have hbX:=AT (hb.trans (hb2.mono hb.size)) S.out.2 q3 (Nat.le_trans hb.size hb2.size);have hfi:(f:Int)<X.length:=by omega
   have hOl:=AA (S.out.1.lower hb.size);clear hO hb2 hb hlr;go_wp2_with fail;generalize hw3:w2.setCell _ _=w3 at*;clear d0 Fr hfz hw3;have hXl:(X.set f (Cu 1 (infoAt X f))).length=X.length:=List.length_set ..;have C9:=Cl (.slice (some ⟨g,0,none⟩) X.length cap) (X.set f (Cu 1 (infoAt X f))) w3 hOl.out.rd SM.out;cases hq:A0 (X.set f (Cu 1 (infoAt X f)))
   ·have P3:=AA (show Cw m infos f=(infos,2) by rw[P2.out,hq];rfl)
    rw[hq] at C9;have C:=AA C9;clear C9 hq hXl;refine(C.out).mono ?_;rintro e w4 ⟨rfl,hb4⟩;have hb:=hbX.trans (hb4.mono hbX.size);go_wp2_with fail;refine(C6.out _ hb).mono ?_;rintro e w2 ⟨v',rfl,hO,hb2⟩;go_wp2_with fail;go_ret2;exact⟨v',by rw[P3.out];rfl,by rw[P3.out];exact hO.lower hb.size,hb.trans (hb2.mono hb.size)⟩
   ·have P3:=AA (show Cw m infos f=(X.set f (Cu 1 (infoAt X f)),0) by rw[P2.out,hq];rfl)
    rw[hq] at C9;have C:=AA C9;clear C9 hq hXl;refine(C.out).mono ?_;rintro e w4 ⟨rfl,hb4⟩;have hb:=hbX.trans (hb4.mono hbX.size);have hO4:=AA (hOl.out.below hb4);go_wp2_with fail;go_ret2;exact⟨_,by rw[P3.out];rfl,by rw[P3.out];exact hO4.out,hb⟩
  ·have t2:((infoAt infos f).r !=0)=true:=by simp[e2]
   have P2:=AA (show Cw m infos f=(infos,1) by rw[K6,if_pos (.inr e2)]);clear e1 e2;go_wp2_with fail;refine(C4.out _ hb).mono ?_;rintro e w_ ⟨rfl,hb_⟩;rw[T.out];replace hb:=hb.trans (hb_.mono hb.size);clear hb_;replace D2:=(hb.cell (p:=⟨bi,offi+f*3+2,none⟩) hbi).trans D2';go_wp2_with fail;refine(C6.out _ hb).mono ?_;rintro e w2 ⟨v',rfl,hO,hb2⟩;go_wp2_with fail;go_ret2;exact⟨v',by rw[P2.out];rfl,by rw[P2.out];exact hO.lower hb.size,hb.trans (hb2.mono hb.size)⟩
theorem Tryz.infoRow:(prog.info? 30).map (fun i=>(i.zero,i.size,i.bytes))=some (some (.slice none 0 0),1,24):=by kernel_rfl
theorem Jn:30≠3:=by decide
theorem Ii {lo e sz n B:Nat} {w:World} {v u:Value} {xs:List Value} (h:w.ownsRow lo e sz v n xs) (hu:∀k,u.ownBlock=some k→w.heap.size≤k):Fa v u:=by intro k hk hu';have h1:=(h.lt k hk).2;have h2:=hu k hu';omega
theorem Ah.push {lo:Nat} {w w1 w2:World} {v v' u:Value} {vs:List Value} {xss:List (List Int)} {x:List Int}
 (h:Ah lo w v vs xss) (hb:Below w.heap.size w w1) (hlo:lo≤w.heap.size) (hu:AE w.heap.size w1 u x)
 (h1:w2.ownsRow lo 30 1 v' (vs.length+1) (Bj Fg vs++[u])) (h2:w1.grownBy w2 v.ownBlock):Ah lo w2 v' (vs++[u]) (xss++[x]):=by
 obtain⟨a1,a2,a3⟩:=h;have a1':=a1.below hb;refine⟨?_,FP.snoc (a2.mono fun y ys hy=>?_) ?_,CJ.snoc a3 fun y hy=>?_⟩
 ·unfold AJ
  rw[BS,EO,List.length_append];exact h1
 ·have hy':=hy.below hb
  exact Av hy' h2 (BK hy' a1' (Ne.symm Jn)).ne
 ·exact Av (BQ hu hlo) h2 (BK hu a1' (Ne.symm Jn)).ne
 ·obtain⟨i,hi⟩:=List.getElem?_of_mem hy
  obtain⟨ys,hys⟩:∃ys,xss[i]? =some ys:=⟨_,List.getElem?_eq_getElem (by rw[←a2.1];exact(List.getElem?_eq_some_iff.1 hi).1)⟩
  exact Ii (B:=0) (a2.2 i y ys hi hys) (fun k hk=>(hu.lt k hk).1)
def Gj (n:Nat):List (List Int):=List.replicate n [0,0,0,0]
theorem Td (w:World):
 Calls prog 99 #[] w fun e w'=>∃v vs,e= .returned v∧Ah w.heap.size w' v vs (Gj 12)∧Below w.heap.size w w':=by
 go_in;go_wp2_with fail;go_loopw [1,2] (fun o i wr=>∃k:Nat,∃vs:List Value,k≤12∧vs.length=k∧i= .int .i64 k∧Ah w.heap.size wr o vs (Gj k)∧Below w.heap.size w wr) (fun _ i _=>12 - (intOf i).toNat)
 case atStart=>exact⟨0,[],by omega,rfl,rfl,⟨Cb _ _ _,FP.nil,CJ.nil⟩,AG _ _⟩
 case round=>
  obtain⟨k,vs,hk,hl,rfl,hO,hbel⟩:=hrel;have Hl:=AA hl;clear hl
  by_cases hlt:k<12
  ·have hv1:vs.length≤12:=by rw[Hl.out];omega
   go_wp2_with (first|(at_make;go_must (refine Pw (n:=4) rfl rfl 3 (.int .i64 0) 8 underlying30 Tryz.infoInt rfl rfl (by omega) (by unfold maxLen;omega) ?_;intro w2 hown hbel2 hsz))|(at_builtin;go_must (refine BW (lo:=w.heap.size) (n:=vs.length) (xs:=Bj Fg vs) (m:=1) (news:=[.slice (some ⟨wr.heap.size,0,none⟩) 4 4]) rfl rfl 30 (.slice none 0 0) 1 24 underlying24 Tryz.infoRow rfl (by decide) rfl ((hO.below hbel2).below (AG _ _)).1 rfl (Rd.newsAt _ #[_] _ 1 1 _ (by simp) rfl (by simp[maxLen])) (by simp[Value.oneCell']) (by unfold maxLen;omega) (by omega) (by have:=hbel.size;simp;omega) ?_;intro o' w3 g1 g2 g3 g4)));go_roundw
   case rel=>have hu:AE wr.heap.size w2 (.slice (some ⟨wr.heap.size,0,none⟩) 4 4) [0,0,0,0]:=hown;have hb2:=hbel2.trans ((AG w2 (.cells #[.slice (some ⟨wr.heap.size,0,none⟩) 4 4] 30)).mono hbel2.size);have hP:=hO.push hb2 hbel.size (hu.below (AG _ _)) g1 g2;refine⟨k+1,vs++[.slice (some ⟨wr.heap.size,0,none⟩) 4 4],by omega,by rw[List.length_append,Hl.out];rfl,by go_num,?_,(hbel.trans (hb2.mono hbel.size)).trans g4⟩;rw[show Gj (k+1)=Gj k++[[0,0,0,0]] by simp[Gj,List.replicate_succ']];exact hP
   case measure=>simp[intOf];omega
  ·obtain rfl:k=12:=by omega
   go_wp2_with fail;go_ret;exact⟨_,vs,rfl,hO,hbel⟩
theorem Tryz.infoString:(prog.info? 9).map (fun i=>(i.zero,i.size,i.bytes))=some (some (.string ⟨#[]⟩),1,16):=by kernel_rfl
theorem Tryz.infoEnv:(prog.info? 85).map (fun i=>(i.zero,i.size,i.bytes))=some (some (.agg #[.slice none 0 0, .int .i64 0]),2,32):=by kernel_rfl
theorem Ut {ts:List ByteArray}:∀u∈Bj An ts,u.oneCell'=true:=by intro u hu;obtain⟨s,_,hs⟩:=List.mem_flatMap.1 hu;simp[An] at hs;subst hs;rfl
theorem A3.keep {α:Type} {sz:Nat} {cs:α→List Value} {w w':World} {v:Value} {xs:List α} (h:A3 sz cs w v xs) (hk:∀k,k<w.heap.size→w'.heap[k]? =w.heap[k]?):A3 sz cs w' v xs:=Rd.keep h hk
theorem Bm.push {lo lo':Nat} {w w1 w2:World} {v v' r:Value} {ps:List (Value×Int)} {es:List EM} {ts:List ByteArray} {n:Int}
 (h:Bm lo w v ps es) (hb:Below w.heap.size w w1) (hlo:lo≤lo') (hlo':w.heap.size≤lo') (hr:AJ lo' 9 1 An w1 r ts)
 (h1:w2.ownsRow lo 85 2 v' (ps.length+1) (Bj ED ps++[r, .int .i64 n])) (h2:w1.grownBy w2 v.ownBlock):Bm lo w2 v' (ps++[(r,n)]) (es++[⟨ts,n⟩]):=by
 obtain⟨a1,a2,a3⟩:=h;have a1':=a1.below hb;have hne:9≠85:=by decide
 refine⟨?_,FP.snoc (a2.mono fun y ys hy=>⟨?_,hy.2⟩) ⟨?_,rfl⟩,?_⟩
 ·unfold AJ
  rw[BS,EO,List.length_append];exact h1
 ·have hy':=hy.1.below hb
  exact Av hy' h2 (BK hy' a1' hne).ne
 ·exact Av (BQ hr hlo) h2 (BK hr a1' hne).ne
 ·rw[List.map_append]
  refine CJ.snoc a3 fun y hy=>?_
  obtain⟨p,hp,rfl⟩:=List.mem_map.1 hy;obtain⟨i,hi⟩:=List.getElem?_of_mem hp;obtain⟨e,he⟩:∃e,es[i]? =some e:=⟨_,List.getElem?_eq_getElem (by rw[←a2.1];exact(List.getElem?_eq_some_iff.1 hi).1)⟩
  exact Ii (B:=0) (a2.2 i p e hi he).1 (fun k hk=>Nat.le_trans hlo' (hr.lt k hk).1)
def VQ (lo lo' g:Nat) (arg u ev:Value) (b at_:Nat) (k:Int) (ts:List ByteArray) (ps:List (Value×Int)) (es:List EM) (i:Nat) (v:Value) (w:World):Prop:=match i with
 |0=>v= .pointer (some ⟨g,2,none⟩)
 |1=>v=ev
 |2=>∃g2,v= .slice (some ⟨g2,0,none⟩) 0 0∧lo'≤g2∧w.heap[g2]? =some (.cells #[] 9 (0,0))
 |3=>v=arg
 |4=>v= .int .i64 k
 |5=>v= .pointer (some ⟨b,at_,none⟩)
 |6=>v=u
 |7=>AJ lo' 9 1 An w v ts
 |8=>∃r,v= .agg #[r, .int .i64 (-1)]∧AJ lo' 9 1 An w r ts
 |9=>∃r g9,v= .slice (some ⟨g9,0,none⟩) 1 1∧lo'≤g9∧w.heap[g9]? =some (.cells #[r, .int .i64 (-1)] 85 (0,0))∧AJ lo' 9 1 An w r ts
 |10=>∃r,Bm lo w v (ps++[(r,-1)]) (es++[⟨ts,-1⟩])
 |11=>v= .pointer (some ⟨g,2,none⟩)
 |_=>True
theorem EQ {lo e sz n:Nat} {w w':World} {v:Value} {xs:List Value} {row:Option Nat} (h:w.ownsRow lo e sz v n xs) (hg:w.grownBy w' row) (hr:∀k,row=some k→k<lo):w'.ownsRow lo e sz v n xs:=by
 refine Av h hg ?_;cases hv:v.ownBlock with
 |none=>exact .inl rfl
 |some k=>
  refine .inr fun he=>?_
  have h1:=hr k he.symm;have h2:=(h.lt k hv).1;omega
theorem Km {w w':World} {lo g:Nat} {o:Obj} {row:Option Nat} (h:w.heap[g]? =some o) (hl:lo≤g) (hg:w.grownBy w' row) (hr:∀k,row=some k→k<lo):w'.heap[g]? =some o:=
 (hg.block g (Array.getElem?_eq_some_iff.1 h).1 (fun e=>by have:=hr g e.symm;omega)).trans h
theorem Jq {lo lo' g:Nat} {arg u ev:Value} {b at_:Nat} {k:Int} {ts:List ByteArray} {ps:List (Value×Int)} {es:List EM} {i:Nat} {v:Value} {w w':World} {row:Option Nat}
 (h:VQ lo lo' g arg u ev b at_ k ts ps es i v w) (hg:w.grownBy w' row) (hr:∀k,row=some k→k<lo') (hi:i≠10∨row=none):VQ lo lo' g arg u ev b at_ k ts ps es i v w':=by
 match i with
 |0=>exact h
 |1=>exact h
 |2=>obtain⟨g2,h0,h1,h2⟩:=h;exact⟨g2,h0,h1,Km h2 h1 hg hr⟩
 |3=>exact h
 |4=>exact h
 |5=>exact h
 |6=>exact h
 |7=>exact EQ h hg hr
 |8=>obtain⟨r,h0,h1⟩:=h;exact⟨r,h0,EQ h1 hg hr⟩
 |9=>obtain⟨r,g9,h0,h1,h2,h3⟩:=h;exact⟨r,g9,h0,h1,Km h2 h1 hg hr,EQ h3 hg hr⟩
 |10=>
  obtain⟨r,h0⟩:=h
  rcases hi with hi|hi
  ·exact absurd rfl hi
  ·subst hi;exact⟨r,h0.below ⟨hg.os,hg.tape,hg.output,hg.size,fun k hk=>hg.block k hk (by simp)⟩⟩
 |11=>exact h
 |_+12=>trivial
theorem Sr {α:Type} (us vs:List α) (u0 u:α):(us++u0::vs).set us.length u=(us++[u])++vs:=by simp
def Er (lo:Nat) (w:World) (v:Value) (us vs:List Value) (m:List (List Int)):Prop:=AJ lo 30 1 Fg w v (us++vs)∧FP (AE lo w) us (m.take us.length)∧CJ us
theorem Er.step {lo g n cap:Nat} {w w1:World} {us vs:List Value} {u0 u:Value} {m:List (List Int)} {r:List Int} (h:Er lo w (.slice (some ⟨g,0,none⟩) n cap) us (u0::vs) m) (hn:n=(us++u0::vs).length)
 (hb:Below w.heap.size w w1) (hlo:lo≤w.heap.size) (hu:AE w.heap.size w1 u r) (hr:m[us.length]? =some r):
 Er lo (w1.setCell ⟨g,us.length,none⟩ u) (.slice (some ⟨g,0,none⟩) n cap) (us++[u]) vs m∧w1.grownBy (w1.setCell ⟨g,us.length,none⟩ u) (some g):=by
 obtain⟨a1,a2,a3⟩:=h;have a1':=a1.below hb;subst hn;have S:=AJ.stored1 EG a1' (k:=us.length) (x:=u0) (by simp) (j:=0) (by decide) (y:=u) (u:=u) rfl;rw[Nat.mul_one,Nat.add_zero,Sr] at S;have hne:3≠30:=Ne.symm Jn;refine⟨⟨?_,?_,CJ.snoc a3 fun y hy=>?_⟩,S.2⟩
 ·have:=S.1
  rwa [show(us++u0::vs).length=((us++[u])++vs).length by simp] at this ⊢
 ·rw[List.length_append,List.length_singleton,Cv hr]
  refine FP.snoc (a2.mono fun y ys hy=>?_) ?_
  ·have hy':=hy.below hb
   exact Av hy' S.2 (BK hy' a1' hne).ne
  ·exact Av (BQ hu hlo) S.2 (BK hu a1' hne).ne
 ·obtain⟨i,hi⟩:=List.getElem?_of_mem hy
  obtain⟨ys,hys⟩:∃ys,(m.take us.length)[i]? =some ys:=⟨_,List.getElem?_eq_getElem (by rw[←a2.1];exact(List.getElem?_eq_some_iff.1 hi).1)⟩
  exact Ii (B:=0) (a2.2 i y ys hi hys) (fun k hk=>(hu.lt k hk).1)
theorem Er.whole {lo:Nat} {w:World} {v:Value} {us:List Value} {m:List (List Int)} (h:Er lo w v us [] m) (hl:us.length=m.length):Ah lo w v us m:=by obtain⟨a1,a2,a3⟩:=h;rw[List.append_nil] at a1;rw[hl,List.take_length] at a2;exact⟨a1,a2,a3⟩
theorem Er.below {lo:Nat} {w w1:World} {v:Value} {us vs:List Value} {m:List (List Int)} (h:Er lo w v us vs m) (hb:Below w.heap.size w w1):Er lo w1 v us vs m:=⟨h.1.below hb,h.2.1.mono fun _ _ h=>AE.below h hb,h.2.2⟩
def Fb (lo:Nat) (w:World) (v:Value) (qs ps:List (Value×Int)) (es:List EM):Prop:=AJ lo 85 2 ED w v (qs++ps)∧FP (fun p e=>AJ lo 9 1 An w p.1 e.rights∧p.2=e.root) qs (es.take qs.length)∧CJ (qs.map (·.1))
theorem Fb.step {lo g n cap:Nat} {w w1:World} {qs ps:List (Value×Int)} {p0:Value×Int} {u:Value} {es:List EM} {e:EM} (h:Fb lo w (.slice (some ⟨g,0,none⟩) n cap) qs (p0::ps) es) (hn:n=(qs++p0::ps).length)
 (hb:Below w.heap.size w w1) (hlo:lo≤w.heap.size) (hu:AJ w.heap.size 9 1 An w1 u e.rights) (he:es[qs.length]? =some e) (hp:p0.2=e.root):
 Fb lo (w1.setCell ⟨g,qs.length*2,none⟩ u) (.slice (some ⟨g,0,none⟩) n cap) (qs++[(u,p0.2)]) ps es∧w1.grownBy (w1.setCell ⟨g,qs.length*2,none⟩ u) (some g):=by
 obtain⟨a1,a2,a3⟩:=h;have a1':=a1.below hb;subst hn;have S:=AJ.stored1 Fv a1' (k:=qs.length) (x:=p0) (by simp) (j:=0) (by decide) (y:=(u,p0.2)) (u:=u) rfl;rw[Nat.add_zero,Sr] at S;have hne:9≠85:=by decide
 refine⟨⟨?_,?_,?_⟩,S.2⟩
 ·have:=S.1
  rwa [show(qs++p0::ps).length=((qs++[(u,p0.2)])++ps).length by simp] at this ⊢
 ·rw[List.length_append,List.length_singleton,Cv he]
  refine FP.snoc (a2.mono fun y ys hy=>⟨?_,hy.2⟩) ⟨?_,hp⟩
  ·have hy':=hy.1.below hb
   exact Av hy' S.2 (BK hy' a1' hne).ne
  ·exact Av (BQ hu hlo) S.2 (BK hu a1' hne).ne
 ·rw[List.map_append]
  refine CJ.snoc a3 fun y hy=>?_
  obtain⟨p,hp,rfl⟩:=List.mem_map.1 hy;obtain⟨i,hi⟩:=List.getElem?_of_mem hp;obtain⟨e',he'⟩:∃e',(es.take qs.length)[i]? =some e':=⟨_,List.getElem?_eq_getElem (by rw[←a2.1];exact(List.getElem?_eq_some_iff.1 hi).1)⟩
  exact Ii (B:=0) (a2.2 i p e' hi he').1 (fun k hk=>(hu.lt k hk).1)
theorem Fb.whole {lo:Nat} {w:World} {v:Value} {qs:List (Value×Int)} {es:List EM} (h:Fb lo w v qs [] es) (hl:qs.length=es.length):Bm lo w v qs es:=by obtain⟨a1,a2,a3⟩:=h;rw[List.append_nil] at a1;rw[hl,List.take_length] at a2;exact⟨a1,a2,a3⟩
theorem PX (v:Value) (m:List (List Int)) (w:World) (h:BJ w v m) (hok:Bg m=true):
 Calls prog 96 #[v] w fun e w'=>∃v' vs,e= .returned v'∧Ah w.heap.size w' v' vs m∧Below w.heap.size w w':=by
 obtain⟨vs,h1,h2⟩:=h;have hml:=(Af.1 hok).1;have hvl:vs.length=12:=by rw[h2.1,hml]
 have CC:=AA (J6 v vs w h1 (by omega) (OZ h2));have CI:=AA (fun k (hk:k<12) W (hW:Below w.heap.size w W)=>IU (vs.getD k (.bool false)) (AL m k) W (Ap.below (h2.2 k _ _ (A8 (by omega)) (by unfold AL;exact A8 (by omega))) hW) (by have:=(BG.1 ((Af.1 hok).2 k hk)).1;omega));have SH:=AA (fun k (hk:k<12)=>(by obtain⟨a,c,e,_⟩:=(h2.2 k _ _ (A8 (d:=Value.bool false) (by omega)) (A8 (d:=[]) (by omega))).open;exact⟨a,_,c,e⟩:∃a n c,vs.getD k (.bool false)= .slice a n c));have Hvl:=AA hvl;have Hml:=AA hml;obtain⟨ai,ci,rfl,_,_⟩:=h1.shape;clear h1 h2 hok hml;rw[hvl] at CC ⊢;clear hvl;go_in;go_wp2_with fail;refine(CC.out).mono ?_;rintro e w1 ⟨v',rfl,hO,hb1⟩;obtain⟨g,cap,rfl,c1,c2,q1,q2,hfz⟩:=hO.shapeOwn (by have:=Hvl.out;omega);unfold maxLen at c2;rw[Hvl.out] at hO c1 ⊢;have HO:=AA hO;have HB:=AA hb1;clear hO hb1 hfz;go_wp2_with fail;go_loopw [10] (fun i wr=>∃us:List Value,us.length≤12∧i= .int .i64 us.length∧Er w.heap.size wr (.slice (some ⟨g,0,none⟩) 12 cap) us (vs.drop us.length) m∧Below w.heap.size w wr) (fun i _=>12 - (intOf i).toNat)
 case atStart=>exact⟨[],by simp,rfl,⟨HO.out,FP.nil,CJ.nil⟩,HB.out⟩
 case round=>
  obtain⟨us,hk,rfl,hH,hbel⟩:=hrel
  by_cases hlt:us.length<12
  ·have hlv:us.length<vs.length:=by rw[Hvl.out];exact hlt
   have ed:vs.drop us.length=vs.getD us.length (.bool false)::vs.drop (us.length+1):=by
    rw[List.drop_eq_getElem_cons hlv]
    congr 1
    simp[hlv]
   rw[ed] at hH;have hlen:(us++vs.getD us.length (.bool false)::vs.drop (us.length+1)).length=12:=by have:=Hvl.out;simp only[List.length_append,List.length_cons,List.length_drop];omega
   have hH1:=hH.1;rw[←hlen] at hH1;have D:=AJ.cellsAt EG hH1 (k:=us.length) (x:=vs.getD us.length (.bool false)) (by simp) 0 _ rfl;rw[Nat.mul_one,Nat.add_zero] at D;have C:=CI.out _ hlt wr hbel;have hr:m[us.length]? =some (AL m us.length):=by unfold AL;exact A8 (by rw[Hml.out];exact hlt)
   have HH:=AA hH;have HR:=AA hr;have CH:=AA C;have Hlen:=AA hlen;have hfz:=World.ownsRow.frozenAt hH1 us.length;have c12:(12:Int)≤cap:=by omega
   clear hH hH1 hr C ed hlen;generalize hu0:vs.getD us.length (.bool false)=u0 at*;obtain⟨a0,n0,c0,rfl⟩:∃a n c,u0= .slice a n c:=by have:=SH.out _ hlt;rwa [hu0] at this
   go_wp2_with fail;refine(CH.out).mono ?_;rintro e w2 ⟨u,rfl,hu,hb2⟩;have D2:=(hb2.cell (p:=⟨g,us.length,none⟩) (World.block_lt_of_cell? wr _ D)).trans D;have hfz2:=(hb2.frozen (p:=⟨g,us.length,none⟩) (World.block_lt_of_cell? wr _ D)).trans hfz;have ST:=AA (Er.step HH.out Hlen.out.symm hb2 hbel.size hu HR.out);have HB2:=AA (AT (hbel.trans (hb2.mono hbel.size)) ST.out.2 q1 (Nat.le_trans hbel.size hb2.size));obtain⟨a9,c9,rfl,_⟩:=hu.rd.open;clear D hfz hu hb2 hbel;go_wp2_with fail;go_roundw
   case rel=>refine⟨us++[.slice a9 (AL m us.length).length c9],by rw[List.length_append,List.length_singleton];omega,by rw[List.length_append,List.length_singleton];go_num,?_,HB2.out⟩;rw[List.length_append,List.length_singleton];exact ST.out.1
   case measure=>simp[intOf];omega
  ·have e12:us.length=12:=by omega
   rw[List.drop_eq_nil_of_le (by rw[e12,Hvl.out];exact Nat.le_refl _)] at hH;have R:=AA (hH.whole (by rw[e12,Hml.out]));clear hH;go_wp2_with fail;go_ret;exact⟨_,us,rfl,R.out,hbel⟩
def HJ (lo:Nat) (w:World) (v:Value) (k:AN) (ps:List (Value×Int)):Prop:=∃m i e c,v= .agg #[m,i,e,c]∧(∃vs,Ah lo w m vs k.mem)∧AJ lo 135 3 Ag w i k.infos∧AJ lo 85 2 ED w e ps∧AJ lo 140 4 AP w c k.cache
theorem HJ.below {lo:Nat} {w w':World} {v:Value} {k:AN} {ps:List (Value×Int)} (h:HJ lo w v k ps) (hb:Below w.heap.size w w'):HJ lo w' v k ps:=by obtain⟨m,i,e,c,h0,⟨vs,h1⟩,h2,h3,h4⟩:=h;exact⟨m,i,e,c,h0,⟨vs,h1.below hb⟩,h2.below hb,h3.below hb,h4.below hb⟩
def Ir (lo:Nat) (w:World) (v:Value):Prop:=∃g,v= .pointer (some ⟨g,0,none⟩)∧lo≤g∧w.heap[g]? =some (.cells #[.slice none 0 0, .slice none 0 0, .slice none 0 0, .slice none 0 0] 29 (0,0))
theorem Ir.below {lo:Nat} {w w':World} {v:Value} (h:Ir lo w v) (hb:Below w.heap.size w w'):Ir lo w' v:=by obtain⟨g,h0,h1,h2⟩:=h;exact⟨g,h0,h1,AF h2 hb⟩
def Kh (w0:World) (g:Nat) (m i e c:Value) (k:AN) (qs ps:List (Value×Int)) (wr:World):Prop:=
 wr.heap[g]? =some (.cells #[m,i,e,c] 29 (0,0))∧(∃vs,Ah w0.heap.size wr m vs k.mem)∧AJ w0.heap.size 135 3 Ag wr i k.infos∧Fb w0.heap.size wr e qs ps k.envs∧AJ w0.heap.size 140 4 AP wr c k.cache∧Below w0.heap.size w0 wr
theorem Fb.below {lo:Nat} {w w1:World} {v:Value} {qs ps:List (Value×Int)} {es:List EM} (h:Fb lo w v qs ps es) (hb:Below w.heap.size w w1):Fb lo w1 v qs ps es:=⟨h.1.below hb,h.2.1.mono fun _ _ h=>⟨h.1.below hb,h.2⟩,h.2.2⟩
theorem Kh.below {w0:World} {g:Nat} {m i e c:Value} {k:AN} {qs ps:List (Value×Int)} {wr w':World} (h:Kh w0 g m i e c k qs ps wr) (hb:Below wr.heap.size wr w'):Kh w0 g m i e c k qs ps w':=by obtain⟨h0,⟨vs,h1⟩,h2,h3,h4,h5⟩:=h;exact⟨AF h0 hb,⟨vs,h1.below hb⟩,h2.below hb,h3.below hb,h4.below hb,h5.trans (hb.mono h5.size)⟩
theorem Kh.step {w0:World} {g ge n cap:Nat} {m i c:Value} {k:AN} {qs ps:List (Value×Int)} {p0:Value×Int} {w w1:World} {u:Value} {e:EM} (h:Kh w0 g m i (.slice (some ⟨ge,0,none⟩) n cap) c k qs (p0::ps) w) (hn:n=(qs++p0::ps).length)
 (hb:Below w.heap.size w w1) (hu:AJ w.heap.size 9 1 An w1 u e.rights) (he:k.envs[qs.length]? =some e) (hp:p0.2=e.root):
 Kh w0 g m i (.slice (some ⟨ge,0,none⟩) n cap) c k (qs++[(u,p0.2)]) ps (w1.setCell ⟨ge,qs.length*2,none⟩ u):=by
 obtain⟨hB,⟨vs,h1⟩,h2,h3,h4,h5⟩:=h;have S:=Fb.step h3 hn hb h5.size hu he hp;have hB1:=AF hB hb;have h3':=h3.1.below hb;obtain⟨cur,hcur⟩:=Bf h3' ge rfl;have hlo:=(World.ownsRow.lt h3' ge rfl).1;refine⟨(S.2.block g (Ao hB1) fun e=>?_).trans hB1,⟨vs,(h1.below hb).far S.2 hcur (by decide) (by decide)⟩,(h2.below hb).far S.2 hcur (by decide),S.1,(h4.below hb).far S.2 hcur (by decide),(h5.trans (hb.mono h5.size)).setCell hlo _⟩;cases e;rw[hB1] at hcur;simp at hcur
def MH (w:World) (k:AN) (e:Ending) (w':World):Prop:=∃m i ev c,e= .returned (.agg #[m,i,ev,c])∧Cz w.heap.size w' m i ev c k∧Below w.heap.size w w'
theorem Mv {k:AN} (hk:De k) {j:Nat} (hj:j<3):(AC k.envs j).rights.length≤6:=by have h5:=hk.rights j hj;unfold A2 at h5;simp only[Bool.and_eq_true,decide_eq_true_eq] at h5;exact h5.2
theorem PY (m i e c:Value) (k:AN) (w:World) (h:Mb w m i e c k) (hk:De k):
 Calls prog 95 #[.agg #[m,i,e,c]] w (MH w k):=by
 obtain⟨h1,h2,⟨ps,h3,h3'⟩,h4⟩:=h;have hpl:ps.length=3:=by rw[h3'.1,hk.envl]
 have hcl:k.cache.length≤4:=by have:=hk.cache;simp only[Bc,Bool.and_eq_true,decide_eq_true_eq] at this;exact this.2
 have hel:=hk.envl;have N0:=heap_alloc_new w (.cells #[m,i,e,c] 29);have N1:=heap_alloc_new (w.alloc (.cells #[m,i,e,c] 29)) (.cells #[.slice none 0 0, .slice none 0 0, .slice none 0 0, .slice none 0 0] 29);replace N0:=AF N0 (AG _ (.cells #[.slice none 0 0, .slice none 0 0, .slice none 0 0, .slice none 0 0] 29));have hb0:=F3 w (.cells #[m,i,e,c] 29) (.cells #[.slice none 0 0, .slice none 0 0, .slice none 0 0, .slice none 0 0] 29);have hs0:w.heap.size+2=((w.alloc (.cells #[m,i,e,c] 29)).alloc (.cells #[.slice none 0 0, .slice none 0 0, .slice none 0 0, .slice none 0 0] 29)).heap.size:=by simp
 simp only[World.size_alloc] at N1;obtain⟨am,cm,rfl,_⟩:=h1.open;obtain⟨ai,ci,rfl,_⟩:=h2.shape;obtain⟨ae,ce,rfl,_⟩:=h3.shape;obtain⟨ac,cc,rfl,_⟩:=h4.shape;have Hpl:=AA hpl;have Hcl:=AA hcl;have Hel:=AA hel;clear hpl hcl hel;go_in;go_wp2_with fail;have hpl:=Hpl.out;have hcl:=Hcl.out;have hel:=Hel.out;generalize hW0:(w.alloc _).alloc _=W0 at*;have C1:=AA (fun W (hW:Below W0.heap.size W0 W)=>PX _ k.mem W ((h1.below hb0).below hW) hk.mem);have C2:=AA (fun W (hW:Below W0.heap.size W0 W)=>Ew _ k.infos W ((h2.below hb0).below hW) (by rw[hk.len];omega));have C3:=AA (fun W (hW:Below W0.heap.size W0 W)=>Oq _ ps W ((h3.below hb0).below hW) (by omega) (Tk h3'));have C4:=AA (fun W (hW:Below W0.heap.size W0 W)=>Gl _ k.cache W ((h4.below hb0).below hW) (by omega));have C5:=AA (fun j (hj:j<3) W (hW:Below w.heap.size w W)=>Ep (ps.getD j (.bool false,0)).1 (AC k.envs j).rights W (A3.below (h3'.2 j _ _ (A8 (by omega)) (by unfold AC;exact A8 (by omega))).1 hW) (by have h6:=Mv hk hj;omega));have C6:=AA (fun j (hj:j<3)=>(h3'.2 j (ps.getD j (.bool false,0)) (AC k.envs j) (A8 (by omega)) (by unfold AC;exact A8 (by omega))).2);have C7:=AA (fun j (hj:j<3)=>(by obtain⟨a,n,e,_⟩:=(h3'.2 j (ps.getD j (.bool false,0)) (AC k.envs j) (A8 (by omega)) (by unfold AC;exact A8 (by omega))).1.shape;exact⟨a,_,n,e⟩:∃a n c,(ps.getD j (.bool false,0)).1= .slice a n c));have Hk:=AA hk;have hlt0:w.heap.size<W0.heap.size:=by omega
 obtain⟨x0,x1,x2,x3⟩:=AB N0;clear h1 h2 h3 h3' h4 hk hW0 hpl hcl hel;refine AH 14 mixed (by kernel_rfl) 37 rfl (by kernel_rfl) (fun ix vv ww=>match ix with
  |0=>vv= .pointer (some ⟨w.heap.size,0,none⟩)
  |1=>vv= .slice am k.mem.length cm
  |2=>∃vs',Ah W0.heap.size ww vv vs' k.mem
  |3=>vv= .pointer (some ⟨w.heap.size,1,none⟩)
  |4=>vv= .slice ai k.infos.length ci
  |5=>AJ W0.heap.size 135 3 Ag ww vv k.infos
  |6=>vv= .pointer (some ⟨w.heap.size,2,none⟩)
  |7=>vv= .slice ae ps.length ce
  |8=>AJ W0.heap.size 85 2 ED ww vv ps
  |9=>vv= .pointer (some ⟨w.heap.size,3,none⟩)
  |10=>vv= .slice ac k.cache.length cc
  |11=>AJ W0.heap.size 140 4 AP ww vv k.cache
  |12=>HJ W0.heap.size ww vv k ps
  |13=>Ir W0.heap.size ww vv
  |_=>True) ?_ ?_ ?_
 ·intro i hi vv wz ww' hbz hz
  match i,hi with
  |0,_|1,_=>exact hz
  |2,_=>exact(by obtain⟨vs',h'⟩:=hz;exact⟨vs',h'.below hbz⟩)
  |3,_|4,_=>exact hz
  |5,_=>exact(AJ.below hz hbz)
  |6,_|7,_=>exact hz
  |8,_=>exact(AJ.below hz hbz)
  |9,_|10,_=>exact hz
  |11,_=>exact(AJ.below hz hbz)
  |12,_=>exact(HJ.below hz hbz)
  |13,_=>exact(Ir.below hz hbz)
 ·intro i hi o ho a wx Hb Hd hG K HK
  match i,hi with
  |0,_=>exact eF ho HK Ci (eb (Aj Hb 1))
  |1,_=>exact eL ho HK (et (AD Hd 0)) (Fd (bc hG hlt0 x0))
  |2,_=>obtain rfl:=So_ ho;have d1:(a.tmps[7]?.getD undef)= .slice am k.mem.length cm:=AD Hd 1;clear Hd Hb;refine AI.of rfl ?_;go_simp;refine(C1.out _ hG).mono ?_;rintro e w_ ⟨v',vs',rfl,hO,hb2⟩;exact HK.out _ _ ⟨vs',hO.lower hG.size⟩ hb2
  |3,_=>exact eF ho HK CU (eb (Aj Hb 1))
  |4,_=>exact eL ho HK (et (AD Hd 3)) (FF (bc hG hlt0 x1))
  |5,_=>obtain rfl:=So_ ho;have d4:(a.tmps[10]?.getD undef)= .slice ai k.infos.length ci:=AD Hd 4;clear Hd Hb;refine AI.of rfl ?_;go_simp;refine(C2.out _ hG).mono ?_;rintro e w_ ⟨v',rfl,hO,hb2⟩;exact HK.out _ _ (hO.lower hG.size) hb2
  |6,_=>exact eF ho HK GO (eb (Aj Hb 1))
  |7,_=>exact eL ho HK (et (AD Hd 6)) (La (bc hG hlt0 x2))
  |8,_=>obtain rfl:=So_ ho;have d7:(a.tmps[13]?.getD undef)= .slice ae ps.length ce:=AD Hd 7;clear Hd Hb;refine AI.of rfl ?_;go_simp;refine(C3.out _ hG).mono ?_;rintro e w_ ⟨v',rfl,hO,hb2⟩;exact HK.out _ _ (hO.lower hG.size) hb2
  |9,_=>exact eF ho HK EU (eb (Aj Hb 1))
  |10,_=>exact eL ho HK (et (AD Hd 9)) (M5 (bc hG hlt0 x3))
  |11,_=>obtain rfl:=So_ ho;have d10:(a.tmps[16]?.getD undef)= .slice ac k.cache.length cc:=AD Hd 10;clear Hd Hb;refine AI.of rfl ?_;go_simp;refine(C4.out _ hG).mono ?_;rintro e w_ ⟨v',rfl,hO,hb2⟩;exact HK.out _ _ (hO.lower hG.size) hb2
  |12,_=>
   obtain rfl:=So_ ho;have d2:∃vs',Ah W0.heap.size wx (a.tmps[8]?.getD undef) vs' k.mem:=AD Hd 2
   have d5:AJ W0.heap.size 135 3 Ag wx (a.tmps[11]?.getD undef) k.infos:=AD Hd 5;have d8:AJ W0.heap.size 85 2 ED wx (a.tmps[14]?.getD undef) ps:=AD Hd 8;have d11:AJ W0.heap.size 140 4 AP wx (a.tmps[17]?.getD undef) k.cache:=AD Hd 11;clear Hd Hb;generalize e8:a.tmps[8]?.getD undef=m' at d2;generalize e11:a.tmps[11]?.getD undef=i' at d5;generalize e14:a.tmps[14]?.getD undef=e' at d8;generalize e17:a.tmps[17]?.getD undef=c' at d11;have W:Hid (HJ W0.heap.size wx (.agg #[m',i',e',c']) k ps):=AA ⟨m',i',e',c',rfl,d2,d5,d8,d11⟩;obtain⟨_,d2⟩:=d2;obtain⟨_,_,rfl,_,_⟩:=d2.1.rd.shape;obtain⟨_,_,rfl,_,_⟩:=d5.rd.shape;obtain⟨_,_,rfl,_,_⟩:=d8.rd.shape;obtain⟨_,_,rfl,_,_⟩:=d11.rd.shape;clear d2 d5 d8 d11;refine AI.of rfl ?_;go_simp;exact HK.out _ _ W.out (Below.refl _ _)
  |13,_=>obtain rfl:=So_ ho;clear Hd Hb;refine AI.of rfl ?_;go_simp;exact HK.out _ _ ⟨_,rfl,hG.size,heap_alloc_new _ _⟩ (AG _ _)
 ·intro vs wx hR hG
  have q12:HJ W0.heap.size wx (vs 12) k ps:=BI hR 12;have q13:Ir W0.heap.size wx (vs 13):=BI hR 13;obtain⟨g,q13,hg,hB⟩:=q13;clear hR;simp only[Ai,AX,List.range,List.range.loop,List.foldl_cons,List.foldl_nil,q13];simp;generalize vs 12=z12 at q12 ⊢;clear q13;obtain⟨m',i',e0,c',rfl,⟨vs',o1⟩,o2,o3,o4⟩:=q12;obtain⟨ge,cape,rfl,d1,d2,ge1,ge2,hfze⟩:=o3.shapeOwn (by rw[Hpl.out];omega);rw[Hpl.out] at o3 d1 ⊢;unfold maxLen at d2;have hne:g≠w.heap.size+1:=by omega
  have hgr:=Ab (Ab (Ab (Al wx g 0 m') 1 i') 2 (.slice (some ⟨ge,0,none⟩) 3 cape)) 3 c';have St:Kh W0 g m' i' (.slice (some ⟨ge,0,none⟩) 3 cape) c' k [] ps ((((wx.setCell ⟨g,0,none⟩ m').setCell ⟨g,1,none⟩ i').setCell ⟨g,2,none⟩ (.slice (some ⟨ge,0,none⟩) 3 cape)).setCell ⟨g,3,none⟩ c'):=
   ⟨DJ hB,⟨vs',o1.far hgr hB (by decide) (by decide)⟩,o2.far hgr hB (by decide),⟨o3.far hgr hB (by decide),FP.nil,CJ.nil⟩,o4.far hgr hB (by decide),(((hG.setCell hg _).setCell hg _).setCell hg _).setCell hg _⟩
  obtain⟨pa,pc,rfl,_,_⟩:=o1.1.rd.shape;obtain⟨qa,qc,rfl,_,_⟩:=o2.rd.shape;obtain⟨ra,rc,rfl,_,_⟩:=o4.rd.shape;obtain⟨b0,b1,b2,b3⟩:=AB hB;have hfz:=AM hB;have HN0:=AA N0;have HN1:=AA N1;clear o1 o2 o3 o4 hG hB hgr x0 x1 x2 x3 hfze N0 N1;go_wp2_with fail;clear b0 b1 b2 b3 hfz;go_loopw [22] (fun i wr=>∃qs:List (Value×Int),qs.length≤3∧i= .int .i64 qs.length∧Kh W0 g _ _ (.slice (some ⟨ge,0,none⟩) 3 cape) _ k qs (ps.drop qs.length) wr) (fun i _=>3 - (intOf i).toNat)
  case atStart=>exact⟨[],by simp,rfl,St⟩
  case round=>
   clear St;obtain⟨qs,hq,rfl,St⟩:=hrel
   by_cases hlt:qs.length<3
   ·have hlv:qs.length<ps.length:=by rw[Hpl.out];exact hlt
    have ed:ps.drop qs.length=ps.getD qs.length (.bool false,0)::ps.drop (qs.length+1):=by
     rw[List.drop_eq_getElem_cons hlv]
     congr 1
     simp[hlv]
    rw[ed] at St;have hlen:(qs++ps.getD qs.length (.bool false,0)::ps.drop (qs.length+1)).length=3:=by have:=Hpl.out;simp only[List.length_append,List.length_cons,List.length_drop];omega
    have hH1:=St.2.2.2.1.1;rw[←hlen] at hH1;have D:=AJ.cellsAt Fv hH1 (k:=qs.length) (x:=ps.getD qs.length (.bool false,0)) (by simp);have D0:=D 0 _ rfl;have D1:=D 1 _ rfl;rw[Nat.add_zero] at D0;have fz:=World.ownsRow.frozenAt hH1;have hbw:=hb0.trans (St.2.2.2.2.2.mono hb0.size);have C:=C5.out _ hlt;have hp:=C6.out _ hlt;obtain⟨a0,n0,c0,hs0⟩:=C7.out _ hlt;have he:k.envs[qs.length]? =some (AC k.envs qs.length):=by unfold AC;exact A8 (by rw[Hel.out];exact hlt)
    have y2:=(AB St.1).2.2.1;have hgl:=Ao St.1;have hgel:=World.block_lt_of_cell? wr _ D0;have HST:=AA St;have Hlen:=AA hlen;have He:=AA he;have Hp:=AA hp;clear St hlen he hp hH1 D ed;generalize ps.getD qs.length (.bool false,0)=p0 at*;obtain⟨u0,r0⟩:=p0;cases hs0
    change wr.cell? _=some (Value.slice a0 n0 c0) at D0
    change wr.cell? _=some (Value.int .i64 r0) at D1
    have N:=heap_alloc_new wr (.cells #[.slice a0 n0 c0, .int .i64 r0] 85);have hbn:=AG wr (.cells #[.slice a0 n0 c0, .int .i64 r0] 85);have c3:(3:Int)≤cape:=by omega
    go_wp2_with fail;generalize wr.alloc _=wa at*;have y5:=cell_of_row _ _ 0 _ _ _ N;have hl5:=Ao N;have HC:=AA (fun W (hW:Below wa.heap.size wa W)=>C W ((hbw.trans (hbn.mono hbw.size)).trans (hW.mono (hbw.trans (hbn.mono hbw.size)).size)));replace y2:=(hbn.cell (p:=⟨g,2,none⟩) hgl).trans y2;replace D0:=(hbn.cell (p:=⟨ge,qs.length*2,none⟩) hgel).trans D0;have fz2:=(hbn.frozen (p:=⟨ge,qs.length*2,none⟩) hgel).trans (fz _);replace hgl:=Nat.lt_of_lt_of_le hgl hbn.size;replace hgel:=Nat.lt_of_lt_of_le hgel hbn.size;clear C N D1 fz;refine AH 8 mixed (by kernel_rfl) 37 rfl (by kernel_rfl) (fun ix vv ww=>match ix with
     |0=>vv= .pointer (some ⟨g,2,none⟩)
     |1=>vv= .slice (some ⟨ge,0,none⟩) 3 cape
     |2=>vv= .int .i64 ((qs.length:Int))
     |3=>vv= .pointer (some ⟨wr.heap.size,0,none⟩)
     |4=>vv= .slice a0 n0 c0
     |5=>AJ wa.heap.size 9 1 An ww vv (AC k.envs qs.length).rights
     |6=>vv= .pointer (some ⟨ge,qs.length*2,none⟩)
     |7=>vv= .pointer (some ⟨ge,qs.length*2,none⟩)
     |_=>True) ?_ ?_ ?_
    ·intro i hi vv wz ww' hbz hz
     match i,hi with
     |0,_|1,_|2,_|3,_|4,_=>exact hz
     |5,_=>exact(AJ.below hz hbz)
     |6,_|7,_=>exact hz
    ·intro i hi o ho a wx Hb Hd hG K HK
     match i,hi with
     |0,_=>exact eF ho HK GO (eb (Aj Hb 3))
     |1,_=>exact eL ho HK (et (AD Hd 0)) (La (bc hG hgl y2))
     |2,_=>exact eM ho HK (eb (Aj Hb 4))
     |3,_=>exact eF ho HK EV (eb (Aj Hb 5))
     |4,_=>exact eL ho HK (et (AD Hd 3)) (Ie (bc hG hl5 y5))
     |5,_=>obtain rfl:=So_ ho;have d4:(a.tmps[31]?.getD undef)= .slice a0 n0 c0:=AD Hd 4;clear Hd Hb;refine AI.of rfl ?_;go_simp;refine(HC.out _ hG).mono ?_;rintro e w_ ⟨v',rfl,hO,hb2⟩;exact HK.out _ _ (hO.lower hG.size) hb2
     |6,_=>obtain rfl:=So_ ho;have d1:(a.tmps[28]?.getD undef)= .slice (some ⟨ge,0,none⟩) 3 cape:=AD Hd 1;have d2:(a.tmps[29]?.getD undef)= .int .i64 ((qs.length:Int)):=AD Hd 2;clear Hd Hb;refine AI.of rfl ?_;go_simp;exact HK.out _ _ rfl (Below.refl _ _)
     |7,_=>exact eF ho HK EV (et (AD Hd 6))
    ·intro vs wx hR hG
     have q5:AJ wa.heap.size 9 1 An wx (vs 5) (AC k.envs qs.length).rights:=BI hR 5;have q7:(vs 7)= .pointer (some ⟨ge,qs.length*2,none⟩):=BI hR 7;clear hR;simp only[Ai,AX,List.range,List.range.loop,List.foldl_cons,List.foldl_nil,q7];simp;generalize vs 5=z5 at q5 ⊢;clear q7;have ST:=AA (Kh.step (p0:=(_,r0)) HST.out Hlen.out.symm (hbn.trans (hG.mono hbn.size)) (q5.lower hbn.size) He.out Hp.out);replace D0:=(hG.cell (p:=⟨ge,qs.length*2,none⟩) hgel).trans D0;replace fz2:=(hG.frozen (p:=⟨ge,qs.length*2,none⟩) hgel).trans fz2;obtain⟨_,_,rfl,_,_⟩:=q5.rd.shape;clear q5 hG y2 y5;go_wp2_with fail;go_roundw
     case rel=>exact⟨qs++[(_,r0)],by rw[List.length_append,List.length_singleton];omega,by rw[List.length_append,List.length_singleton];go_num,by rw[List.length_append,List.length_singleton];exact ST.out⟩
     case measure=>simp[intOf];omega
   ·have e3:qs.length=3:=by omega
    rw[List.drop_eq_nil_of_le (by rw[e3,Hpl.out];exact Nat.le_refl _)] at St;obtain⟨hB,⟨vs2,o1⟩,o2,o3,o4,hbel⟩:=St;have o5:=o3.whole (by rw[e3,Hel.out]);have hBs:=(hbel.block _ (by omega)).trans HN1.out;have S:=AA (show ∀w',wr.grownBy w' (some (w.heap.size+1))→MH w k (.returned (.agg #[_,_,(.slice (some ⟨ge,0,none⟩) 3 cape),_])) w' from fun w' hg'=>⟨_,_,_,_,rfl,⟨⟨vs2,(o1.far hg' hBs (by decide) (by decide)).lower hb0.size⟩,(o2.far hg' hBs (by decide)).lower hb0.size,⟨qs,(o5.far hg' hBs (by decide) (by decide)).lower hb0.size⟩,(o4.far hg' hBs (by decide)).lower hb0.size⟩,(hb0.trans (hbel.mono hb0.size)).grown hg' (hb0.trans (hbel.mono hb0.size)).size (fun k hk=>by cases hk;omega)⟩)
    obtain⟨E0,E1,E2,E3⟩:=AB (DJ (m':= .slice pa vs'.length pc) (i':= .slice qa k.infos.length qc) (e':= .slice (some ⟨ge,0,none⟩) 3 cape) (c':= .slice ra k.cache.length rc) hBs);have HE:=AA (And.intro E0 (And.intro E1 (And.intro E2 E3)));have hgr:wr.grownBy ((((wr.setCell ⟨w.heap.size+1,0,none⟩ (.slice pa vs'.length pc)).setCell ⟨w.heap.size+1,1,none⟩ (.slice qa k.infos.length qc)).setCell ⟨w.heap.size+1,2,none⟩ (.slice (some ⟨ge,0,none⟩) 3 cape)).setCell ⟨w.heap.size+1,3,none⟩ (.slice ra k.cache.length rc)) (some (w.heap.size+1)):=Ab (Ab (Ab (Al wr (w.heap.size+1) 0 _) 1 _) 2 _) 3 _;obtain⟨b0,b1,b2,b3⟩:=AB hB;obtain⟨c0,c1,c2,c3⟩:=AB hBs;have hfz:=AM hBs;have hlt3:¬(qs.length:Int)<3:=by omega
    clear hB hBs o1 o2 o3 o4 o5 E0 E1 E2 E3 e3;go_wp2_with fail;obtain⟨E0,E1,E2,E3⟩:=HE.out;exact bodyPost_ret (v:= .agg #[_,_,_,_]) (by simp[results,Tryz.results95,go_sem,E0,E1,E2,E3]) rfl (S.out _ hgr)
theorem Tryz.infoInfo:(prog.info? 135).map (fun i=>(i.zero,i.size,i.bytes))=some (some (.agg #[.int .i64 0, .string ⟨#[]⟩, .int .i64 0]),3,32):=by kernel_rfl
theorem OQ:(madeCells (Value.agg #[.int .i64 0, .string ⟨#[]⟩, .int .i64 0]).cells (12*3)).toList=Bj Ag (List.replicate 12 AQ.zero):=by kernel_rfl
def VT (lo:Nat) (i:Nat) (v:Value) (w:World):Prop:=match i with
 |0=>∃vs,Ah lo w v vs (Gj 12)
 |1=>AJ lo 135 3 Ag w v (List.replicate 12 AQ.zero)
 |2=>AJ lo 85 2 ED w v []
 |3=>AJ lo 140 4 AP w v []
 |4=>∃m i e c,v= .agg #[m,i,e,c]∧(∃vs,Ah lo w m vs (Gj 12))∧AJ lo 135 3 Ag w i (List.replicate 12 AQ.zero)∧AJ lo 85 2 ED w e []∧AJ lo 140 4 AP w c []
 |5=>∃g,v= .pointer (some ⟨g,0,none⟩)∧lo≤g∧w.heap[g]? =some (.cells #[.slice none 0 0, .slice none 0 0, .slice none 0 0, .slice none 0 0] 29 (0,0))
 |_=>True
theorem H5 {lo i:Nat} {v:Value} {w w':World} (h:VT lo i v w) (hb:Below w.heap.size w w'):VT lo i v w':=by
 match i with
 |0=>obtain⟨vs,h⟩:=h;exact⟨vs,h.below hb⟩
 |1=>exact AJ.below h hb
 |2=>exact AJ.below h hb
 |3=>exact AJ.below h hb
 |4=>obtain⟨m,i,e,c,h0,⟨vs,h1⟩,h2,h3,h4⟩:=h;exact⟨m,i,e,c,h0,⟨vs,h1.below hb⟩,h2.below hb,h3.below hb,h4.below hb⟩
 |5=>
  obtain⟨g,h0,h1,h2⟩:=h;have:g<w.heap.size:=by
   rcases Nat.lt_or_ge g w.heap.size with h|h
   ·exact h
   ·rw[Array.getElem?_eq_none h] at h2;cases h2
  exact⟨g,h0,h1,(hb.block g this).trans h2⟩
 |_+6=>trivial
def Dq (tss:List (List ByteArray)):List EM:=tss.map fun ts=>⟨ts,-1⟩
def Kv (tss:List (List ByteArray)):AN:=⟨Gj 12,List.replicate 12 AQ.zero,Dq tss,[]⟩
def VG (w:World) (b:Bool) (k:AN) (e:Ending) (w':World):Prop:=∃m i ev c,e= .returned (.tuple #[.agg #[m,i,ev,c], .bool b])∧Cz w.heap.size w' m i ev c k∧Below w.heap.size w w'
def UI (w0:World) (lo g:Nat) (es:List EM) (wr:World):Prop:=
 ∃m i ev c vs ps,wr.heap[g]? =some (.cells #[m,i,ev,c] 29 (0,0))∧lo≤g∧Ah lo wr m vs (Gj 12)∧AJ lo 135 3 Ag wr i (List.replicate 12 AQ.zero)∧Bm lo wr ev ps es∧AJ lo 140 4 AP wr c []∧Below lo w0 wr
theorem MY (v:Value) (tss:List (List ByteArray)) (w:World) (h:IJ w v tss) (h3:tss.length=3) (hok:∀ts∈tss,A2 ts=true) (hsm:∀ts∈tss,EB ts):
 Calls prog 45 #[v] w (VG w true (Kv tss)):=by
 obtain⟨vs,h1,h2⟩:=h;obtain⟨a,cv,rfl,hc,hcm,H0⟩:=A3.open EG (by decide) h1;unfold maxLen at hcm;have hv3:vs.length≤3:=by rw[h2.1,h3];omega
 have hv3':3≤vs.length:=by rw[h2.1,h3];omega
 have HB:=AA h2;have H3:=AA h3;have Hok:=AA hok;have Hsm:=AA hsm;clear h2 h3 hok hsm;go_in;go_wp2_with fail;have hb0:=AG w (.cells #[.slice none 0 0, .slice none 0 0, .slice none 0 0, .slice none 0 0] 29);have hB0:(w.alloc (.cells #[.slice none 0 0, .slice none 0 0, .slice none 0 0, .slice none 0 0] 29)).heap[w.heap.size]? =some (.cells #[.slice none 0 0, .slice none 0 0, .slice none 0 0, .slice none 0 0] 29 (0,0)):=heap_alloc_new w _;have hs0:w.heap.size+1=(w.alloc (.cells #[.slice none 0 0, .slice none 0 0, .slice none 0 0, .slice none 0 0] 29)).heap.size:=by simp
 generalize w.alloc (.cells #[.slice none 0 0, .slice none 0 0, .slice none 0 0, .slice none 0 0] 29)=W0 at hb0 hB0 hs0;refine Fo 6 mixed (by kernel_rfl) 41 rfl (by kernel_rfl) (VT W0.heap.size) (fun _ w'=>Below W0.heap.size W0 w') ?_ ?_ ?_
 ·exact Ar (Below.refl _ _) 1
 ·intro i hi o ho a w1 Hb Hd L HL hG K HK
  have hsz:=hG.size;clear Hb HL
  match i,hi with
  |0,_=>obtain rfl:=So_ ho;clear Hd;refine AI.of rfl ?_;go_simp;refine(Td _).mono ?_;rintro e w2 ⟨v,vs,rfl,h3,h4⟩;exact HK.out _ _ ⟨vs,h3.lower hsz⟩ (hG.trans (h4.mono hsz)) (fun j u _ _ _ h=>H5 h h4)
  |1,_=>obtain rfl:=So_ ho;clear Hd;refine AI.of rfl ?_;obtain⟨i0,hi0,hz0,hz1,hz2⟩:=info_parts Tryz.infoInfo;obtain⟨w2,hrun,h3,h4⟩:=run_make_full (P:=prog) w1 w1.heap.size 25 135 i0 _ 3 underlying25 hi0 hz0 hz1 .i64 .i64 12 (by rw[hz2];decide) (by decide) (Nat.le_refl _);have h5:=Below.of_grown h4;rw[OQ] at h3;have hrun':(Instr.makeSlice 25 (.int .i64 12) (.int .i64 12)).run prog w1= .ok (.slice (some ⟨w1.heap.size,0,none⟩) 12 12) w2:=hrun;clear hi0 hz0 hz1 hz2 hrun;go_simp;exact HK.out _ _ (BQ h3 hsz) (hG.trans (h5.mono hsz)) (fun j u _ _ _ h=>H5 h h5)
  |2,_=>obtain rfl:=So_ ho;clear Hd;refine AI.of rfl ?_;go_simp;exact HK.out _ _ ((CY _ _ _ _).lower hsz) (hG.alloc hsz _) (fun j u _ _ _ h=>H5 h (AG _ _))
  |3,_=>obtain rfl:=So_ ho;clear Hd;refine AI.of rfl ?_;go_simp;exact HK.out _ _ ((CY _ _ _ _).lower hsz) (hG.alloc hsz _) (fun j u _ _ _ h=>H5 h (AG _ _))
  |4,_=>
   obtain rfl:=So_ ho;have d0:=AD Hd 0;have d1:=AD Hd 1;have d2:=AD Hd 2;have d3:=AD Hd 3;clear Hd
   change ∃vs,Ah _ _ (a.tmps[6]?.getD undef) _ _ at d0
   change AJ _ _ _ _ _ (a.tmps[7]?.getD undef) _ at d1
   change AJ _ _ _ _ _ (a.tmps[8]?.getD undef) _ at d2
   change AJ _ _ _ _ _ (a.tmps[9]?.getD undef) _ at d3
   refine AI.of rfl ?_;generalize e6:a.tmps[6]?.getD undef=m at d0;generalize e7:a.tmps[7]?.getD undef=i at d1;generalize e8:a.tmps[8]?.getD undef=e at d2;generalize e9:a.tmps[9]?.getD undef=c at d3;obtain⟨vs0,d0⟩:=d0;have W:=AA (show VT W0.heap.size 4 (.agg #[m,i,e,c]) w1 from⟨m,i,e,c,rfl,⟨vs0,d0⟩,d1,d2,d3⟩);obtain⟨_,_,rfl,_,_⟩:=d0.1.rd.shape;obtain⟨_,_,rfl,_,_⟩:=d1.rd.shape;obtain⟨_,_,rfl,_,_⟩:=d2.rd.shape;obtain⟨_,_,rfl,_,_⟩:=d3.rd.shape;clear d0 d1 d2 d3;go_simp;exact HK.out _ _ W.out hG (fun j u _ _ _ h=>h)
  |5,_=>obtain rfl:=So_ ho;clear Hd;refine AI.of rfl ?_;go_simp;exact HK.out _ _ ⟨_,rfl,hsz,heap_alloc_new _ _⟩ (hG.alloc hsz _) (fun j u _ _ _ h=>H5 h (AG _ _))
 ·intro xs w1 hR L hL hG
  obtain⟨m,i,e,c,h0,⟨rs,h1⟩,h2,h3,h4⟩:=BI hR 4;obtain⟨g,h5,h6,h7⟩:=BI hR 5;clear hR hL;simp only[Ai,AX,List.range,List.range.loop,List.foldl_cons,List.foldl_nil,h0,h5];simp;generalize xs 0=y0;generalize xs 1=y1;generalize xs 2=y2;generalize xs 3=y3;have St:UI W0 W0.heap.size g (Dq (tss.take 0)) ((((w1.setCell ⟨g,0,none⟩ m).setCell ⟨g,1,none⟩ i).setCell ⟨g,2,none⟩ e).setCell ⟨g,3,none⟩ c):=by have hgr:=Ab (Ab (Ab (Al w1 g 0 m) 1 i) 2 e) 3 c;exact⟨m,i,e,c,rs,[],DJ h7,h6,h1.far hgr h7 (by decide) (by decide),h2.far hgr h7 (by decide),⟨h3.far hgr h7 (by decide),FP.nil,CJ.nil⟩,h4.far hgr h7 (by decide),(((hG.setCell h6 _).setCell h6 _).setCell h6 _).setCell h6 _⟩
  obtain⟨_,_,rfl,_,_⟩:=h1.1.rd.shape;obtain⟨_,_,rfl,_,_⟩:=h2.rd.shape;obtain⟨_,_,rfl,_,_⟩:=h3.rd.shape;obtain⟨_,_,rfl,_,_⟩:=h4.rd.shape;obtain⟨c0,c1,c2,c3⟩:=AB h7;have hfz:=AM h7;clear h0 h1 h2 h3 h4 h5 hG h6 h7;go_wp2_with fail;clear c0 c1 c2 c3 hfz;simp only[List.length_replicate,List.length_nil];go_loopw [5] (fun i wr=>∃k:Nat,k≤3∧i= .int .i64 k∧UI W0 W0.heap.size g (Dq (tss.take k)) wr) (fun i _=>3 - (intOf i).toNat)
  case atStart=>exact⟨0,by omega,rfl,St⟩
  case round=>
   clear St;obtain⟨k,hk,rfl,m,iv,ev,c,rs,ps,hB,hg,o1,o2,o3,o4,hbel⟩:=hrel
   by_cases hlt:k<3
   ·have hlv:k<vs.length:=by omega
    obtain⟨u,hu⟩:∃u,vs[k]? =some u:=⟨_,List.getElem?_eq_getElem hlv⟩
    obtain⟨ts,hts⟩:∃ts,tss[k]? =some ts:=⟨_,List.getElem?_eq_getElem (by rw[H3.out];exact hlt)⟩
    have Ru:=HB.out.2 k u ts hu hts;have hok:=Hok.out ts (List.mem_of_getElem? hts);have hsm:=Hsm.out ts (List.mem_of_getElem? hts);obtain⟨b,off,rfl,hbl0,hcell⟩:=H0 k u hu;have Dw:w.cell? ⟨b,off+k,none⟩=some u:=by simpa using hcell 0 u rfl
    have hbw:=hb0.trans (hbel.mono hb0.size);have D:wr.cell? ⟨b,off+k,none⟩=some u:=(hbw.cell (World.block_lt_of_cell? w _ Dw)).trans Dw;have Hts:=AA hts;have Hu:=AA hu;clear hu hts Dw hcell;go_wp2_with fail;refine(GL u ts _ (A3.below Ru hbw) hsm).mono ?_;rintro e w2 ⟨rfl,hw2⟩;rw[hok];have hbel2:Below wr.heap.size wr w2:=by obtain⟨n,rfl⟩:=hw2;exact Ar (Below.refl _ _) n
    clear hw2 hok;have hbw:=hbw.trans (hbel2.mono hbw.size);have D:w2.cell? ⟨b,off+k,none⟩=some u:=(hbel2.cell (World.block_lt_of_cell? wr _ D)).trans D;have hbl:=World.block_lt_of_cell? w2 _ D;have hB2:=AF hB hbel2;have o3':=o3.below hbel2;have o1:=o1.below hbel2;have o2:=o2.below hbel2;have o4:=o4.below hbel2;have hbel:=hbel.trans (hbel2.mono hbel.size);clear hbel2 o3 hB;have htl:ts.length≤6:=by have:=Hok.out ts (List.mem_of_getElem? Hts.out);simp only[A2,Bool.and_eq_true,decide_eq_true_eq] at this;exact this.2
    have hkv:(k:Int)<vs.length:=by omega
    go_wp2_with fail;have hevg:ev.ownBlock≠some g:=fun he=>by obtain⟨cur,hc⟩:=Bf o3'.1 g he;rw[hB2] at hc;simp at hc
    have hevlt:=fun k hk=>(o3'.1.lt k hk).2
    have hevge:=fun k hk=>(o3'.1.lt k hk).1
    have hBlk:∀w3,w2.grownBy w3 ev.ownBlock→w3.heap[g]? =some (.cells #[m,iv,ev,c] 29 (0,0)):=fun w3 h=>(h.block g (Ao hB2) (fun e=>hevg e.symm)).trans hB2
    have hOld:∀w3,w2.grownBy w3 ev.ownBlock→∀k,k<w.heap.size→w3.heap[k]? =w2.heap[k]? :=fun w3 h k hk=>h.block k (Nat.lt_of_lt_of_le hk hbw.size) (fun e=>by have:=hevge k e.symm;omega)
    have GS:=AA (fun(L:Nat→Bool) (w3:World) (i:Nat) (h:w2.grownBy w3 ev.ownBlock∧(L 10=false→Below w2.heap.size w2 w3))=>(⟨h.1,fun h10=>h.2 (Em h10)⟩:w2.grownBy w3 ev.ownBlock∧(JK L i 10=false→Below w2.heap.size w2 w3)));have GB:=AA (fun(L:Nat→Bool) (w3 w4:World) (i:Nat) (h:w2.grownBy w3 ev.ownBlock∧(L 10=false→Below w2.heap.size w2 w3)) (hb:Below w3.heap.size w3 w4)=>(⟨EP h.1 (Dt hb _),fun h10=>(h.2 (Em h10)).trans (hb.mono h.1.size)⟩:w2.grownBy w4 ev.ownBlock∧(JK L i 10=false→Below w2.heap.size w2 w4)));refine Fo 12 mixed (by kernel_rfl) 41 rfl (by kernel_rfl) (VQ W0.heap.size w2.heap.size g (.slice (some ⟨b,off,none⟩) vs.length cv) u ev b (off+k) k ts ps (Dq (tss.take k))) (fun L w3=>w2.grownBy w3 ev.ownBlock∧(L 10=false→Below w2.heap.size w2 w3)) ?_ ?_ ?_
    ·exact⟨Dt (Ar (Below.refl _ _) 1) _,fun _=>Ar (Below.refl _ _) 1⟩
    ·intro i hi o ho a w3 Hb Hd L HL hG K HK
     match i,hi with
     |0,_=>
      obtain rfl:=So_ ho;have e4:a.tmps[4]?.getD undef= .pointer (some ⟨g,0,none⟩):=by rw[Aj Hb 4];rfl
      clear Hd Hb;refine AI.of rfl ?_;go_simp;exact HK.out _ _ rfl (GS.out _ _ _ hG) (fun j u _ _ _ h=>h)
     |1,_=>
      obtain rfl:=So_ ho;have d0:=AD Hd 0
      change a.tmps[24]?.getD undef= .pointer (some ⟨g,2,none⟩) at d0
      clear Hd Hb;refine AI.of rfl ?_;have cg:w3.cell? ⟨g,2,none⟩=some ev:=cell_of_row w3 g 2 _ _ _ (hBlk w3 hG.1);go_simp;exact HK.out _ _ rfl (GS.out _ _ _ hG) (fun j u _ _ _ h=>h)
     |2,_=>obtain rfl:=So_ ho;clear Hd Hb;refine AI.of rfl ?_;go_simp;exact HK.out _ _ ⟨_,rfl,hG.1.size,heap_alloc_new _ _⟩ (GB.out _ _ _ _ hG (AG _ _)) (fun j u _ _ _ h=>Jq h (Dt (AG _ _) none) (fun k hk=>by cases hk) (.inr rfl))
     |3,_=>
      obtain rfl:=So_ ho;have e0:a.tmps[0]?.getD undef= .slice (some ⟨b,off,none⟩) vs.length cv:=by rw[Aj Hb 0];rfl
      clear Hd Hb;refine AI.of rfl ?_;go_simp;exact HK.out _ _ rfl (GS.out _ _ _ hG) (fun j u _ _ _ h=>h)
     |4,_=>
      obtain rfl:=So_ ho;have e5:a.tmps[5]?.getD undef= .int .i64 k:=by rw[Aj Hb 5];rfl
      clear Hd Hb;refine AI.of rfl ?_;go_simp;exact HK.out _ _ rfl (GS.out _ _ _ hG) (fun j u _ _ _ h=>h)
     |5,_=>
      obtain rfl:=So_ ho;have d3:=AD Hd 3
      change a.tmps[27]?.getD undef= .slice (some ⟨b,off,none⟩) vs.length cv at d3
      have d4:=AD Hd 4
      change a.tmps[28]?.getD undef= .int .i64 k at d4
      clear Hd Hb;refine AI.of rfl ?_;go_simp;exact HK.out _ _ rfl (GS.out _ _ _ hG) (fun j u _ _ _ h=>h)
     |6,_=>
      obtain rfl:=So_ ho;have d5:=AD Hd 5
      change a.tmps[29]?.getD undef= .pointer (some ⟨b,off+k,none⟩) at d5
      clear Hd Hb;refine AI.of rfl ?_;have cu:w3.cell? ⟨b,off+k,none⟩=some u:=(World.cell?_of_block (hOld w3 hG.1 b hbl0)).trans D;go_simp;exact HK.out _ _ rfl (GS.out _ _ _ hG) (fun j u _ _ _ h=>h)
     |7,_=>
      obtain rfl:=So_ ho;have d2:=AD Hd 2
      change ∃g2,a.tmps[26]?.getD undef= .slice (some ⟨g2,0,none⟩) 0 0∧_≤g2∧_ at d2
      have d6:=AD Hd 6
      change a.tmps[30]?.getD undef=u at d6
      clear Hd Hb;refine AI.of rfl ?_;obtain⟨g2,d2,d2a,d2b⟩:=d2;obtain⟨v7,w4,hrun,r1,r2,r3⟩:=Ct (lo:=w2.heap.size) (w:=w3) (t:=67) (ty:=67) 9 _ 1 16 underlying67 Tryz.infoString rfl (by decide) d2b d2a (A3.keep Ru (fun k hk=>(hOld w3 hG.1 k hk).trans (hbw.block k hk))) Ut (by omega);refine BY rfl (BR d2) (BR d6) hrun ?_;exact HK.out _ _ r1 (GB.out _ _ _ _ hG r2) (fun j u _ _ _ h=>Jq h (Dt r2 none) (fun k hk=>by cases hk) (.inr rfl))
     |8,_=>
      obtain rfl:=So_ ho;have d7:=AD Hd 7
      change AJ _ _ _ _ _ (a.tmps[31]?.getD undef) _ at d7
      clear Hd Hb;refine AI.of rfl ?_;generalize e31:a.tmps[31]?.getD undef=r at d7;have W:=AA (show VQ W0.heap.size w2.heap.size g (.slice (some ⟨b,off,none⟩) vs.length cv) u ev b (off+k) k ts ps (Dq (List.take k tss)) 8 (.agg #[r, .int .i64 (-1)]) w3 from⟨r,rfl,d7⟩);obtain⟨_,_,rfl,_,_⟩:=d7.rd.shape;clear d7;go_simp;exact HK.out _ _ W.out (GS.out _ _ _ hG) (fun j u _ _ _ h=>h)
     |9,_=>
      obtain rfl:=So_ ho;have d8:=AD Hd 8
      change ∃r,a.tmps[32]?.getD undef= .agg #[r, .int .i64 (-1)]∧_ at d8
      clear Hd Hb;refine AI.of rfl ?_;obtain⟨r,d8,d8a⟩:=d8;go_simp;exact HK.out _ _ ⟨r,_,rfl,hG.1.size,heap_alloc_new _ _,AJ.below d8a (AG _ _)⟩ (GB.out _ _ _ _ hG (AG _ _)) (fun j u _ _ _ h=>Jq h (Dt (AG _ _) none) (fun k hk=>by cases hk) (.inr rfl))
     |10,_=>
      obtain rfl:=So_ ho;have d1:=AD Hd 1
      change a.tmps[25]?.getD undef=ev at d1
      have d9:=AD Hd 9
      change ∃r g9,a.tmps[33]?.getD undef= .slice (some ⟨g9,0,none⟩) 1 1∧_≤g9∧_∧_ at d9
      clear Hd Hb;refine AI.of rfl ?_;obtain⟨r,g9,d9,d9a,d9b,d9c⟩:=d9;have hB3:=hG.2 HL.out.1;have o3w:=o3';have o3':=o3'.below hB3;obtain⟨i0,hi0,hz0,hz1,hz2⟩:=info_parts Tryz.infoEnv;have hpl:ps.length≤3:=by rw[o3'.2.1.1];simp[Dq];omega
      obtain⟨v10,w4,hrun,r1,r2,_,r4⟩:=run_append_own_at (P:=prog) w3 W0.heap.size 26 26 85 i0 _ 2 32 underlying26 hi0 hz0 hz1 hz2 rfl (by decide) ev ps.length (Bj ED ps) o3'.1 ⟨g9,0,none⟩ 1 1 [r, .int .i64 (-1)] rfl (by
       intro j x hx
       match j,hx with
       |0,hx=>simp at hx;subst hx;exact cell_of_row w3 g9 0 _ _ _ d9b
       |1,hx=>simp at hx;subst hx;exact cell_of_row w3 g9 1 _ _ _ d9b) (by
       obtain⟨_,_,rfl,_,_⟩:=d9c.rd.shape;simp[Value.oneCell']) (by simp only[maxLen];omega) (by omega) (Nat.le_trans hbel.size hB3.size)
      clear hi0 hz0 hz1 hz2;refine BY rfl (BR d1) (BR d9) hrun ?_;exact HK.out _ _ ⟨r,o3w.push hB3 hbel.size (Nat.le_refl _) d9c r1 r2⟩ ⟨EP hG.1 r2,fun h=>by simp[JK] at h⟩ (fun j x hj _ _ h=>Jq h r2 hevlt (.inl hj))
     |11,_=>
      obtain rfl:=So_ ho;have e4:a.tmps[4]?.getD undef= .pointer (some ⟨g,0,none⟩):=by rw[Aj Hb 4];rfl
      clear Hd Hb;refine AI.of rfl ?_;go_simp;exact HK.out _ _ rfl (GS.out _ _ _ hG) (fun j u _ _ _ h=>h)
    ·intro xs w3 hR L hL hG
     obtain⟨r,o5⟩:=BI hR 10;have h11:xs 11= .pointer (some ⟨g,2,none⟩):=BI hR 11;have hG:=hG.1;clear hR hL;simp only[Ai,AX,List.range,List.range.loop,List.foldl_cons,List.foldl_nil,h11];simp;generalize xs 0=z0;generalize xs 1=z1;generalize xs 2=z2;generalize xs 3=z3;generalize xs 4=z4;generalize xs 5=z5;generalize xs 6=z6;generalize xs 7=z7;generalize xs 8=z8;generalize xs 9=z9;generalize xs 10=ev' at o5;clear h11;have hB3:=hBlk w3 hG;have hgr:=Al w3 g 2 ev';have St:UI W0 W0.heap.size g (Dq (tss.take (k+1))) (w3.setCell ⟨g,2,none⟩ ev'):=by
      have e1:Dq (tss.take (k+1))=Dq (tss.take k)++[⟨ts,-1⟩]:=by rw[Cv Hts.out];simp[Dq]
      rw[e1];refine⟨m,iv,ev',c,rs,_,?_,hg,?_,?_,o5.far hgr hB3 (by decide) (by decide),?_,?_⟩
      ·have:=heap_setCell_same w3 g 2 _ 29 ev' hB3
       simpa using this
      ·exact Ah.far (o1.kept hG o3'.1 (by decide) (by decide)) hgr hB3 (by decide) (by decide)
      ·exact AJ.far (Av o2 hG (BK o2 o3'.1 (by decide)).ne) hgr hB3 (by decide)
      ·exact AJ.far (Av o4 hG (BK o4 o3'.1 (by decide)).ne) hgr hB3 (by decide)
      ·exact(hbel.grown hG hbel.size (fun k hk=>hevge k hk)).setCell hg _
     obtain⟨_,_,rfl,_,_⟩:=o5.1.rd.shape;obtain⟨_,_,rfl,_,_⟩:=o3'.1.rd.shape;obtain⟨c0,c1,c2,c3⟩:=AB hB3;have hfz:=AM hB3;simp only[List.length_append,List.length_cons,List.length_nil,Nat.zero_add] at St;clear hB3 hgr o5 o1 o2 o3' o4 hBlk hOld GS GB hevg hevlt hevge;go_wp2_with fail;go_roundw
     case rel=>exact⟨k+1,by omega,by go_num,St⟩
     case measure=>simp[intOf];omega
   ·obtain rfl:k=3:=by omega
    have e3:tss.take 3=tss:=List.take_of_length_le (by rw[H3.out];omega);rw[e3] at o3;have hlv:¬(3:Int)<vs.length:=by omega
    have hl3:((vs.length:Int) !=3)=false:=by simp;omega
    have hne:g≠w.heap.size:=by omega
    have hBs:wr.heap[w.heap.size]? =some (.cells #[.slice none 0 0, .slice none 0 0, .slice none 0 0, .slice none 0 0] 29 (0,0)):=(hbel.block _ (by omega)).trans hB0;have S:=AA (show ∀w',wr.grownBy w' (some w.heap.size)→VG w true (Kv tss) (.returned (.tuple #[.agg #[m,iv,ev,c], .bool true])) w' from fun w' hg'=>⟨m,iv,ev,c,rfl,⟨⟨rs,(o1.far hg' hBs (by decide) (by decide)).lower hb0.size⟩,(o2.far hg' hBs (by decide)).lower hb0.size,⟨ps,(o3.far hg' hBs (by decide) (by decide)).lower hb0.size⟩,(o4.far hg' hBs (by decide)).lower hb0.size⟩,(hb0.trans (hbel.mono hb0.size)).grown hg' (hb0.trans (hbel.mono hb0.size)).size (fun k hk=>by cases hk;exact Nat.le_refl _)⟩)
    have hgr:wr.grownBy ((((wr.setCell ⟨w.heap.size,0,none⟩ m).setCell ⟨w.heap.size,1,none⟩ iv).setCell ⟨w.heap.size,2,none⟩ ev).setCell ⟨w.heap.size,3,none⟩ c) (some w.heap.size):=Ab (Ab (Ab (Al wr w.heap.size 0 m) 1 iv) 2 ev) 3 c;obtain⟨E0,E1,E2,E3⟩:=AB (DJ (m':=m) (i':=iv) (e':=ev) (c':=c) hBs);have HE:=AA (And.intro E0 (And.intro E1 (And.intro E2 E3)));clear E0 E1 E2 E3;obtain⟨_,_,rfl,_,_⟩:=o1.1.rd.shape;obtain⟨_,_,rfl,_,_⟩:=o2.rd.shape;obtain⟨_,_,rfl,_,_⟩:=o3.1.rd.shape;obtain⟨_,_,rfl,_,_⟩:=o4.rd.shape;obtain⟨c0,c1,c2,c3⟩:=AB hB;obtain⟨d0,d1,d2,d3⟩:=AB hBs;have hfz:=AM hBs;clear hB hBs o1 o2 o3 o4;simp only[List.length_replicate,List.length_nil] at HE S hgr ⊢;go_wp2_with fail;obtain⟨E0,E1,E2,E3⟩:=HE.out;exact bodyPost_ret (v:= .tuple #[.agg #[_,_,_,_], .bool true]) (by simp[results,Tryz.results45,go_sem,E0,E1,E2,E3]) rfl (S.out _ hgr)
def LO (lo:Nat) (w:World) (v:Value) (r:List Int):Prop:=∃u g,v= .slice (some ⟨g,0,none⟩) 1 1∧lo≤g∧w.heap[g]? =some (.cells #[u] 30 (0,0))∧AE lo w u r
def LN (lo:Nat) (w:World) (v:Value) (ts:List ByteArray):Prop:=∃u g,v= .slice (some ⟨g,0,none⟩) 1 1∧lo≤g∧w.heap[g]? =some (.cells #[u, .int .i64 (-1)] 85 (0,0))∧AJ lo 9 1 An w u ts
theorem LO.past {lo:Nat} {w w':World} {v:Value} {r:List Int} {row:Option Nat} (h:LO lo w v r) (hg:w.grownBy w' row) (hr:∀k,row=some k→k<lo):LO lo w' v r:=by obtain⟨u,g,h0,h1,h2,h3⟩:=h;exact⟨u,g,h0,h1,Km h2 h1 hg hr,EQ h3 hg hr⟩
theorem LN.past {lo:Nat} {w w':World} {v:Value} {ts:List ByteArray} {row:Option Nat} (h:LN lo w v ts) (hg:w.grownBy w' row) (hr:∀k,row=some k→k<lo):LN lo w' v ts:=by obtain⟨u,g,h0,h1,h2,h3⟩:=h;exact⟨u,g,h0,h1,Km h2 h1 hg hr,EQ h3 hg hr⟩
def Sv (W0:World) (g n:Nat) (es:List EM) (wr:World):Prop:=
 ∃m i e vs ps,wr.heap[g]? =some (.cells #[m,i,e, .slice none 0 0] 29 (0,0))∧W0.heap.size≤g∧Ah W0.heap.size wr m vs (Gj n)∧AJ W0.heap.size 135 3 Ag wr i (List.replicate 12 AQ.zero)∧Bm W0.heap.size wr e ps es∧Below W0.heap.size W0 wr
theorem IP {α:Type} (cs:α→List Value) (lo e sz:Nat) (w:World):AJ lo e sz cs w (.slice none 0 0) []:=World.ownsRow_nil _ _ _ _
theorem U1 (lo:Nat) (w:World):Ah lo w (.slice none 0 0) [] (Gj 0):=⟨IP _ _ _ _ _,FP.nil,CJ.nil⟩
theorem QJ (lo:Nat) (w:World):Bm lo w (.slice none 0 0) [] []:=⟨IP _ _ _ _ _,FP.nil,CJ.nil⟩
theorem Bz {lo e sz n g T:Nat} {w:World} {v:Value} {xs:List Value} {cur:Array Value} (h:w.ownsRow lo e sz v n xs) (hB:w.heap[g]? =some (.cells cur T (0,0))) (hne:e≠T):v.ownBlock≠some g:=fun he=>by obtain⟨c,hc⟩:=Bf h g he;rw[hB] at hc;simp at hc;exact hne hc.2.symm
theorem MW (v:Value) (ts:List ByteArray) (w:World) (h:BC w v ts) (hs:EB ts):Calls prog 91 #[v] w fun e w'=>e= .returned (.bool (!A2 ts))∧Below w.heap.size w w':=by have C:=AA (Eb v ts w h hs);clear h hs;go_in;go_wp2_with fail;refine(C.out).mono ?_;rintro e w1 ⟨rfl,hb⟩;go_wp2_with fail;go_ret;exact⟨rfl,hb⟩
theorem MX (v:Value) (tss:List (List ByteArray)) (w:World) (h:IJ w v tss) (h3:tss.length=3) (hok:∀ts∈tss,A2 ts=true) (hsm:∀ts∈tss,EB ts):
 Calls prog 40 #[v] w (VG w true (Kv tss)):=by
 have hb0:=AG w (.cells #[.slice none 0 0, .slice none 0 0, .slice none 0 0, .slice none 0 0] 29);have N0:=heap_alloc_new w (.cells #[.slice none 0 0, .slice none 0 0, .slice none 0 0, .slice none 0 0] 29);have hs0:w.heap.size+1=(w.alloc (.cells #[.slice none 0 0, .slice none 0 0, .slice none 0 0, .slice none 0 0] 29)).heap.size:=by simp
 have C0:=JL 91 #[] (fun ts=>!A2 ts) v tss (w.alloc (.cells #[.slice none 0 0, .slice none 0 0, .slice none 0 0, .slice none 0 0] 29)) (h.below hb0);obtain⟨vs,h1,h2⟩:=h;obtain⟨a,cv,rfl,hc,hcm,H0⟩:=A3.open EG (by decide) h1;unfold maxLen at hcm;have hv3:vs.length=3:=by rw[h2.1,h3]
 have HB:=AA h2;have H3:=AA h3;have Hok:=AA hok;have Hsm:=AA hsm;have Hv3:=AA hv3;have hany:(tss.any fun ts=>!A2 ts)=false:=by rw[List.any_eq_false];intro ts hts;simp[hok ts hts]
 rw[hany] at C0;have C:=AA (C0 (fun _ _=>by kernel_rfl) (fun u r hr W _ hu=>MW u r W hu (hsm r hr)));rw[hv3] at C hc ⊢;clear h2 h3 hok hsm hany C0 h1 hv3;go_in;go_wp2_with fail;refine(C.out).mono ?_;rintro e w1 ⟨rfl,hb1⟩;generalize w.alloc _=W0 at*;go_wp2_with (first|(at_make;go_must (refine VB (n:=12) rfl rfl 135 _ 3 32 underlying25 Tryz.infoInfoK rfl (by omega) (by unfold maxLen;omega) ?_;intro w2 hown hbel hsz)));rw[OQ] at hown;have hgW:W0.heap.size≤w2.heap.size:=Nat.le_trans hb1.size hbel.size;have hbx:=hb1.trans (hbel.mono hb1.size);have N2:=heap_alloc_new w2 (.cells #[.slice none 0 0, .slice (some ⟨w1.heap.size,0,none⟩) 12 12, .slice none 0 0, .slice none 0 0] 29);have hb3:=hbx.trans ((AG w2 (.cells #[.slice none 0 0, .slice (some ⟨w1.heap.size,0,none⟩) 12 12, .slice none 0 0, .slice none 0 0] 29)).mono hgW);have hown3:AJ W0.heap.size 135 3 Ag w2 (.slice (some ⟨w1.heap.size,0,none⟩) 12 12) (List.replicate 12 AQ.zero):=BQ hown hb1.size;have St:Sv W0 w2.heap.size 0 [] (w2.alloc (.cells #[.slice none 0 0, .slice (some ⟨w1.heap.size,0,none⟩) 12 12, .slice none 0 0, .slice none 0 0] 29)):=
  ⟨_,_,_,[],[],N2,hgW,U1 _ _,hown3.below (AG _ _),QJ _ _,hb3⟩
 generalize w2.heap.size=g at*;clear N2 hb3 hown3 hown hbel hbx;go_loopw [17] (fun i wr=>∃k:Nat,k≤12∧i= .int .i64 k∧Sv W0 g k [] wr) (fun i _=>12 - (intOf i).toNat)
 case atStart=>exact⟨0,by omega,rfl,St⟩
 case round=>
  clear St;obtain⟨k,hk,rfl,m,iv,ev,rs,ps,hB,hg,o1,o2,o3,hbel⟩:=hrel
  by_cases hlt:k<12
  ·have hrl:rs.length=k:=by rw[o1.2.1.1];simp[Gj]
   have hne:=Bz o1.1 hB (by decide);have hgl:=Ao hB;have y0:=(AB hB).1;have hrow:=fun k hk=>(World.ownsRow.lt o1.1 k hk)
   go_wp2_with fail;refine KK 5 mixed (by kernel_rfl) 42 rfl (by kernel_rfl) 4 (m.ownBlock) (fun ix vv ww=>match ix with
    |0=>vv= .pointer (some ⟨g,0,none⟩)
    |1=>vv=m
    |2=>AE wr.heap.size ww vv [0,0,0,0]
    |3=>LO wr.heap.size ww vv [0,0,0,0]
    |4=>∃u,Ah W0.heap.size ww vv (rs++[u]) (Gj k++[[0,0,0,0]])
    |_=>True) ?_ ?_ ?_ ?_ ?_
   ·intro i hi his vv wz ww' hz0 hbz hz
    match i,hi,his with
    |0,_,hs|1,_,hs=>exact hz
    |2,_,hs=>exact(EQ hz hbz (fun k hk=>(hrow k hk).2))
    |3,_,hs=>exact(LO.past hz hbz (fun k hk=>(hrow k hk).2))
    |4,_,hs=>exact absurd rfl hs
   ·intro vv wz ww' hbz hz
    exact(by obtain⟨u,h⟩:=hz;exact⟨u,h.below hbz⟩)
   ·intro i hi his o ho a wx Hb Hd hG K HK
    match i,hi,his with
    |0,_,_=>exact eF ho HK Ci (eb (Aj Hb 4))
    |1,_,_=>exact eL ho HK (et (AD Hd 0)) (Fd ((EX hG hgl hne).trans y0))
    |2,_,_=>obtain rfl:=So_ ho;clear Hd Hb;obtain⟨i0,hi0,hz0,hz1,hz2⟩:=info_parts Tryz.infoInt;obtain⟨w9,hrun,h3,h4⟩:=run_make_full (P:=prog) wx wx.heap.size 30 3 i0 _ 1 underlying30 hi0 hz0 hz1 .i64 .i64 4 (by rw[hz2];decide) (by decide) (Nat.le_refl _);have h5:=Below.of_grown h4;rw[Kt (.int .i64 0) rfl 4] at h3;have hrun':(Instr.makeSlice 30 (.int .i64 4) (.int .i64 4)).run prog wx= .ok (.slice (some ⟨wx.heap.size,0,none⟩) 4 4) w9:=hrun;clear hi0 hz0 hz1 hz2 hrun;refine AI.of rfl ?_;go_simp;exact HK.out _ _ (BQ h3 hG.size) h5
    |3,_,_=>obtain rfl:=So_ ho;have d2:AE wr.heap.size wx (a.tmps[21]?.getD undef) [0,0,0,0]:=AD Hd 2;clear Hd Hb;generalize e21:a.tmps[21]?.getD undef=u at d2;have W:=AA d2;obtain⟨_,_,rfl,_⟩:=d2.rd.open;clear d2;refine AI.of rfl ?_;go_simp;exact HK.out _ _ ⟨_,_,rfl,hG.size,heap_alloc_new _ _,AE.below W.out (AG _ _)⟩ (AG _ _)
    |4,_,hs=>exact absurd rfl hs
   ·intro o ho a wx Hb Hd hG K HK
    obtain rfl:=So_ ho;have d1:(a.tmps[20]?.getD undef)=m:=AD Hd 1;have d3:LO wr.heap.size wx (a.tmps[22]?.getD undef) [0,0,0,0]:=AD Hd 3;clear Hd Hb;obtain⟨u,g9,d3,d3a,d3b,d3c⟩:=d3;have o1':=o1.below hG;obtain⟨i0,hi0,hz0,hz1,hz2⟩:=info_parts Tryz.infoRow;obtain⟨v10,w4,hrun,r1,r2,_,r4⟩:=run_append_own_at (P:=prog) wx W0.heap.size 24 24 30 i0 _ 1 24 underlying24 hi0 hz0 hz1 hz2 rfl (by decide) m rs.length (Bj Fg rs) o1'.1 ⟨g9,0,none⟩ 1 1 [u] rfl (by
     intro j x hx
     match j,hx with
     |0,hx=>simp at hx;subst hx;exact cell_of_row wx g9 0 _ _ _ d3b) (by
     obtain⟨_,_,rfl,_⟩:=d3c.rd.open;simp[Value.oneCell']) (by simp only[maxLen];omega) (by omega) (Nat.le_trans hbel.size hG.size)
    clear hi0 hz0 hz1 hz2;refine AI.of rfl ?_;refine BY rfl (BR d1) (BR d3) hrun ?_;exact HK.out _ _ ⟨u,o1.push hG hbel.size d3c r1 r2⟩ r2
   ·intro vs wx hR hG
    have q4:∃u,Ah W0.heap.size wx (vs 4) (rs++[u]) (Gj k++[[0,0,0,0]]):=BI hR 4
    clear hR;simp only[Ai,AX,List.range,List.range.loop,List.foldl_cons,List.foldl_nil];simp;generalize vs 4=z4 at q4 ⊢;obtain⟨u,q4⟩:=q4;have hB3:=(hG.block g hgl (fun e=>hne e.symm)).trans hB;have hgr:=Al wx g 0 z4;have St:Sv W0 g (k+1) [] (wx.setCell ⟨g,0,none⟩ z4):=by
     refine⟨z4,iv,ev,rs++[u],ps,?_,hg,?_,?_,?_,?_⟩
     ·have:=heap_setCell_same wx g 0 _ 29 z4 hB3
      simpa using this
     ·rw[show Gj (k+1)=Gj k++[[0,0,0,0]] by simp[Gj,List.replicate_succ']]
      exact q4.far hgr hB3 (by decide) (by decide)
     ·exact AJ.far (Av o2 hG (BK o2 o1.1 (by decide)).ne) hgr hB3 (by decide)
     ·have hps:ps=[]:=List.eq_nil_of_length_eq_zero (by rw[o3.2.1.1];rfl)
      subst hps;exact Bm.far ⟨Av o3.1 hG (BK o3.1 o1.1 (by decide)).ne,FP.nil,CJ.nil⟩ hgr hB3 (by decide) (by decide)
     ·exact(hbel.grown hG hbel.size (fun k hk=>(hrow k hk).1)).setCell hg _
    obtain⟨_,_,rfl,_,_⟩:=q4.1.rd.shape;obtain⟨_,_,rfl,_,_⟩:=o1.1.rd.shape;obtain⟨c0,_,_,_⟩:=AB hB3;have hfz:=AM hB3;simp only[List.length_append,List.length_singleton,hrl] at St;clear hB3 hgr q4 o1 o2 o3 hne hrow y0;go_wp2_with fail;go_roundw
    case rel=>exact⟨k+1,by omega,by go_num,St⟩
    case measure=>simp[intOf];omega
  ·obtain rfl:k=12:=by omega
   have St:Sv W0 g 12 (Dq (tss.take 0)) wr:=⟨m,iv,ev,rs,ps,hB,hg,o1,o2,o3,hbel⟩;clear hB o1 o2 o3 hbel;go_wp2_with fail;rw[show((12:Nat):Int)=12 from rfl];go_loopw [28] (fun i wr=>∃k:Nat,k≤3∧i= .int .i64 k∧Sv W0 g 12 (Dq (tss.take k)) wr) (fun i _=>3 - (intOf i).toNat)
   case atStart=>exact⟨0,by omega,rfl,St⟩
   case round=>
    clear St;obtain⟨k,hk,rfl,m,iv,ev,rs,ps,hB,hg,o1,o2,o3,hbel⟩:=hrel
    by_cases hlt:k<3
    ·have hlv:k<vs.length:=by have:=Hv3.out;omega
     obtain⟨u,hu⟩:∃u,vs[k]? =some u:=⟨_,List.getElem?_eq_getElem hlv⟩
     obtain⟨ts,hts⟩:∃ts,tss[k]? =some ts:=⟨_,List.getElem?_eq_getElem (by rw[H3.out];exact hlt)⟩
     have Ru:=HB.out.2 k u ts hu hts;have hok:=Hok.out ts (List.mem_of_getElem? hts);obtain⟨b,off,rfl,hbl0,hcell⟩:=H0 k u hu;have Dw:w.cell? ⟨b,off+k,none⟩=some u:=by simpa using hcell 0 u rfl
     have hbw:=hb0.trans (hbel.mono hb0.size);have D:wr.cell? ⟨b,off+k,none⟩=some u:=(hbw.cell (World.block_lt_of_cell? w _ Dw)).trans Dw;have Hts:=AA hts;have htl:ts.length≤6:=by simp only[A2,Bool.and_eq_true,decide_eq_true_eq] at hok;exact hok.2
     have hrl:ps.length=k:=by rw[o3.2.1.1];simp[Dq];have:=H3.out;omega
     have hne:=Bz o3.1 hB (by decide);have hgl:=Ao hB;have y2:=(AB hB).2.2.1;have hrow:=fun k hk=>(World.ownsRow.lt o3.1 k hk)
     have k3:(k:Int)<3:=by omega
     have c3:(3:Int)≤cv:=by omega
     have CS:=AA (fun W (hW:Below wr.heap.size wr W)=>Ep u ts W (A3.below (A3.below Ru hbw) hW) (by omega));have hRu:=AA Ru;obtain⟨ua,uc,rfl,_,_⟩:=A3.shape Ru;clear hu hts Dw hcell hok Ru;go_wp2_with fail;have hso:Below wr.heap.size wr wr:=Below.refl _ _;refine KK 7 mixed (by kernel_rfl) 42 rfl (by kernel_rfl) 6 (ev.ownBlock) (fun ix vv ww=>match ix with
      |0=>vv= .pointer (some ⟨g,2,none⟩)
      |1=>vv=ev
      |2=>vv= .slice ua ts.length uc
      |3=>AJ wr.heap.size 9 1 An ww vv ts
      |4=>∃r,vv= .agg #[r, .int .i64 (-1)]∧AJ wr.heap.size 9 1 An ww r ts
      |5=>LN wr.heap.size ww vv ts
      |6=>∃r,Bm W0.heap.size ww vv (ps++[(r,-1)]) (Dq (tss.take k)++[⟨ts,-1⟩])
      |_=>True) ?_ ?_ ?_ ?_ ?_
     ·intro i hi his vv wz ww' hz0 hbz hz
      match i,hi,his with
      |0,_,hs|1,_,hs|2,_,hs=>exact hz
      |3,_,hs=>exact(EQ hz hbz (fun k hk=>(hrow k hk).2))
      |4,_,hs=>exact(by obtain⟨r,h0,h1⟩:=hz;exact⟨r,h0,EQ h1 hbz (fun k hk=>(hrow k hk).2)⟩)
      |5,_,hs=>exact(LN.past hz hbz (fun k hk=>(hrow k hk).2))
      |6,_,hs=>exact absurd rfl hs
     ·intro vv wz ww' hbz hz
      exact(by obtain⟨u,h⟩:=hz;exact⟨u,h.below hbz⟩)
     ·intro i hi his o ho a wx Hb Hd hG K HK
      match i,hi,his with
      |0,_,_=>exact eF ho HK GO (eb (Aj Hb 4))
      |1,_,_=>exact eL ho HK (et (AD Hd 0)) (La ((EX hG hgl hne).trans y2))
      |2,_,_=>exact eM ho HK (eb (Aj Hb 6))
      |3,_,_=>obtain rfl:=So_ ho;have d2:(a.tmps[34]?.getD undef)= .slice ua ts.length uc:=AD Hd 2;clear Hd Hb;refine AI.of rfl ?_;go_simp;refine(Ep _ ts wx (A3.keep hRu.out (fun k hk=>(hG.block k (Nat.lt_of_lt_of_le hk hbw.size) (fun e=>by have:=(hrow k e.symm).1;have:=hb0.size;omega)).trans (hbw.block k hk))) (by omega)).mono ?_;rintro e w_ ⟨v',rfl,hO,hb2⟩;exact HK.out _ _ (hO.lower hG.size) hb2
      |4,_,_=>obtain rfl:=So_ ho;have d3:AJ wr.heap.size 9 1 An wx (a.tmps[35]?.getD undef) ts:=AD Hd 3;clear Hd Hb;generalize e35:a.tmps[35]?.getD undef=u at d3;have W:=AA d3;obtain⟨_,_,rfl,_,_⟩:=d3.rd.shape;clear d3;refine AI.of rfl ?_;go_simp;exact HK.out _ _ ⟨_,rfl,W.out⟩ (Below.refl _ _)
      |5,_,_=>
       obtain rfl:=So_ ho;have d4:∃r,(a.tmps[36]?.getD undef)= .agg #[r, .int .i64 (-1)]∧AJ wr.heap.size 9 1 An wx r ts:=AD Hd 4
       clear Hd Hb;obtain⟨r,d4,d4a⟩:=d4;refine AI.of rfl ?_;go_simp;exact HK.out _ _ ⟨r,_,rfl,hG.size,heap_alloc_new _ _,AJ.below d4a (AG _ _)⟩ (AG _ _)
      |6,_,hs=>exact absurd rfl hs
     ·intro o ho a wx Hb Hd hG K HK
      obtain rfl:=So_ ho;have d1:(a.tmps[33]?.getD undef)=ev:=AD Hd 1;have d5:LN wr.heap.size wx (a.tmps[37]?.getD undef) ts:=AD Hd 5;clear Hd Hb;obtain⟨u,g9,d5,d5a,d5b,d5c⟩:=d5;have o3':=o3.below hG;obtain⟨i0,hi0,hz0,hz1,hz2⟩:=info_parts Tryz.infoEnv;obtain⟨v10,w4,hrun,r1,r2,_,r4⟩:=run_append_own_at (P:=prog) wx W0.heap.size 26 26 85 i0 _ 2 32 underlying26 hi0 hz0 hz1 hz2 rfl (by decide) ev ps.length (Bj ED ps) o3'.1 ⟨g9,0,none⟩ 1 1 [u, .int .i64 (-1)] rfl (by
       intro j x hx
       match j,hx with
       |0,hx=>simp at hx;subst hx;exact cell_of_row wx g9 0 _ _ _ d5b
       |1,hx=>simp at hx;subst hx;exact cell_of_row wx g9 1 _ _ _ d5b) (by
       obtain⟨_,_,rfl,_,_⟩:=d5c.rd.shape;simp[Value.oneCell']) (by simp only[maxLen];omega) (by omega) (Nat.le_trans hbel.size hG.size)
      clear hi0 hz0 hz1 hz2;refine AI.of rfl ?_;refine BY rfl (BR d1) (BR d5) hrun ?_;exact HK.out _ _ ⟨u,o3.push hG hbel.size (Nat.le_refl _) d5c r1 r2⟩ r2
     ·intro vs wx hR hG
      have q6:∃r,Bm W0.heap.size wx (vs 6) (ps++[(r,-1)]) (Dq (tss.take k)++[⟨ts,-1⟩]):=BI hR 6
      clear hR;simp only[Ai,AX,List.range,List.range.loop,List.foldl_cons,List.foldl_nil];simp;generalize vs 6=z6 at q6 ⊢;obtain⟨r,q6⟩:=q6;have hB3:=(hG.block g hgl (fun e=>hne e.symm)).trans hB;have hgr:=Al wx g 2 z6;have St:Sv W0 g 12 (Dq (tss.take (k+1))) (wx.setCell ⟨g,2,none⟩ z6):=by
       have e1:Dq (tss.take (k+1))=Dq (tss.take k)++[⟨ts,-1⟩]:=by rw[Cv Hts.out];simp[Dq]
       rw[e1];refine⟨m,iv,z6,rs,_,?_,hg,?_,?_,q6.far hgr hB3 (by decide) (by decide),?_⟩
       ·have:=heap_setCell_same wx g 2 _ 29 z6 hB3
        simpa using this
       ·exact Ah.far (o1.kept hG o3.1 (by decide) (by decide)) hgr hB3 (by decide) (by decide)
       ·exact AJ.far (Av o2 hG (BK o2 o3.1 (by decide)).ne) hgr hB3 (by decide)
       ·exact(hbel.grown hG hbel.size (fun k hk=>(hrow k hk).1)).setCell hg _
      obtain⟨_,_,rfl,_,_⟩:=q6.1.rd.shape;obtain⟨_,_,rfl,_,_⟩:=o3.1.rd.shape;obtain⟨_,_,c2,_⟩:=AB hB3;have hfz:=AM hB3;simp only[List.length_append,List.length_singleton,hrl] at St;clear hB3 hgr q6 o1 o2 o3 hne hrow y2;go_wp2_with fail;go_roundw
      case rel=>exact⟨k+1,by omega,by go_num,St⟩
      case measure=>simp[intOf];omega
    ·obtain rfl:k=3:=by omega
     have e3:tss.take 3=tss:=List.take_of_length_le (by rw[H3.out];omega);rw[e3] at o3;have hne:g≠w.heap.size:=by omega
     have hBs:=(hbel.block _ (by omega)).trans N0;have S:=AA (show ∀w',wr.grownBy w' (some w.heap.size)→VG w true (Kv tss) (.returned (.tuple #[.agg #[m,iv,ev, .slice none 0 0], .bool true])) w' from fun w' hg'=>⟨m,iv,ev,_,rfl,⟨⟨rs,(o1.far hg' hBs (by decide) (by decide)).lower hb0.size⟩,(o2.far hg' hBs (by decide)).lower hb0.size,⟨ps,(o3.far hg' hBs (by decide) (by decide)).lower hb0.size⟩,IP _ _ _ _ _⟩,(hb0.trans (hbel.mono hb0.size)).grown hg' (hb0.trans (hbel.mono hb0.size)).size (fun k hk=>by cases hk;exact Nat.le_refl _)⟩)
     have hgr:wr.grownBy ((((wr.setCell ⟨w.heap.size,0,none⟩ m).setCell ⟨w.heap.size,1,none⟩ iv).setCell ⟨w.heap.size,2,none⟩ ev).setCell ⟨w.heap.size,3,none⟩ (.slice none 0 0)) (some w.heap.size):=Ab (Ab (Ab (Al wr w.heap.size 0 m) 1 iv) 2 ev) 3 _;obtain⟨E0,E1,E2,E3⟩:=AB (DJ (m':=m) (i':=iv) (e':=ev) (c':= .slice none 0 0) hBs);have HE:=AA (And.intro E0 (And.intro E1 (And.intro E2 E3)));clear E0 E1 E2 E3;obtain⟨_,_,rfl,_,_⟩:=o1.1.rd.shape;obtain⟨_,_,rfl,_,_⟩:=o2.rd.shape;obtain⟨_,_,rfl,_,_⟩:=o3.1.rd.shape;obtain⟨c0,c1,c2,c3⟩:=AB hB;obtain⟨d0,d1,d2,d3⟩:=AB hBs;have hfz:=AM hBs;clear hB hBs o1 o2 o3 e3;simp only[List.length_replicate] at HE S hgr ⊢;go_wp2_with fail;obtain⟨E0,E1,E2,E3⟩:=HE.out;exact bodyPost_ret (v:= .tuple #[.agg #[_,_,_,_], .bool true]) (by simp[results,Tryz.results40,go_sem,E0,E1,E2,E3]) rfl (S.out _ hgr)
def IH (lo:Nat) (w:World) (g:Nat) (m i e c:Value) (k:AN):Prop:=w.heap[g]? =some (.cells #[m,i,e,c] 29 (0,0))∧lo≤g∧Cz lo w m i e c k
theorem IH.below {lo g:Nat} {w w':World} {m i e c:Value} {k:AN} (h:IH lo w g m i e c k) (hb:Below w.heap.size w w'):IH lo w' g m i e c k:=⟨AF h.1 hb,h.2.1,h.2.2.below hb⟩
theorem IH.cells {lo g:Nat} {w:World} {m i e c:Value} {k:AN} (h:IH lo w g m i e c k):w.cell? ⟨g,0,none⟩=some m∧w.cell? ⟨g,1,none⟩=some i∧w.cell? ⟨g,2,none⟩=some e∧w.cell? ⟨g,3,none⟩=some c:=AB h.1
section
variable {lo g:Nat} {w w1:World} {m i e c:Value} {k:AN}
theorem Jo {b T:Nat} {cur:Array Value} (hB:w.heap[g]? =some (.cells #[m,i,e,c] 29 (0,0))) (hg:w.grownBy w1 (some b)) (hb:w.heap[b]? =some (.cells cur T (0,0))) (hT:29≠T):w1.heap[g]? =some (.cells #[m,i,e,c] 29 (0,0)):=by
 refine(hg.block g (Ao hB) fun he=>?_).trans hB;cases he;rw[hB] at hb;simp at hb;exact hT hb.2
theorem IH.infos (h:IH lo w g m i e c k) (hlo:lo≤w.heap.size) (hb:Below w.heap.size w w1) {i':Value} {xs:List AQ} (h2:AJ w.heap.size 135 3 Ag w1 i' xs):IH lo (w1.setCell ⟨g,1,none⟩ i') g m i' e c {k with infos:=xs}:=by obtain⟨hB,hg,⟨vs,o1⟩,o2,⟨ps,o3⟩,o4⟩:=h.below hb;have hgr:=Al w1 g 1 i';refine⟨?_,hg,⟨vs,o1.far hgr hB (by decide) (by decide)⟩,(h2.lower hlo).far hgr hB (by decide),⟨ps,o3.far hgr hB (by decide) (by decide)⟩,o4.far hgr hB (by decide)⟩;have:=heap_setCell_same w1 g 1 _ 29 i' hB;simpa using this
theorem IH.cache (h:IH lo w g m i e c k) (hlo:lo≤w.heap.size) (hb:Below w.heap.size w w1) {c':Value} {xs:List Aa} (h2:AJ w.heap.size 140 4 AP w1 c' xs):IH lo (w1.setCell ⟨g,3,none⟩ c') g m i e c' {k with cache:=xs}:=by obtain⟨hB,hg,⟨vs,o1⟩,o2,⟨ps,o3⟩,o4⟩:=h.below hb;have hgr:=Al w1 g 3 c';refine⟨?_,hg,⟨vs,o1.far hgr hB (by decide) (by decide)⟩,o2.far hgr hB (by decide),⟨ps,o3.far hgr hB (by decide) (by decide)⟩,(h2.lower hlo).far hgr hB (by decide)⟩;have:=heap_setCell_same w1 g 3 _ 29 c' hB;simpa using this
theorem IH.info {gi n cap:Nat} (h:IH lo w g m (.slice (some ⟨gi,0,none⟩) n cap) e c k) (hn:n=k.infos.length) {f j:Nat} {x y:AQ} {u:Value} (hk:k.infos[f]? =some x) (hj:j<3) (hy:Ag y=(Ag x).set j u):
 IH lo (w.setCell ⟨gi,f*3+j,none⟩ u) g m (.slice (some ⟨gi,0,none⟩) n cap) e c {k with infos:=k.infos.set f y}∧w.grownBy (w.setCell ⟨gi,f*3+j,none⟩ u) (some gi)∧lo≤gi:=by
 obtain⟨hB,hg,⟨vs,o1⟩,o2,⟨ps,o3⟩,o4⟩:=h;subst hn;have S:=AJ.stored1 As o2 hk hj hy;obtain⟨cur,hc⟩:=Bf o2 gi rfl;exact⟨⟨Jo hB S.2 hc (by decide),hg,⟨vs,o1.far S.2 hc (by decide) (by decide)⟩,S.1,⟨ps,o3.far S.2 hc (by decide) (by decide)⟩,o4.far S.2 hc (by decide)⟩,S.2,(World.ownsRow.lt o2 gi rfl).1⟩
end
theorem Ah.turn {lo:Nat} {w w':World} {v u:Value} {vs:List Value} {m:List (List Int)} {f:Nat} {r:List Int} (h:Ah lo w v vs m) (hf:f<m.length) (hu:vs[f]? =some u) (hr:AE lo w' u r) (hg:w.grownBy w' u.ownBlock):Ah lo w' v vs (m.set f r):=by
 obtain⟨a1,a2,a3⟩:=h;have hx:=a2.2 f u _ hu (List.getElem?_eq_getElem hf);refine⟨Av a1 hg (BK a1 hx Jn).ne,⟨by rw[List.length_set];exact a2.1,fun j y ys hy hys=>?_⟩,a3⟩
 by_cases e:f=j
 ·subst e
  rw[hu] at hy;cases hy;rw[List.getElem?_set_self hf] at hys;cases hys;exact hr
 ·rw[List.getElem?_set_ne e] at hys
  exact Av (a2.2 j y ys hy hys) hg (a3 j f y u (fun h=>e h.symm) hy hu).ne
theorem Ah.row {lo:Nat} {w:World} {v:Value} {vs:List Value} {m:List (List Int)} (h:Ah lo w v vs m) {f:Nat} (hf:f<m.length) (h0:0<(AL m f).length):
 ∃gw cap,vs[f]? =some (.slice (some ⟨gw,0,none⟩) (AL m f).length cap)∧AE lo w (.slice (some ⟨gw,0,none⟩) (AL m f).length cap) (AL m f)∧lo≤gw∧gw<w.heap.size:=by
 obtain⟨a1,a2,a3⟩:=h;obtain⟨u,hu⟩:∃u,vs[f]? =some u:=⟨_,List.getElem?_eq_getElem (by rw[a2.1];exact hf)⟩
 have hx:=a2.2 f u (AL m f) hu (by unfold AL;exact A8 hf);obtain⟨gw,cap,rfl,h1,h2⟩:=Jx hx h0;exact⟨gw,cap,hu,hx,h1,h2⟩
section
variable {lo g:Nat} {w w1:World} {m i e c:Value} {k:AN}
theorem IH.row (h:IH lo w g m i e c k) {vs:List Value} (hv:Ah lo w m vs k.mem) {f gw n cap:Nat} {r:List Int} (hf:f<k.mem.length) (hu:vs[f]? =some (.slice (some ⟨gw,0,none⟩) n cap)) (hr:AE lo w1 (.slice (some ⟨gw,0,none⟩) n cap) r) (hg:w.grownBy w1 (some gw)):
 IH lo w1 g m i e c {k with mem:=k.mem.set f r}:=by
 obtain⟨hB,hg0,_,o2,⟨ps,o3⟩,o4⟩:=h;have hx:=hv.2.1.2 f _ _ hu (List.getElem?_eq_getElem hf);obtain⟨cur,hc⟩:=Bf hx gw rfl;exact⟨Jo hB hg hc (by decide),hg0,⟨vs,hv.turn hf hu hr hg⟩,o2.far hg hc (by decide),⟨ps,o3.far hg hc (by decide) (by decide)⟩,o4.far hg hc (by decide)⟩
theorem IH.root {ge n cap:Nat} (h:IH lo w g m i (.slice (some ⟨ge,0,none⟩) n cap) c k) (hn:n=k.envs.length) {j:Nat} (hj:j<k.envs.length) (r:Int):
 IH lo (w.setCell ⟨ge,j*2+1,none⟩ (.int .i64 r)) g m i (.slice (some ⟨ge,0,none⟩) n cap) c {k with envs:=AV k.envs j (Bu r)}∧w.grownBy (w.setCell ⟨ge,j*2+1,none⟩ (.int .i64 r)) (some ge)∧lo≤ge:=by
 obtain⟨hB,hg,⟨vs,o1⟩,o2,⟨ps,a1,a2,a3⟩,o4⟩:=h;have hpl:ps.length=k.envs.length:=a2.1;rw[←hpl] at hn;subst hn;have hjp:j<ps.length:=by omega
 have S:=AJ.stored1 Fv a1 (k:=j) (x:=ps[j]) (List.getElem?_eq_getElem hjp) (j:=1) (by decide) (y:=(ps[j].1,r)) (u:= .int .i64 r) rfl;obtain⟨cur,hc⟩:=Bf a1 ge rfl;refine⟨⟨Jo hB S.2 hc (by decide),hg,⟨vs,o1.far S.2 hc (by decide) (by decide)⟩,o2.far S.2 hc (by decide),⟨ps.set j (ps[j].1,r),?_,⟨?_,?_⟩,?_⟩,o4.far S.2 hc (by decide)⟩,S.2,(World.ownsRow.lt a1 ge rfl).1⟩
 ·exact S.1
 ·rw[List.length_set,Au];exact hpl
 ·intro q p ev hp hev
  rw[Ig (d:=⟨[],0⟩)] at hev
  by_cases e:j=q
  ·subst e
   rw[List.getElem?_set_self hjp] at hp;rw[List.getElem?_set_self hj] at hev;cases hp;cases hev;have hx:=a2.2 j ps[j] (k.envs.getD j ⟨[],0⟩) (List.getElem?_eq_getElem hjp) (A8 hj);exact⟨hx.1.far S.2 hc (by decide),rfl⟩
  ·rw[List.getElem?_set_ne e] at hp hev
   have hx:=a2.2 q p ev hp hev;exact⟨hx.1.far S.2 hc (by decide),hx.2⟩
 ·rw[List.map_set,show ps[j].1=(ps.map (·.1))[j]'(by simpa using hjp) by simp,List.set_getElem_self]
  exact a3
theorem IH.rights {ge n cap:Nat} (h:IH lo w g m i (.slice (some ⟨ge,0,none⟩) n cap) c k) (hn:n=k.envs.length) (hlo:lo≤w.heap.size) (hb:Below w.heap.size w w1) {j:Nat} (hj:j<k.envs.length) {u:Value} {ss:List ByteArray} (hu:AJ w.heap.size 9 1 An w1 u ss):
 IH lo (w1.setCell ⟨ge,j*2,none⟩ u) g m i (.slice (some ⟨ge,0,none⟩) n cap) c {k with envs:=AV k.envs j (A9 ss)}∧w1.grownBy (w1.setCell ⟨ge,j*2,none⟩ u) (some ge)∧lo≤ge:=by
 have h':=h.below hb;obtain⟨hB0,hg0,_,_,⟨ps0,b1,b2,b3⟩,_⟩:=h;obtain⟨hB,hg,⟨vs,o1⟩,o2,_,o4⟩:=h';have a1:=AJ.below b1 hb;have hpl:ps0.length=k.envs.length:=b2.1;rw[←hpl] at hn;subst hn;have hjp:j<ps0.length:=by omega
 have S:=AJ.stored1 Fv a1 (k:=j) (x:=ps0[j]) (List.getElem?_eq_getElem hjp) (j:=0) (by decide) (y:=(u,ps0[j].2)) (u:=u) rfl;rw[Nat.add_zero] at S;obtain⟨cur,hc⟩:=Bf a1 ge rfl;have hne:9≠85:=by decide
 refine⟨⟨Jo hB S.2 hc (by decide),hg,⟨vs,o1.far S.2 hc (by decide) (by decide)⟩,o2.far S.2 hc (by decide),⟨ps0.set j (u,ps0[j].2),?_,⟨?_,?_⟩,?_⟩,o4.far S.2 hc (by decide)⟩,S.2,(World.ownsRow.lt a1 ge rfl).1⟩
 ·exact S.1
 ·rw[List.length_set,Au];exact hpl
 ·intro q p ev hp hev
  rw[Ig (d:=⟨[],0⟩)] at hev
  by_cases e:j=q
  ·subst e
   rw[List.getElem?_set_self hjp] at hp;rw[List.getElem?_set_self hj] at hev;cases hp;cases hev;have hx:=b2.2 j ps0[j] (k.envs.getD j ⟨[],0⟩) (List.getElem?_eq_getElem hjp) (A8 hj);exact⟨(hu.lower hlo).far S.2 hc hne,hx.2⟩
  ·rw[List.getElem?_set_ne e] at hp hev
   have hx:=b2.2 q p ev hp hev;exact⟨(hx.1.below hb).far S.2 hc hne,hx.2⟩
 ·rw[List.map_set]
  intro x y a b hxy ha hb';have far:∀(q:Nat) (p:Value×Int),ps0[q]? =some p→Fa p.1 u:=fun q p hq=>by
   obtain⟨ev,hev⟩:∃ev,k.envs[q]? =some ev:=⟨_,List.getElem?_eq_getElem (by rw[←hpl];exact(List.getElem?_eq_some_iff.1 hq).1)⟩
   exact Ii (B:=0) (b2.2 q p ev hq hev).1 (fun k hk=>(hu.lt k hk).1)
  by_cases e1:j=x
  ·subst e1
   rw[List.getElem?_set_self (by simpa using hjp)] at ha;cases ha;rw[List.getElem?_set_ne hxy] at hb';rw[List.getElem?_map] at hb';obtain⟨p,hp,rfl⟩:=Option.map_eq_some_iff.1 hb';exact(far y p hp).symm
  ·rw[List.getElem?_set_ne e1] at ha
   by_cases e2:j=y
   ·subst e2
    rw[List.getElem?_set_self (by simpa using hjp)] at hb';cases hb';rw[List.getElem?_map] at ha;obtain⟨p,hp,rfl⟩:=Option.map_eq_some_iff.1 ha;exact far x p hp
   ·rw[List.getElem?_set_ne e2] at hb'
    exact b3 x y a b hxy ha hb'
end
def On (w:World) (a:Option Addr) (es:List EM):Prop:=∀j,j<es.length→∃b off ua uc,a=some ⟨b,off,none⟩∧b<w.heap.size∧w.cell? ⟨b,off+j*2,none⟩=some (.slice ua (AC es j).rights.length uc)∧w.cell? ⟨b,off+j*2+1,none⟩=some (.int .i64 (AC es j).root)∧BC w (.slice ua (AC es j).rights.length uc) (AC es j).rights
theorem Fp.open {w:World} {v:Value} {es:List EM} (h:Fp w v es):∃a cap,v= .slice a es.length cap∧es.length≤cap∧cap≤maxLen∧On w a es:=by
 obtain⟨ps,h1,h2⟩:=h;obtain⟨a,cap,rfl,hc,hcm,H⟩:=A3.open Fv (by decide) h1;refine⟨a,cap,by rw[h2.1],by rw[←h2.1];exact hc,hcm,fun j hj=>?_⟩;have hp:j<ps.length:=by rw[h2.1];exact hj
 obtain⟨b,off,rfl,hlt,hcell⟩:=H j _ (List.getElem?_eq_getElem hp);have hr:=h2.2 j _ (AC es j) (List.getElem?_eq_getElem hp) (by unfold AC;exact A8 hj);obtain⟨ua,uc,e,_,_⟩:=hr.1.shape;refine⟨b,off,ua,uc,rfl,hlt,?_,?_,?_⟩
 ·have:=hcell 0 _ rfl
  rw[e] at this;exact this
 ·have:=hcell 1 _ rfl
  rw[hr.2] at this;exact this
 ·rw[←e];exact hr.1
theorem On.below {w w':World} {a:Option Addr} {es:List EM} (h:On w a es) (hb:Below w.heap.size w w'):On w' a es:=by intro j hj;obtain⟨b,off,ua,uc,rfl,hlt,h0,h1,h2⟩:=h j hj;exact⟨b,off,ua,uc,rfl,Nat.lt_of_lt_of_le hlt hb.size,(hb.cell (p:=⟨b,off+j*2,none⟩) hlt).trans h0,(hb.cell (p:=⟨b,off+j*2+1,none⟩) hlt).trans h1,A3.below h2 hb⟩
theorem Ds {infos:List AQ} {a b:List Nat} {ss:List ByteArray} (h:∀g,g∈a↔g∈b):Aq infos a ss=Aq infos b ss:=by
 unfold Aq;rw[Bool.eq_iff_iff];simp only[List.all_eq_true];exact⟨fun H g hg=>H g ((h g).2 hg),fun H g hg=>H g ((h g).1 hg)⟩
section
variable {k:AN}
theorem Uj (h:Bg k.mem=false):DU k=false:=by simp[DU,h]
theorem Rh (h:A0 k.infos=false):DU k=false:=by simp[DU,h]
theorem Rg (h:Bc k.cache=false):DU k=false:=by simp[DU,h]
theorem TZ (h:k.envs.length≠3):DU k=false:=by simp[DU,LV,h]
theorem Ks {j:Nat} (hj:j<k.envs.length) (h:Fc k (AC k.envs j)=false):DU k=false:=by have:k.envs.all (Fc k)=false:=List.all_eq_false.2 ⟨AC k.envs j,by unfold AC;exact List.mem_of_getElem? (A8 hj),by simp[h]⟩;simp[DU,LV,this]
theorem Uk {f:Nat} (hf:f<12) (h:FE k f=false):DU k=false:=by have:(List.range 12).all (FE k)=false:=List.all_eq_false.2 ⟨f,List.mem_range.2 hf,by simp[h]⟩;simp[DU,this]
theorem QV {f:Nat} (hf:f<12) (h:Im k f=false):DU k=false:=by have:(List.range 12).all (Im k)=false:=List.all_eq_false.2 ⟨f,List.mem_range.2 hf,by simp[h]⟩;simp[DU,this]
theorem Ri {j:Nat} (hj:j<k.cache.length) (h:Dd k (Ac k.cache j)=false):DU k=false:=by have:k.cache.all (Dd k)=false:=List.all_eq_false.2 ⟨Ac k.cache j,by unfold Ac;exact List.mem_of_getElem? (A8 hj),by simp[h]⟩;simp[DU,this]
theorem Ul (h1:Bg k.mem=true) (h2:A0 k.infos=true) (h3:Bc k.cache=true) (h4:k.envs.length=3) (h5:∀j,j<3→Fc k (AC k.envs j)=true)
 (h6:∀f,f<12→FE k f=true∧Im k f=true) (h7:∀j,j<k.cache.length→Dd k (Ac k.cache j)=true):DU k=true:=by
 have a1:k.envs.all (Fc k)=true:=List.all_eq_true.2 fun x hx=>by
  obtain⟨j,hj,rfl⟩:=List.getElem_of_mem hx;have:=h5 j (by omega);unfold AC at this
  rwa [List.getD_eq_getElem?_getD,List.getElem?_eq_getElem hj] at this
 have a2:(List.range 12).all (FE k)=true:=List.all_eq_true.2 fun f hf=>(h6 f (List.mem_range.1 hf)).1
 have a3:(List.range 12).all (Im k)=true:=List.all_eq_true.2 fun f hf=>(h6 f (List.mem_range.1 hf)).2
 have a4:k.cache.all (Dd k)=true:=List.all_eq_true.2 fun x hx=>by
  obtain⟨j,hj,rfl⟩:=List.getElem_of_mem hx;have:=h7 j hj;unfold Ac at this
  rwa [List.getD_eq_getElem?_getD,List.getElem?_eq_getElem hj] at this
 simp[DU,LV,h1,h2,h3,h4,a1,a2,a3,a4]
def FG (k:AN) (j:Nat):List Int:=(List.range 12).map fun g=>(countP k.mem k.infos g:Int)+(Dr (k.envs.take j) g:Int)
theorem Fi {j:Nat}:(FG k j).length=12:=by simp[FG]
theorem Jg {j g:Nat} (h:g<12):nth (FG k j) g=(countP k.mem k.infos g:Int)+(Dr (k.envs.take j) g:Int):=by unfold FG nth;rw[List.getD_eq_getElem?_getD,List.getElem?_map,List.getElem?_range h];rfl
theorem Tq:FG k 0=(List.range 12).map fun g=>(countP k.mem k.infos g:Int):=by unfold FG;rw[List.take_zero];simp[Dr]
theorem NK {j g:Nat} (hj:j<k.envs.length):Dr (k.envs.take (j+1)) g=Dr (k.envs.take j) g+(if(AC k.envs j).root=(g:Int) then 1 else 0):=by
 have h:k.envs[j]? =some (AC k.envs j):=by unfold AC;exact A8 hj
 rw[Cv h];unfold Dr;rw[List.countP_append,List.countP_singleton];simp
theorem VY {j:Nat} (hj:j<k.envs.length) (h:(AC k.envs j).root<0):FG k (j+1)=FG k j:=by
 unfold FG;refine List.map_congr_left fun g _=>?_
 rw[NK hj,if_neg (by omega),Nat.add_zero]
theorem Uz {j r:Nat} (hj:j<k.envs.length) (h:(AC k.envs j).root=(r:Int)) (hr:r<12):FG k (j+1)=(FG k j).set r (nth (FG k j) r+1):=by
 refine LW (by simp[FG]) fun g hg=>?_
 rw[Fi] at hg;rw[Sk (by rw[Fi];exact hr),Jg hg,Jg hr,NK hj,h]
 by_cases e:g=r
 ·subst e;simp;omega
 ·rw[if_neg e,Jg hg,if_neg (by intro h;apply e;omega)];simp
theorem Ry (hm:Bg k.mem=true) {j g:Nat} (he:k.envs.length=3) (hg:g<12):0≤nth (FG k j) g∧nth (FG k j) g≤103:=by
 rw[Jg hg];have h1:countP k.mem k.infos g≤100:=by have:=QA (infos:=k.infos) (g:=g) hm (Nat.le_refl 12) (Nat.zero_le 4);unfold IL at this;unfold countP;omega
 have h2:Dr (k.envs.take j) g≤3:=by
  have:=List.countP_le_length (p:=fun e:EM=>decide (e.root=(g:Int))) (l:=k.envs.take j);rw[List.length_take] at this;unfold Dr;omega
 omega
theorem Qn (he:k.envs.length=3) {f:Nat} (hf:f<12):Im k f=decide ((infoAt k.infos f).r=nth (FG k 3) f):=by rw[Jg hf,List.take_of_length_le (by omega)];rfl
end
def Bt (lo:Nat) (m:List (List Int)) (root:Int) (w:World) (v:Value):Prop:=∃ts,AE lo w v (Ak ts)∧∀g,g∈ts↔g∈Az m root
theorem Bt.below {lo:Nat} {m:List (List Int)} {root:Int} {w w':World} {v:Value} (h:Bt lo m root w v) (hb:Below w.heap.size w w'):Bt lo m root w' v:=by obtain⟨ts,h1,h2⟩:=h;exact⟨ts,AE.below h1 hb,h2⟩
theorem reach_lt {m:List (List Int)} {root:Int} (hr:root<12):∀g∈Az m root,g<12:=by
 intro g hg;obtain⟨h0,h⟩:=DN.1 hg;have hn:∀t:Nat,∀x∈named (AL m t),x<12:=fun t x hx=>by unfold named at hx;obtain⟨y,hy,rfl⟩:=List.mem_map.1 hx;exact DZ (List.mem_filter.1 hy).2
 rcases h with rfl|h|⟨t,_,h⟩
 ·omega
 ·exact hn _ _ h
 ·exact hn _ _ h
def AR.onCells (g:Nat) (c:AR):Array Value:= #[.pointer (some ⟨g,0,none⟩), .int .i64 c.k, .int .i64 c.e, .int .i64 c.a, .int .i64 c.b, .int .i64 c.c, .string c.nm]
def AR.on (g:Nat) (c:AR):Value:= .agg (c.onCells g)
theorem Dk {w:World} {b g:Nat} {c:AR} {T:Nat} (h:w.heap[b]? =some (.cells (c.onCells g) T (0,0))):w.cell? ⟨b,0,none⟩=some (.pointer (some ⟨g,0,none⟩))∧w.cell? ⟨b,1,none⟩=some (.int .i64 c.k)∧w.cell? ⟨b,2,none⟩=some (.int .i64 c.e)∧w.cell? ⟨b,3,none⟩=some (.int .i64 c.a)∧w.cell? ⟨b,4,none⟩=some (.int .i64 c.b)∧w.cell? ⟨b,5,none⟩=some (.int .i64 c.c)∧w.cell? ⟨b,6,none⟩=some (.string c.nm):=
 ⟨cell_of_row _ _ 0 _ _ _ h,cell_of_row _ _ 1 _ _ _ h,cell_of_row _ _ 2 _ _ _ h,cell_of_row _ _ 3 _ _ _ h,cell_of_row _ _ 4 _ _ _ h,cell_of_row _ _ 5 _ _ _ h,cell_of_row _ _ 6 _ _ _ h⟩
theorem IH.env {lo g:Nat} {w:World} {m i e c:Value} {k:AN} (h:IH lo w g m i e c k) {j:Nat} (hj:j<k.envs.length):
 ∃ge cap ua uc,e= .slice (some ⟨ge,0,none⟩) k.envs.length cap∧ge<w.heap.size∧w.cell? ⟨ge,j*2,none⟩=some (.slice ua (AC k.envs j).rights.length uc)∧w.cell? ⟨ge,j*2+1,none⟩=some (.int .i64 (AC k.envs j).root)∧BC w (.slice ua (AC k.envs j).rights.length uc) (AC k.envs j).rights∧∀q,w.frozen? ⟨ge,q,none⟩=false:=by
 have hr:=h.2.2.rd.2.2.1;obtain⟨ps,o⟩:=h.2.2.2.2.1;have hpl:ps.length=k.envs.length:=o.2.1.1;obtain⟨ge,cap,rfl,_,hlt⟩:=Jx o.1 (by omega);obtain⟨a,cp,hv,_,_,H⟩:=Fp.open hr;simp only[Value.slice.injEq] at hv;obtain⟨rfl,_,rfl⟩:=hv;obtain⟨b,off,ua,uc,hab,_,h0,h1,h2⟩:=H j hj;cases hab;rw[Nat.zero_add] at h0 h1;exact⟨ge,cap,ua,uc,by rw[hpl],hlt,h0,h1,h2,fun q=>World.ownsRow.frozenAt o.1 q⟩
theorem SZ (g ge n cap en:Nat) (c:AR) (w:World) (h2:w.cell? ⟨g,2,none⟩=some (.slice (some ⟨ge,0,none⟩) n cap)) (he:c.e=(en:Int)) (hn:en<n):
 Calls prog 250 #[c.on g] w fun e w'=>e= .returned (.pointer (some ⟨ge,en*2,none⟩))∧Below w.heap.size w w':=by
 obtain⟨k,e,a,b,cc,nm⟩:=c;simp only at he;subst he;simp only[AR.on,AR.onCells];have N:=heap_alloc_new w (.cells #[.pointer (some ⟨g,0,none⟩), .int .i64 k, .int .i64 en, .int .i64 a, .int .i64 b, .int .i64 cc, .string nm] 163);have hb:=AG w (.cells #[.pointer (some ⟨g,0,none⟩), .int .i64 k, .int .i64 en, .int .i64 a, .int .i64 b, .int .i64 cc, .string nm] 163);have x2:=(hb.cell (p:=⟨g,2,none⟩) (World.block_lt_of_cell? w _ h2)).trans h2;have hni:(en:Int)<n:=by omega
 go_in;go_wp2_with fail;generalize w.alloc _=W0 at*;have y0:=cell_regrown (cell_of_row _ _ 0 _ _ _ N);have y2:=cell_regrown (cell_of_row _ _ 2 _ _ _ N);have k2:=cell_regrown x2;clear N x2 h2;refine wp_region_quiet_below mixed (by kernel_rfl) ?_
 repeat(go_big_quiet_step (fail))
 refine wpQuiet_nil ?_;intro _ hw';obtain⟨⟨dq,osq⟩,hw''⟩:=hw';subst hw'';have bq:=below_regrown W0 dq osq;generalize Sort.grow (redrawn W0 dq) osq=wq at bq;go_wp2_with fail;go_ret;exact⟨rfl,hb.trans (bq.mono hb.size)⟩
theorem Ku {lo g:Nat} {w:World} {m i e c:Value} {k:AN} (h:IH lo w g m i e c k) (call:AR) (nm:ByteArray) (he:0≤call.e) (hn:call.e<k.envs.length):
 Calls prog 202 #[call.on g, .string nm] w fun r w'=>r= .returned (.bool (FJ k call.e nm))∧Below w.heap.size w w':=by
 obtain⟨en,hen⟩:∃n:Nat,call.e=(n:Int):=⟨call.e.toNat,by omega⟩
 obtain⟨ge,cap,ua,uc,rfl,hge,D0,_,R,_⟩:=h.env (j:=en) (by omega);have N:=heap_alloc_new w (.cells (call.onCells g) 163);have hb:=AG w (.cells (call.onCells g) 163);have CE:=AA (fun W (hW:Below w.heap.size w W)=>SZ g ge k.envs.length cap en call W ((hW.cell (p:=⟨g,2,none⟩) (Ao h.1)).trans h.cells.2.2.1) hen (by omega));have CM:=AA (fun W (hW:Below w.heap.size w W)=>MN _ (AC k.envs en).rights nm W (A3.below R hW));have S:=AA (show Ca (AC k.envs en).rights nm=FJ k call.e nm by unfold FJ;rw[hen];rfl);have HD:=AA D0;clear h R D0 hen he hn;obtain⟨k1,e1,a1,b1,c1,nm1⟩:=call;simp only[AR.on,AR.onCells] at N hb CE ⊢;obtain⟨y0,y1,y2,y3,y4,y5,y6⟩:=Dk (c:=⟨k1,e1,a1,b1,c1,nm1⟩) N;go_in;go_wp2_with fail;refine(CE.out _ hb).mono ?_;rintro e w2 ⟨rfl,hb2⟩;replace hb2:=hb.trans (hb2.mono hb.size);have D:=(hb2.cell (p:=⟨ge,en*2,none⟩) hge).trans HD.out;clear y0 y1 y2 y3 y4 y5 y6 N hb;go_wp2_with fail;refine(CM.out _ hb2).mono ?_;rintro e w3 ⟨rfl,hb3⟩;go_wp2_with fail;go_ret;exact⟨AK S.out,hb2.trans (hb3.mono hb2.size)⟩
def GM (xs:List AQ) (b:Int):Prop:=∀f,f<xs.length→ -b≤(infoAt xs f).r∧(infoAt xs f).r≤b
theorem IH.infoAt' {lo g:Nat} {w:World} {m i e c:Value} {k:AN} (h:IH lo w g m i e c k) {f:Nat} (hf:f<k.infos.length):
 ∃gi cap,i= .slice (some ⟨gi,0,none⟩) k.infos.length cap∧gi<w.heap.size∧lo≤gi∧w.cell? ⟨gi,f*3,none⟩=some (.int .i64 (infoAt k.infos f).k)∧w.cell? ⟨gi,f*3+1,none⟩=some (.string (infoAt k.infos f).g)∧w.cell? ⟨gi,f*3+2,none⟩=some (.int .i64 (infoAt k.infos f).r)∧∀q,w.frozen? ⟨gi,q,none⟩=false:=by
 have o:=h.2.2.2.1;obtain⟨gi,cap,rfl,_,_,hlo,hlt,hfz⟩:=o.shapeOwn (by omega);obtain⟨d0,d1,d2⟩:=AJ.infoCells o hf;exact⟨gi,cap,rfl,hlt,hlo,d0,d1,d2,hfz⟩
theorem Nh (v:Value) (xs:List AQ) (f:Nat) (w:World) (h:BH w v xs) (hok:A0 xs=true) (hf:f<12) (hk:(infoAt xs f).k=1) (hr:(infoAt xs f).r=0):
 Calls prog 251 #[v, .int .i64 f] w fun e w'=>∃v',e= .returned (.tuple #[v', .bool true])∧AJ w.heap.size 135 3 Ag w' v' (xs.set f AQ.zero)∧Below w.heap.size w w':=by
 have hl:=(At.1 hok).1;have C1:=AA (fun W (hW:Below w.heap.size w W)=>by have:=Cl v xs W (A3.below h hW) (Bh hok);rw[hok] at this;exact this);have C2:=AA (fun W (_:Below w.heap.size w W)=>Ae (by have:=BT (f:Int) W;rw[show Bk (f:Int) 0 11=true from AZ.2 (by omega)] at this;exact this));have C3:=AA (fun W (hW:Below w.heap.size w W)=>Ew v xs W (A3.below h hW) (by omega));obtain⟨ai,ci,rfl,hci,hcim,H2⟩:=A3.open As (by decide) h;obtain⟨bi,offi,rfl,hbi,D0,_,D2⟩:=H2.infoCells (show f<xs.length by omega);have hfl:(f:Int)<xs.length:=by omega
 have t1:((infoAt xs f).k !=1)=false:=by simp[hk]
 have t2:((infoAt xs f).r !=0)=false:=by simp[hr]
 have Hl:=AA hl;have hb:=Below.refl w.heap.size w;clear h hok hk hr H2 hl;go_in;go_wp2_with fail;refine(C1.out _ hb).mono ?_;rintro e w_ ⟨rfl,hb_⟩;replace hb:=hb.trans (hb_.mono hb.size);clear hb_;go_wp2_with fail;refine(C2.out _ hb).mono ?_;rintro e w_ ⟨rfl,hb_⟩;replace hb:=hb.trans (hb_.mono hb.size);clear hb_;replace D0:=(hb.cell (p:=⟨bi,offi+f*3,none⟩) hbi).trans D0;replace D2:=(hb.cell (p:=⟨bi,offi+f*3+2,none⟩) hbi).trans D2;go_wp2_with fail;clear D0 D2;refine(C3.out _ hb).mono ?_;rintro e w4 ⟨v',rfl,hO,hb4⟩;obtain⟨q,cap,rfl,c1,c2,q1,q2,hfz⟩:=hO.shapeOwn (by have:=Hl.out;omega);unfold maxLen at c2;have hS:=AA (AJ.stored As hO (show f<xs.length by have:=Hl.out;omega) AQ.zero);obtain⟨d0,d1,d2⟩:=AJ.infoCells hO (show f<xs.length by have:=Hl.out;omega);have hB:=AA (AT (hb.trans (hb4.mono hb.size)) hS.out.2 (Nat.le_trans hb.size q1) (hb.trans (hb4.mono hb.size)).size);have hlo:=hb.size;clear hO hb4 hb t1 t2;go_wp2_with fail;go_ret2;exact⟨_,rfl,hS.out.1.lower hlo,hB.out⟩
theorem Ot (v:Value) (xs:List AQ) (f:Nat) (w:World) (h:BH w v xs) (hok:A0 xs=true) (hf:f<12) (hk:(infoAt xs f).k=1) (hr:(infoAt xs f).r≠0):
 Calls prog 251 #[v, .int .i64 f] w fun e w'=>e= .returned (.tuple #[.slice none 0 0, .bool false])∧Below w.heap.size w w':=by
 have hl:=(At.1 hok).1;have C1:=AA (fun W (hW:Below w.heap.size w W)=>by have:=Cl v xs W (A3.below h hW) (Bh hok);rw[hok] at this;exact this);have C2:=AA (fun W (_:Below w.heap.size w W)=>Ae (by have:=BT (f:Int) W;rw[show Bk (f:Int) 0 11=true from AZ.2 (by omega)] at this;exact this));obtain⟨ai,ci,rfl,hci,hcim,H2⟩:=A3.open As (by decide) h;obtain⟨bi,offi,rfl,hbi,D0,_,D2⟩:=H2.infoCells (show f<xs.length by omega);have hfl:(f:Int)<xs.length:=by omega
 have t1:((infoAt xs f).k !=1)=false:=by simp[hk]
 have t2:((infoAt xs f).r !=0)=true:=by simp[hr]
 have hb:=Below.refl w.heap.size w;clear h hok hk hr H2 hl;go_in;go_wp2_with fail;refine(C1.out _ hb).mono ?_;rintro e w_ ⟨rfl,hb_⟩;replace hb:=hb.trans (hb_.mono hb.size);clear hb_;go_wp2_with fail;refine(C2.out _ hb).mono ?_;rintro e w_ ⟨rfl,hb_⟩;replace hb:=hb.trans (hb_.mono hb.size);clear hb_;replace D0:=(hb.cell (p:=⟨bi,offi+f*3,none⟩) hbi).trans D0;replace D2:=(hb.cell (p:=⟨bi,offi+f*3+2,none⟩) hbi).trans D2;go_wp2_with fail;go_ret2;exact⟨rfl,hb⟩
end Go.Proofs.YtnieoiclifjoaaaGreatDoor
