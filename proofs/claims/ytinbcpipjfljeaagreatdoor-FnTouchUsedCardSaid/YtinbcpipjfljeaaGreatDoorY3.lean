/-
  Packed:23 texts.
-/
import Derived.Test.YtinbcpipjfljeaaGreatDoorY2
import Derived.Lib.SliceRun
import Derived.Test.YtinbcpipjfljeaaGreatDoorY1
import Derived.ArgAppend
import Derived.StillTailTactics
import Derived.Ground.NamesProg
import Derived.Ground.Names2Prog
import Derived.Shelf.Slices.CompactI
import Derived.Shelf.Slices.Turned
import Derived.Shelf.Sort.Plain
import Derived.Shelf.Spec.SearchS
import Derived.Shelf.Spec.SlicesInsertGrow
import Derived.Shelf.Strings.Prefix
import Derived.Shelf.Strings.SlTrimAscii
import Derived.Test.YtinbcpipjfljeaaGreatDoorProg
import Derived.Sort.OwnSortedInts
import Derived.Shelf.Slices.In.SortNone
set_option linter.unusedVariables false
set_option linter.unusedSimpArgs false
set_option maxHeartbeats 16000000
set_option maxRecDepth 100000
open Go Go.Proofs.YtinbcpipjfljeaaGreatDoor
open _root_.Array renaming getElem?_eq_some_iff->wm
open Go.Builtin renaming append_->uD,clear_->uC,lenOf->to,zeroCells->xN
open Go.Lib renaming compact->wZ,compactUpTo->ux,run_eql_slice_nil->wL,toList_data->xz,trimS->uR
open Go.Proofs.Tryz renaming results76->uX
open Go.RowKit.Below renaming refl->yF
open Go.Value renaming int->yf,oneCell'->xE,ownBlock->uQ,string->uK
open Go.World renaming block_lt_of_cell?->yC,ownsRow_nil->xj,size_alloc->xG
open Go.World.ownsRow renaming cellAt->xC,frozenAt->xP,lt->yr
open Go renaming bodyPost_ret->yp,cell_of_row->yi,cell_regrown->yb,heap_alloc_new->yw,run_underlying->tW
open List renaming all_eq_true->yk,any_eq_true->vl,count_le_length->uN,dropWhile_cons->tL,drop_drop->uY,eq_nil_of_length_eq_zero->xT,filter_append->wy,filter_eq_self->uL,getElem?_eq_getElem->yx,getElem?_eq_some_iff->yq,getElem?_of_mem->xA,getElem?_take_eq_none->uw,getElem?_take_of_lt->vz,length_append->yl,length_map->uo,length_nil->wP,length_set->xV,length_take->xW,map_append->xH,mem_append->wu,mem_cons_of_mem->uO,mem_cons_self->vY,mem_flatMap->wS,mem_map->vH,mem_of_getElem?->yg,mem_range->yj,mem_reverse->vx,mem_singleton->xi,range->yE,range_succ->xx,replicate->xX,take_append_drop->tV,take_left'->td,take_length->xt,take_of_length_le->wv,take_take->sU
open Nat renaming add_zero->xQ,eq_zero_or_pos->vP,le_refl->yv,le_trans->yD,min_eq_left->ue,mul_le_mul_right->vK,mul_one->vV,not_lt_zero->xR,zero_le->yh
variable {v:Value} {n:Nat} {ns:List Nat}
namespace Go.Proofs.YtinbcpipjfljeaaGreatDoor
open Go.Proofs.Tryz
open Go.RowKit
def Fl {α:Type} (p:α->Bool) (xs:List α):Int:=if xs.any p then(xs.findIdx p:Int) else -1
section
variable {α:Type} {p:α->Bool} {xs:List α}
theorem IR (h:∀(j:Nat) x,xs[j]? =some x->p x=false):Fl p xs= -1:=by
 unfold Fl;have:xs.any p=false:=by rw[List.any_eq_false];intro x hx;obtain⟨j,hj⟩:=xA hx;simp[h j x hj]
 simp[this]
theorem Jt {k:Nat} {x:α} (hk:xs[k]? =some x) (h:∀(j:Nat) y,j<k->xs[j]? =some y->p y=false) (hp:p x=true):Fl p xs=k:=by
 unfold Fl;obtain⟨an,rfl⟩:=yq.1 hk;have h1:xs.any p=true:=vl.2 ⟨xs[k],List.getElem_mem an,hp⟩;have h2:xs.findIdx p=k:=by
  rw[List.findIdx_eq an];exact⟨hp,fun j hj=>h j _ hj (yx (by omega))⟩
 simp[h1,h2]
theorem Ju:decide (0<=Fl p xs)=xs.any p:=by unfold Fl;cases xs.any p<;>simp
theorem IN {k:Nat} {x:α} (h:∀(j:Nat) y,j<k->xs[j]? =some y->p y=false) (hk:xs[k]? =some x) (hp:p x=false):∀(j:Nat) y,j<k+1->xs[j]? =some y->p y=false:=by
 intro j y hj hy
 rcases Nat.lt_succ_iff_lt_or_eq.1 hj with h'|h'
 .exact h j y h' hy
 .subst h'
  rw[hk] at hy;cases hy;exact hp
end
theorem JZ (F:Nat) (ae:Array Value) (p:AU->Bool) (v:Value) (xs:List AU) (w:World) (h:BU w v xs)
 (hF:∀args w,(callFunc F args).run prog w= .ok (.enter F args) w) (hf:∀x,x∈xs->∀W,Below w.heap.size w W->Calls prog F (#[x.val]++ae) W fun e W'=>e= .returned (.bool (p x))/\Below W.heap.size W W'):
 Calls prog 116 #[v, .func (.func F) #[] ae] w fun e w'=>e= .returned (.int .i64 (Fl p xs))/\Below w.heap.size w w':=by
 obtain⟨a,c,rfl,hc,al,H0⟩:=BJ.open Az (by decide) h;clear h;unfold maxLen at al;have Hf:=AA hf;clear hf;go_in;go_wp2;go_loopw [8] (fun i wr=>∃k:Nat,k<=xs.length/\i= .int .i64 k/\(∀(j:Nat) x,j<k->xs[j]? =some x->p x=false)/\Below w.heap.size w wr) (fun i _=>xs.length - (intOf i).toNat)
 case atStart=>exact⟨0,yh _,rfl,fun j x hj=>absurd hj (xR _),yF _ _⟩
 case round=>
  obtain⟨k,hk,rfl,au,ab⟩:=hrel;have ar:=AA au;clear au
  by_cases an:k<xs.length
  .have hx:xs[k]? =some (zU xs k):=by simp[zU,an]
   obtain⟨b,aq,rfl,bb,bA,cx,cn⟩:=H0.zR an;have D0:=(ab.cell (p:=⟨b,aq+k*3,none⟩) bb).trans bA;have D1:=(ab.cell (p:=⟨b,aq+k*3+1,none⟩) bb).trans cx;have D2:=(ab.cell (p:=⟨b,aq+k*3+2,none⟩) bb).trans cn;clear bA cx cn;have Hx:=AA hx;have Hc:=AA (Hf.out _ (yg hx) wr ab);clear hx;cases hp:p (zU xs k)
   .have Hp:=AA hp;clear hp
    go_wp2_with (refine(Hc.out).mono ?_;rintro e w' ⟨rfl,ac⟩;rw[Hp.out]);go_roundw
    case rel=>exact⟨k+1,by omega,by go_num,IN ar.out Hx.out Hp.out,ab.trans (ac.mono ab.size)⟩
    case measure=>simp[intOf];omega
   .have Hp:=AA hp;clear hp
    have az:=AA (Jt Hx.out ar.out Hp.out);go_wp2_with (refine(Hc.out).mono ?_;rintro e w' ⟨rfl,ac⟩;rw[Hp.out]);go_ret;exact⟨Cn az.out.symm,ab.trans (ac.mono ab.size)⟩
  .have az:=AA (IR (p:=p) (xs:=xs) (fun j x hx=>ar.out j x (by have:=(yq.1 hx).1;omega) hx))
   go_wp2;go_ret;exact⟨Cn az.out.symm,ab⟩
theorem Kj (F:Nat) (ae:Array Value) (p:AU->Bool) (v:Value) (xs:List AU) (w:World) (h:BU w v xs)
 (hF:∀args w,(callFunc F args).run prog w= .ok (.enter F args) w) (hf:∀x,x∈xs->∀W,Below w.heap.size w W->Calls prog F (#[x.val]++ae) W fun e W'=>e= .returned (.bool (p x))/\Below W.heap.size W W'):
 Calls prog 86 #[v, .func (.func F) #[] ae] w fun e w'=>e= .returned (.bool (xs.any p))/\Below w.heap.size w w':=by
 have E:=AA (Ju (p:=p) (xs:=xs));have C:=AA (JZ F ae p v xs w h hF hf);clear h hf;go_in;go_wp2_with (refine(C.out).mono ?_;rintro e w' ⟨rfl,ac⟩);go_ret;exact⟨AI E.out,ac⟩
theorem Il (F:Nat) (ae:Array Value) (p:Ak->Bool) (v:Value) (xs:List Ak) (w:World) (h:Dt w v xs)
 (hF:∀args w,(callFunc F args).run prog w= .ok (.enter F args) w) (hf:∀x,x∈xs->∀W,Below w.heap.size w W->Calls prog F (#[x.val]++ae) W fun e W'=>e= .returned (.bool (p x))/\Below W.heap.size W W'):
 Calls prog 166 #[v, .func (.func F) #[] ae] w fun e w'=>e= .returned (.int .i64 (Fl p xs))/\Below w.heap.size w w':=by
 obtain⟨a,c,rfl,hc,al,H0⟩:=BJ.open Cg (by decide) h;clear h;unfold maxLen at al;have Hf:=AA hf;clear hf;go_in;go_wp2;go_loopw [8] (fun i wr=>∃k:Nat,k<=xs.length/\i= .int .i64 k/\(∀(j:Nat) x,j<k->xs[j]? =some x->p x=false)/\Below w.heap.size w wr) (fun i _=>xs.length - (intOf i).toNat)
 case atStart=>exact⟨0,yh _,rfl,fun j x hj=>absurd hj (xR _),yF _ _⟩
 case round=>
  obtain⟨k,hk,rfl,au,ab⟩:=hrel;have ar:=AA au;clear au
  by_cases an:k<xs.length
  .have hx:xs[k]? =some (AT xs k):=by simp[AT,an]
   obtain⟨b,aq,rfl,bb,bA,cx,cn,c5⟩:=H0.zN an;have D0:=(ab.cell (p:=⟨b,aq+k*4,none⟩) bb).trans bA;have D1:=(ab.cell (p:=⟨b,aq+k*4+1,none⟩) bb).trans cx;have D2:=(ab.cell (p:=⟨b,aq+k*4+2,none⟩) bb).trans cn;have D3:=(ab.cell (p:=⟨b,aq+k*4+3,none⟩) bb).trans c5;clear bA cx cn c5;have Hx:=AA hx;have Hc:=AA (Hf.out _ (yg hx) wr ab);clear hx;cases hp:p (AT xs k)
   .have Hp:=AA hp;clear hp
    go_wp2_with (refine(Hc.out).mono ?_;rintro e w' ⟨rfl,ac⟩;rw[Hp.out]);go_roundw
    case rel=>exact⟨k+1,by omega,by go_num,IN ar.out Hx.out Hp.out,ab.trans (ac.mono ab.size)⟩
    case measure=>simp[intOf];omega
   .have Hp:=AA hp;clear hp
    have az:=AA (Jt Hx.out ar.out Hp.out);go_wp2_with (refine(Hc.out).mono ?_;rintro e w' ⟨rfl,ac⟩;rw[Hp.out]);go_ret;exact⟨Cn az.out.symm,ab.trans (ac.mono ab.size)⟩
  .have az:=AA (IR (p:=p) (xs:=xs) (fun j x hx=>ar.out j x (by have:=(yq.1 hx).1;omega) hx))
   go_wp2;go_ret;exact⟨Cn az.out.symm,ab⟩
theorem Lo (F:Nat) (ae:Array Value) (p:ByteArray->Bool) (v:Value) (xs:List ByteArray) (w:World) (h:BP w v xs)
 (hF:∀args w,(callFunc F args).run prog w= .ok (.enter F args) w) (hf:∀x,x∈xs->∀W,Below w.heap.size w W->Calls prog F (#[uK x]++ae) W fun e W'=>e= .returned (.bool (p x))/\Below W.heap.size W W'):
 Calls prog 139 #[v, .func (.func F) #[] ae] w fun e w'=>e= .returned (.int .i64 (Fl p xs))/\Below w.heap.size w w':=by
 obtain⟨a,c,rfl,hc,al,H0⟩:=BJ.open Gp (by decide) h;clear h;unfold maxLen at al;have Hf:=AA hf;clear hf;go_in;go_wp2;go_loopw [8] (fun i wr=>∃k:Nat,k<=xs.length/\i= .int .i64 k/\(∀(j:Nat) x,j<k->xs[j]? =some x->p x=false)/\Below w.heap.size w wr) (fun i _=>xs.length - (intOf i).toNat)
 case atStart=>exact⟨0,yh _,rfl,fun j x hj=>absurd hj (xR _),yF _ _⟩
 case round=>
  obtain⟨k,hk,rfl,au,ab⟩:=hrel;have ar:=AA au;clear au
  by_cases an:k<xs.length
  .have hx:xs[k]? =some (DZ xs k):=by simp[DZ,an]
   obtain⟨b,aq,rfl,bA⟩:=H0.str an;have bb:=yC w _ bA;have D0:wr.cell? ⟨b,aq+k,none⟩=some (.string (DZ xs k)):=(ab.cell (p:=⟨b,aq+k,none⟩) bb).trans bA;clear bA;have Hx:=AA hx;have Hc:=AA (Hf.out _ (yg hx) wr ab);clear hx;cases hp:p (DZ xs k)
   .have Hp:=AA hp;clear hp
    go_wp2_with (refine(Hc.out).mono ?_;rintro e w' ⟨rfl,ac⟩;rw[Hp.out]);go_roundw
    case rel=>exact⟨k+1,by omega,by go_num,IN ar.out Hx.out Hp.out,ab.trans (ac.mono ab.size)⟩
    case measure=>simp[intOf];omega
   .have Hp:=AA hp;clear hp
    have az:=AA (Jt Hx.out ar.out Hp.out);go_wp2_with (refine(Hc.out).mono ?_;rintro e w' ⟨rfl,ac⟩;rw[Hp.out]);go_ret;exact⟨Cn az.out.symm,ab.trans (ac.mono ab.size)⟩
  .have az:=AA (IR (p:=p) (xs:=xs) (fun j x hx=>ar.out j x (by have:=(yq.1 hx).1;omega) hx))
   go_wp2;go_ret;exact⟨Cn az.out.symm,ab⟩
theorem J7 (F:Nat) (ae:Array Value) (p:ByteArray->Bool) (v:Value) (xs:List ByteArray) (w:World) (h:BP w v xs)
 (hF:∀args w,(callFunc F args).run prog w= .ok (.enter F args) w) (hf:∀x,x∈xs->∀W,Below w.heap.size w W->Calls prog F (#[uK x]++ae) W fun e W'=>e= .returned (.bool (p x))/\Below W.heap.size W W'):
 Calls prog 81 #[v, .func (.func F) #[] ae] w fun e w'=>e= .returned (.bool (xs.any p))/\Below w.heap.size w w':=by
 have E:=AA (Ju (p:=p) (xs:=xs));have C:=AA (Lo F ae p v xs w h hF hf);clear h hf;go_in;go_wp2_with (refine(C.out).mono ?_;rintro e w' ⟨rfl,ac⟩);go_ret;exact⟨AI E.out,ac⟩
theorem Ja (F:Nat) (ae:Array Value) (p:List Int->Bool) (v:Value) (m:List (List Int)) (w:World) (h:Bc w v m)
 (hF:∀args w,(callFunc F args).run prog w= .ok (.enter F args) w) (hf:∀u r,r∈m->∀W,Below w.heap.size w W->Ax W u r->Calls prog F (#[u]++ae) W fun e W'=>e= .returned (.bool (p r))/\Below W.heap.size W W'):
 Calls prog 136 #[v, .func (.func F) #[] ae] w fun e w'=>e= .returned (.int .i64 (Fl p m))/\Below w.heap.size w w':=by
 obtain⟨vs,h1,h2⟩:=h;obtain⟨a,c,rfl,hc,al,H0⟩:=BJ.open D8 (by decide) h1;clear h1;unfold maxLen at al;have Hf:=AA hf;clear hf;have H2:=AA h2;clear h2;go_in;go_wp2;go_loopw [8] (fun i wr=>∃k:Nat,k<=vs.length/\i= .int .i64 k/\(∀(j:Nat) x,j<k->m[j]? =some x->p x=false)/\Below w.heap.size w wr) (fun i _=>vs.length - (intOf i).toNat)
 case atStart=>exact⟨0,yh _,rfl,fun j x hj=>absurd hj (xR _),yF _ _⟩
 case round=>
  obtain⟨k,hk,rfl,au,ab⟩:=hrel;have ar:=AA au;clear au
  by_cases an:k<vs.length
  .obtain⟨u,hu⟩:∃u,vs[k]? =some u:=⟨_,yx an⟩
   obtain⟨r,hx⟩:∃r,m[k]? =some r:=⟨_,yx (by rw[<-H2.out.1];exact an)⟩
   obtain⟨b,aq,rfl,bb,a8⟩:=H0 k u hu;have D0:wr.cell? ⟨b,aq+k,none⟩=some u:=(ab.cell (p:=⟨b,aq+k,none⟩) bb).trans (by simpa using a8 0 u rfl);have hr:=H2.out.2 k u r hu hx;have Hx:=AA hx;have Hc:=AA (Hf.out u r (yg hx) wr ab (Ax.below hr ab));clear hx hu a8 hr;cases hp:p r
   .have Hp:=AA hp;clear hp
    go_wp2_with (refine(Hc.out).mono ?_;rintro e w' ⟨rfl,ac⟩;rw[Hp.out]);go_roundw
    case rel=>exact⟨k+1,by omega,by go_num,IN ar.out Hx.out Hp.out,ab.trans (ac.mono ab.size)⟩
    case measure=>simp[intOf];omega
   .have Hp:=AA hp;clear hp
    have az:=AA (Jt Hx.out ar.out Hp.out);go_wp2_with (refine(Hc.out).mono ?_;rintro e w' ⟨rfl,ac⟩;rw[Hp.out]);go_ret;exact⟨Cn az.out.symm,ab.trans (ac.mono ab.size)⟩
  .have az:=AA (IR (p:=p) (xs:=m) (fun j x hx=>ar.out j x (by have:=(yq.1 hx).1;rw[<-H2.out.1] at this;omega) hx))
   go_wp2;go_ret;exact⟨Cn az.out.symm,ab⟩
theorem IL (F:Nat) (ae:Array Value) (p:List Int->Bool) (v:Value) (m:List (List Int)) (w:World) (h:Bc w v m)
 (hF:∀args w,(callFunc F args).run prog w= .ok (.enter F args) w) (hf:∀u r,r∈m->∀W,Below w.heap.size w W->Ax W u r->Calls prog F (#[u]++ae) W fun e W'=>e= .returned (.bool (p r))/\Below W.heap.size W W'):
 Calls prog 77 #[v, .func (.func F) #[] ae] w fun e w'=>e= .returned (.bool (m.any p))/\Below w.heap.size w w':=by
 have E:=AA (Ju (p:=p) (xs:=m));have C:=AA (Ja F ae p v m w h hF hf);clear h hf;go_in;go_wp2_with (refine(C.out).mono ?_;rintro e w' ⟨rfl,ac⟩);go_ret;exact⟨AI E.out,ac⟩
section
variable {α:Type} {lo e sz:Nat} {cs:α->List Value} {w:World} {g ax k:Nat} {xs:List α}
theorem AP.zO (h:AP lo e sz cs w v xs) (hn:0<xs.length):∃g ax,v= .slice (some ⟨g,0,none⟩) xs.length ax/\xs.length<=ax/\ax<=maxLen/\lo<=g/\g<w.heap.size/\∀j,w.frozen? ⟨g,j,none⟩=false:=by
 obtain⟨g,ax,rfl,h1,h2⟩:=JE h hn;obtain⟨a,c,hv,h3,h4⟩:=h.rd.shape;cases hv;exact⟨g,ax,rfl,h3,h4,h1,h2,fun j=>xP h j⟩
theorem AP.stored (hs:∀x,(cs x).length=sz) (h:AP lo e sz cs w (.slice (some ⟨g,0,none⟩) xs.length ax) xs) (hk:k<xs.length) (y:α):
 AP lo e sz cs (Lk w g (k*sz) 0 (cs y)) (.slice (some ⟨g,0,none⟩) xs.length ax) (xs.set k y)/\w.grownBy (Lk w g (k*sz) 0 (cs y)) (some g):=by
 obtain⟨h1,h2⟩:=IX h (k*sz) 0 (cs y);rw[UB hs hk] at h1;refine⟨?_,h2⟩;unfold AP;rw[xV];exact h1
theorem AP.zB (hs:∀x,(cs x).length=sz) (h:AP lo e sz cs w (.slice (some ⟨g,0,none⟩) xs.length ax) xs) {x:α} (hk:xs[k]? =some x):∀(j:Nat) u,(cs x)[j]? =some u->w.cell? ⟨g,k*sz+j,none⟩=some u:=by
 intro j u hj;have an:=(yq.1 hk).1;have dC:j<sz:=by rw[<-hs x];exact(yq.1 hj).1
 have hm:k*sz+sz<=xs.length*sz:=by rw[<-Nat.succ_mul];exact vK _ an
 rw[xC h (k*sz+j) (by omega),Oa hs hk dC,hj]
end
theorem AP.zR {lo e g ax k:Nat} {w:World} {xs:List AU} (h:AP lo e 3 A2 w (.slice (some ⟨g,0,none⟩) xs.length ax) xs) (hk:k<xs.length):
 w.cell? ⟨g,k*3,none⟩=some (.int .i64 (zU xs k).k)/\w.cell? ⟨g,k*3+1,none⟩=some (.string (zU xs k).g)/\w.cell? ⟨g,k*3+2,none⟩=some (.int .i64 (zU xs k).r):=by
 have hc:=AP.zB Az h (k:=k) (x:=zU xs k) (by simp[zU,hk]);exact⟨hc 0 _ rfl,hc 1 _ rfl,hc 2 _ rfl⟩
theorem AP.zN {lo e g ax k:Nat} {w:World} {xs:List Ak} (h:AP lo e 4 Ae w (.slice (some ⟨g,0,none⟩) xs.length ax) xs) (hk:k<xs.length):
 w.cell? ⟨g,k*4,none⟩=some (.int .i64 (AT xs k).e)/\w.cell? ⟨g,k*4+1,none⟩=some (.int .i64 (AT xs k).p)/\w.cell? ⟨g,k*4+2,none⟩=some (.int .i64 (AT xs k).f)/\w.cell? ⟨g,k*4+3,none⟩=some (.bool (AT xs k).w):=by
 have hc:=AP.zB Cg h (k:=k) (x:=AT xs k) (by simp[AT,hk]);exact⟨hc 0 _ rfl,hc 1 _ rfl,hc 2 _ rfl,hc 3 _ rfl⟩
theorem AM {B:Nat} {w w' c6:World} {g:Nat} (h:Below B w w') (hg:w'.grownBy c6 (some g)) (hB:B<=g) (hs:B<=w'.heap.size):Below B w c6:=h.grown hg hs (fun k hk=>by cases hk;exact hB)
theorem Jr (b o:Nat) (vs:List Value):∀(j:Nat) (w:World),w.setCells b (o+j) vs=Lk w b o j vs:=by
 induction vs with
 |nil=>intro j w;rfl
 |cons v vs ih=>intro j w;exact ih (j+1) _
theorem TT (xs us:List Value) (o:Nat):∀(j:Nat),(Iw xs o j us).take o=xs.take o:=by
 induction us generalizing xs with
 |nil=>intro j;rfl
 |cons u us ih=>
  intro j;rw[Iw,ih];apply List.ext_getElem?;intro k
  by_cases hk:k<o
  .rw[vz hk,vz hk,List.getElem?_set_ne (by omega)]
  .rw[uw (by omega),uw (by omega)]
theorem Ud {lo e sz k:Nat} {w:World} {g ax:Nat} {xs:List Value} (h:w.ownsRow lo e sz (.slice (some ⟨g,0,none⟩) n ax) n xs) (hk:k<=n):w.ownsRow lo e sz (.slice (some ⟨g,0,none⟩) k ax) k (xs.take (k*sz)):=by
 rcases h.2 with⟨h0,_⟩|⟨g',cap',bD,hv,hb,hg,bs,al,b0,htake⟩
 .cases h0
 .cases hv
  have hm:k*sz<=n*sz:=vK _ hk;refine⟨by rw[xW,h.1];omega, .inr ⟨g,ax,bD,rfl,hb,hg,by omega,al,b0,?_⟩⟩;rw[<-htake,sU,ue hm]
theorem Ql {P:Program} {lo e sz k g ax t:Nat} {w:World} {xs:List Value} {z:Value} (ht:P.underlying t=some (.slice e)) (hv:∀w,(zeroValue e).run P w= .ok z w) (cH:z.cells.size=sz) (h1:∀u∈z.cells.toList,u.oneCell'=true)
 (h:w.ownsRow lo e sz (.slice (some ⟨g,0,none⟩) n ax) n xs) (hk:k<n):
 ∃w',(∀ty c,(uC #[t] ty #[.slice (some ⟨g,k*sz,none⟩) (n - k) c]).run P w= .ok (.tuple #[]) w')/\w'.ownsRow lo e sz (.slice (some ⟨g,0,none⟩) k ax) k (xs.take (k*sz))/\w.grownBy w' (some g):=by
 have bu:(xN z.cells (n - k)).toList.length=(n - k)*sz:=by simp[xN,cH,Nat.mul_comm]
 have dP:=h.1;have dy:k*sz+(n - k)*sz=n*sz:=by rw[<-Nat.add_mul];congr 1;omega
 have hst:=run_storeCells_cells (P:=P) g (k*sz) (xN z.cells (n - k)).toList 0 w (by
  intro j hj;rw[bu] at hj;have:=xC h (k*sz+j) (by omega);simp only[xQ] at this ⊢;rw[this];simp;omega) (by intro j _;exact xP h _) (by
  intro u hu;simp only[xN,Array.toList_map,vH,Array.mem_toList_iff,Array.mem_range] at hu;obtain⟨i,hi,rfl⟩:=hu;have hs:0<z.cells.size:=by
   rcases vP z.cells.size with h0|h0
   .rw[h0] at hi;simp at hi
   .exact h0
  have an:i%z.cells.size<z.cells.size:=Nat.mod_lt _ hs;refine h1 _ ?_;simp[an])
 obtain⟨m,hm⟩:∃m,n - k=m+1:=⟨n - k - 1,by omega⟩
 simp only[xQ] at hst;refine⟨w.setCells g (k*sz) (xN z.cells (n - k)).toList,fun ty c=>?_,?_,?_⟩
 .rw[hm] at hst ⊢
  simp[uC,tW ht,hv,hst]
 .have e0:=Jr g (k*sz) (xN z.cells (n - k)).toList 0 w
  rw[xQ] at e0;rw[e0];obtain⟨a1,_⟩:=IX h (k*sz) 0 (xN z.cells (n - k)).toList;have:=Ud a1 (Nat.le_of_lt hk);rw[TT] at this;exact this
 .have e0:=Jr g (k*sz) (xN z.cells (n - k)).toList 0 w
  rw[xQ] at e0;rw[e0];exact(IX h (k*sz) 0 (xN z.cells (n - k)).toList).2
section
variable {α:Type} {p:α->Bool} {xs ys:List α} {i j:Nat}
structure JX (p:α->Bool) (xs ys:List α) (i j:Nat):Prop where
 len:ys.length=xs.length
 lt:i<j
 le:j<=xs.length
 kept:ys.take i=(xs.take j).filter fun x=>!p x
 rest:ys.drop j=xs.drop j
theorem JX.start {k:Nat} {x:α} (hk:xs[k]? =some x) (h:∀(j:Nat) y,j<k->xs[j]? =some y->p y=false) (hp:p x=true):JX p xs xs k (k+1):=by
 have an:=(yq.1 hk).1;refine⟨rfl,by omega,by omega,?_,rfl⟩;rw[Cw hk,wy];have h1:(xs.take k).filter (fun x=>!p x)=xs.take k:=by rw[uL];intro y hy;obtain⟨j,hj⟩:=xA hy;have dB:=(yq.1 hj).1;rw[xW] at dB;rw[vz (by omega)] at hj;simp[h j y (by omega) hj]
 rw[h1];simp[hp]
theorem JX.drop (h:JX p xs ys i j) {x:α} (hx:xs[j]? =some x) (hp:p x=true):JX p xs ys i (j+1):=by
 have an:=(yq.1 hx).1;refine⟨h.len,by have:=h.lt;omega,by omega,?_,?_⟩
 .rw[h.kept,Cw hx,wy]
  simp[hp]
 .have:=congrArg (List.drop 1) h.rest
  rw[uY,uY] at this;exact this
theorem JX.keep (h:JX p xs ys i j) {x:α} (hx:xs[j]? =some x) (hp:p x=false):JX p xs (ys.set i x) (i+1) (j+1):=by
 have an:=(yq.1 hx).1;have dE:=h.lt;refine⟨by rw[xV];exact h.len,by omega,by omega,?_,?_⟩
 .have e:(ys.set i x).take (i+1)=ys.take i++[x]:=by
   have hi:(ys.set i x)[i]? =some x:=by rw[List.getElem?_set_self (by rw[h.len];omega)]
   rw[Cw hi,List.take_set_of_le (yv _)]
  rw[e,h.kept,Cw hx,wy];simp[hp]
 .rw[List.drop_set_of_lt (by omega)]
  have:=congrArg (List.drop 1) h.rest;rw[uY,uY] at this;exact this
theorem JX.next (h:JX p xs ys i j):ys[j]? =xs[j]? :=by
 have:=congrArg (fun l=>l[0]?) h.rest;simpa using this
theorem JX.done (h:JX p xs ys i j) (hj:j=xs.length):ys.take i=xs.filter fun x=>!p x:=by rw[h.kept,hj,xt]
theorem Sh (h:Fl p xs≠ -1):∃k x,Fl p xs=((k:Nat):Int)/\xs[k]? =some x/\p x=true/\∀(j:Nat) y,j<k->xs[j]? =some y->p y=false:=by
 unfold Fl at h ⊢
 split
 .rename_i ha
  have hl:xs.findIdx p<xs.length:=List.findIdx_lt_length.2 (vl.1 ha);refine⟨_,xs[xs.findIdx p],rfl,yx hl,List.findIdx_getElem,fun j y hj hy=>?_⟩;obtain⟨bK,rfl⟩:=yq.1 hy;have:=List.not_of_lt_findIdx hj;simpa using this
 .rename_i ha
  rw[if_neg ha] at h;exact absurd rfl h
theorem VP (h:Fl p xs= -1):xs.filter (fun x=>!p x)=xs:=by
 rw[uL];intro x hx;unfold Fl at h
 split at h
 .omega
 .rename_i ha
  simp only[vl,not_exists,not_and] at ha;simpa using ha x hx
end
theorem aZ {lo e sz g ax:Nat} {w:World} {xs:List Value} (h:w.ownsRow lo e sz (.slice (some ⟨g,0,none⟩) n ax) n xs):lo<=g/\g<w.heap.size:=yr h g rfl
theorem Ux:∀w,(zeroValue 98).run prog w= .ok (.agg #[.int .i64 0, .int .i64 0, .int .i64 0, .bool false]) w:=fun _=>by kernel_rfl
theorem Kk {lo:Nat} (F:Nat) (ae:Array Value) (p:Ak->Bool) (v:Value) (xs:List Ak) (w:World) (h:AP lo 98 4 Ae w v xs) (bt:lo<=w.heap.size)
 (hF:∀args w,(callFunc F args).run prog w= .ok (.enter F args) w) (hf:∀x,x∈xs->∀W,Below lo w W->Calls prog F (#[x.val]++ae) W fun e W'=>e= .returned (.bool (p x))/\Below W.heap.size W W'):
 Calls prog 255 #[v, .func (.func F) #[] ae] w fun e w'=>∃v',e= .returned v'/\AP lo 98 4 Ae w' v' (xs.filter fun x=>!p x)/\Below lo w w':=by
 have C0:=Il F ae p v xs w h.rd hF (fun x hx W hW=>hf x hx W (hW.mono bt))
 by_cases bl:Fl p xs= -1
 .have S:=AA (VP bl)
  rw[bl] at C0;have H:=AA h;obtain⟨a,c,rfl,hc,al⟩:=h.rd.shape;have C:=AA C0;clear C0 hf bl h;go_in;go_wp2_with (refine(C.out).mono ?_;rintro e w1 ⟨rfl,bd⟩);go_ret;exact⟨_,rfl,by rw[S.out];exact H.out.below bd,bd.mono bt⟩
 .obtain⟨k,x0,hk,bY,da,au⟩:=Sh bl
  rw[hk] at C0;have dU:k<xs.length:=(yq.1 bY).1;obtain⟨g,ax,rfl,hc,al,hg,cR,cS⟩:=h.zO (by omega);unfold maxLen at al;have t0:((k:Int)== -1)=false:=by rw[beq_eq_false_iff_ne];omega
  have C:=AA C0;have Hf:=AA hf;have S0:=AA (JX.start bY au da);have HO:=AA h;clear C0 hf bl hk bY da au h cS;go_in;go_wp2_with (refine(C.out).mono ?_;rintro e w1 ⟨rfl,bd⟩);go_loopw [5,6] (fun i5 j6 wr=>∃i j:Nat,∃ys:List Ak,i5= .int .i64 i/\j6= .int .i64 j/\JX p xs ys i j/\AP lo 98 4 Ae wr (.slice (some ⟨g,0,none⟩) xs.length ax) ys/\Below lo w wr) (fun _ j6 _=>xs.length - (intOf j6).toNat)
  case atStart=>exact⟨k,k+1,xs,rfl,by go_num,S0.out,HO.out.below bd,bd.mono bt⟩
  case round=>
   clear bd HO;obtain⟨i,j,ys,rfl,rfl,hS,hO,ab⟩:=hrel;have dE:=hS.lt;have bK:=hS.le;have bu:=hS.len;have S:=AA hS;have bv:AP lo 98 4 Ae wr (.slice (some ⟨g,0,none⟩) ys.length ax) ys:=by rw[bu];exact hO
   have df:∀q,wr.frozen? ⟨g,q,none⟩=false:=fun q=>xP bv q
   have bZ:lo<=wr.heap.size:=yD bt ab.size
   by_cases an:j<xs.length
   .obtain⟨x,hx⟩:∃x,xs[j]? =some x:=⟨_,yx an⟩
    have dc:j<ys.length:=by omega
    have dd:i<ys.length:=by omega
    obtain⟨d0,d1,d2,d3⟩:=AP.zN bv (k:=j) dc;obtain⟨e0,e1,e2,e3⟩:=AP.zN bv (k:=i) dd;have c8:AT ys j=x:=by have:=S.out.next;rw[hx] at this;simp[AT,this]
    rw[c8] at d0 d1 d2 d3;have dY:=(aZ bv);have Cf:=AA (Hf.out x (yg hx) (wr.alloc (.cells #[.int .i64 x.e, .int .i64 x.p, .int .i64 x.f, .bool x.w] 98)) (ab.alloc bZ _));have Hx:=AA hx;have c4:=AA bv;have dJ:i<xs.length:=by omega
    clear hS hO bv hx c8 bu dc dd;go_wp2_with fail;refine(Cf.out).mono ?_;rintro e w2 ⟨rfl,ac⟩;have ba:=(ab.alloc bZ (.cells #[.int .i64 x.e, .int .i64 x.p, .int .i64 x.f, .bool x.w] 98)).trans (ac.mono (by simp;omega));have cz:=(AD wr (.cells #[.int .i64 x.e, .int .i64 x.p, .int .i64 x.f, .bool x.w] 98)).trans (ac.mono (AD _ _).size);have ds:=AA (c4.out.below cz);obtain⟨b5,d4⟩:=Zy ac;have hz:wr.heap.size<w2.heap.size:=by have:=ac.size;simp at this;omega
    cases hp:p x
    .have SK:=AA (S.out.keep Hx.out hp)
     have Hp:=AA hp;clear hp;have dp:=AP.stored Cg ds.out (k:=i) (by rw[S.out.len];exact dJ) x;have ST:=AA dp;clear dp;have BL:=AA (AM ba ST.out.2 hg (yD bZ cz.size));clear cz ba ac;go_wp2_with fail;go_roundw
     case rel=>exact⟨i+1,j+1,ys.set i x,by go_num,by go_num,SK.out,by have:=ST.out.1;rw[S.out.len] at this;exact this,BL.out⟩
     case measure=>simp[intOf];omega
    .have SD:=AA (S.out.drop Hx.out hp)
     have Hp:=AA hp;clear hp;have HB:=AA ba;clear cz ba ac;go_wp2_with fail;go_roundw
     case rel=>exact⟨i,j+1,ys,rfl,by go_num,SD.out,by have:=ds.out;rw[S.out.len] at this;exact this,HB.out⟩
     case measure=>simp[intOf];omega
   .have db:j=xs.length:=by omega
    have hd:=AA (hS.done db);have dD:i<xs.length:=by omega
    have cB:wr.ownsRow lo 98 4 (.slice (some ⟨g,0,none⟩) xs.length ax) xs.length (Ch Ae ys):=by have:=bv;unfold AP at this;rwa [bu] at this
    obtain⟨w3,cU,cX,de⟩:=Ql (P:=prog) (sz:=4) (t:=26) underlying26 Ux rfl (by simp[Value.cells,xE]) cB dD;have hE:(Ch Ae ys).take (i*4)=Ch Ae (xs.filter fun x=>!p x):=by
     rw[<-hd.out]
     conv=>lhs;rw[<-tV i ys,Bl]
     rw[td];rw[Jv Cg,xW]
     congr 1;omega
    have hL:(xs.filter fun x=>!p x).length=i:=by rw[<-hd.out,xW];omega
    rw[hE] at cX;have R:=AA (show AP lo 98 4 Ae w3 (.slice (some ⟨g,0,none⟩) i ax) (xs.filter fun x=>!p x) by unfold AP;rw[hL];exact cX);have BL:=AA (AM ab de hg bZ);have dH:¬ax=i:=by omega
    have dG:=fun ty=>cU ty (ax - i)
    clear hO bv cB cX hE hL cU de bu hS df db hd;go_wp2_with fail;go_ret;exact⟨_,rfl,R.out,BL.out⟩
theorem DV {lo:Nat} {w:World} {t ty:TypeId} (e:TypeId) (z:Value) (sz bytes:Nat) (ht:prog.underlying t=some (.slice e)) (hi:(prog.info? e).map (fun i=>(i.zero,i.size,i.bytes))=some (some z,sz,bytes))
 (cH:z.cells.size=sz) (cK:0<sz) {g:Nat} (hb:w.heap[g]? =some (.cells #[] e (0,0))) (bt:lo<=g) {u:Value} {m:Nat} {news:List Value} (hr:Rd w u sz m news) (h1:∀u∈news,u.oneCell'=true)
 (ch:m*bytes<=140737488355328):∃v' w',(uD #[t,t] ty #[.slice (some ⟨g,0,none⟩) 0 0,u]).run prog w= .ok v' w'/\w'.ownsRow lo e sz v' m news/\Below w.heap.size w w'/\(∀k,v'.ownBlock=some k->k=g∨w.heap.size<=k):=by
 obtain⟨i0,cQ,dw,dv,du⟩:=info_parts hi;obtain⟨ao,c,rfl,dQ,al,hl,ay,hc⟩:=hr;have cR:g<w.heap.size:=(wm.1 hb).1;have a6:∀l,l<=g->w.ownsRow l e sz (.slice (some ⟨g,0,none⟩) 0 0) 0 []:=fun l hl=>⟨by simp, .inr ⟨g,0,#[],rfl,hl,hb,yv _,by simp[maxLen],by simp,by simp⟩⟩
 rcases vP m with rfl|hm
 .have cu:news=[]:=xT (by simpa using hl)
  subst cu;cases ao with
  |none=>have bw:=ay rfl;subst bw;exact⟨_,w,by simp[uD,tW ht,sizeOf,typeInfo,cQ,to,Builtin.firstCells,storeCells],a6 lo bt,yF _ _,fun k hk=>by simp[uQ] at hk;exact .inl hk.symm⟩
  |some a=>have hf:=run_firstCells_some (P:=prog) w i0.size 0 a 0 c [] (by simp) (by simp);exact⟨_,w,by simp[uD,tW ht,sizeOf,typeInfo,cQ,to,hf,storeCells],a6 lo bt,yF _ _,fun k hk=>by simp[uQ] at hk;exact .inl hk.symm⟩
 .obtain⟨b,aq,rfl,a8⟩:=hc hm
  obtain⟨v',w',cL,r1,r2⟩:=run_append_arg_grows (P:=prog) w t ty e i0 z sz bytes ht cQ dw dv du cH cK ⟨g,0,none⟩ 0 0 [] (by simp) (by simp) ⟨b,aq,none⟩ m c news hl (by
   intro j u hu;have hj:j<news.length:=(yq.1 hu).1;have cW:(⟨b,aq,none⟩:Addr).add j=⟨b,aq+j,none⟩:=by unfold Addr.add;split<;>simp_all
   rw[cW,a8 j (by omega),hu]) (by omega) (by omega) (by rw[Nat.zero_add];exact ch)
  have hB:=Below.zw r2;have c7:w'.ownsRow w.heap.size e sz v' m news:=by simpa using r1
  exact⟨v',w',cL,BR c7 (by omega),hB,fun k hk=> .inr (c7.lt k hk).1⟩
theorem Rj {w:World} {vs:List Value} {m:List (List Int)} (h:Fb (Ax w) vs m):∀u∈Ch F3 vs,u.oneCell'=true:=by
 intro u hu;obtain⟨x,hx,hs⟩:=wS.1 hu;simp[F3] at hs;subst hs;obtain⟨i,hi⟩:=xA hx;obtain⟨r,hr⟩:∃r,m[i]? =some r:=⟨_,yx (by rw[<-h.1];exact(yq.1 hi).1)⟩
 obtain⟨a,c,rfl,_⟩:=(h.2 i _ r hi hr).open;rfl
theorem XX {w:World} {ps:List (Value×Int)} {es:List EN} (h:Fb (fun p e=>BP w p.1 e.zV/\p.2=e.root) ps es):∀u∈Ch EX ps,u.oneCell'=true:=by
 intro u hu;obtain⟨x,hx,hs⟩:=wS.1 hu;obtain⟨i,hi⟩:=xA hx;obtain⟨r,hr⟩:∃r,es[i]? =some r:=⟨_,yx (by rw[<-h.1];exact(yq.1 hi).1)⟩
 obtain⟨a,c,e,_⟩:=BJ.shape (h.2 i _ r hi hr).1;simp[EX] at hs
 rcases hs with rfl|rfl
 .rw[e];rfl
 .rfl
theorem Tryz.zG:(prog.info? 93).map (fun i=>(i.zero,i.size,i.bytes))=some (some (.agg #[.int .i64 0, .string ⟨#[]⟩, .int .i64 0]),3,32):=by kernel_rfl
theorem Jk (v:Value) (xs:List AU) (w:World) (h:BJ 3 A2 w v xs) (hs:xs.length<=1048576):
 Calls prog 111 #[v] w fun e w'=>∃v',e= .returned v'/\AP w.heap.size 93 3 A2 w' v' xs/\Below w.heap.size w w':=by
 have a7:∀u∈Ch A2 xs,u.oneCell'=true:=by
  intro u hu;obtain⟨s,_,hs⟩:=wS.1 hu;simp[A2] at hs
  rcases hs with rfl|rfl|rfl<;>rfl
 have h':=h;obtain⟨a,c,rfl,bs,al,hl,ay,hc⟩:=h';have hq:=fun w=>wL (P:=prog) w 24 93 a xs.length c 0 0 underlying24
 have bh:=AA a7;clear a7;cases a with
 |none=>have bw:=ay rfl;subst bw;have h0:xs=[]:=xT (by omega);subst h0;simp only[wP] at hq;go_in;go_wp2;go_ret;exact⟨_,rfl,xj _ _ _ _,yF _ _⟩
 |some ad=>clear hc ay;have bj:(Ch A2 xs).length=xs.length*3:=hl;have Hl:=AA bj;clear hl bj;go_in;go_wp2_with (refine Eg (lo:=w.heap.size) (v:= .slice (some ⟨w.heap.size,0,none⟩) 0 0) (n:=0) (xs:=[]) (m:=xs.length) (news:=Ch A2 xs) rfl rfl 93 (.agg #[.int .i64 0, .string ⟨#[]⟩, .int .i64 0]) 3 32 underlying24 Tryz.zG rfl (by decide) rfl (Cp _ _ _) rfl (Rd.alloc h _) bh.out (by unfold maxLen;omega) (by omega) (by simp) ?_;intro v' w' a6 _ ab);go_ret;refine⟨_,rfl,by simpa[AP] using a6,((yF _ _).alloc (yv _) _).trans ab⟩
theorem Tryz.infoEnvK:(prog.info? 62).map (fun i=>(i.zero,i.size,i.bytes))=some (some (.agg #[.slice none 0 0, .int .i64 0]),2,32):=by kernel_rfl
theorem SL (v:Value) (xs:List (Value×Int)) (w:World) (h:BJ 2 EX w v xs) (hs:xs.length<=1048576) (a7:∀u∈Ch EX xs,u.oneCell'=true):
 Calls prog 112 #[v] w fun e w'=>∃v',e= .returned v'/\AP w.heap.size 62 2 EX w' v' xs/\Below w.heap.size w w':=by
 have h':=h;obtain⟨a,c,rfl,bs,al,hl,ay,hc⟩:=h';have hq:=fun w=>wL (P:=prog) w 25 62 a xs.length c 0 0 underlying25
 have bh:=AA a7;clear a7;cases a with
 |none=>have bw:=ay rfl;subst bw;have h0:xs=[]:=xT (by omega);subst h0;simp only[wP] at hq;go_in;go_wp2;go_ret;exact⟨_,rfl,xj _ _ _ _,yF _ _⟩
 |some ad=>clear hc ay;have bj:(Ch EX xs).length=xs.length*2:=hl;have Hl:=AA bj;clear hl bj;go_in;go_wp2_with (refine Eg (lo:=w.heap.size) (v:= .slice (some ⟨w.heap.size,0,none⟩) 0 0) (n:=0) (xs:=[]) (m:=xs.length) (news:=Ch EX xs) rfl rfl 62 (.agg #[.slice none 0 0, .int .i64 0]) 2 32 underlying25 Tryz.infoEnvK rfl (by decide) rfl (Cp _ _ _) rfl (Rd.alloc h _) bh.out (by unfold maxLen;omega) (by omega) (by simp) ?_;intro v' w' a6 _ ab);go_ret;refine⟨_,rfl,by simpa[AP] using a6,((yF _ _).alloc (yv _) _).trans ab⟩
theorem Tryz.zH:(prog.info? 98).map (fun i=>(i.zero,i.size,i.bytes))=some (some (.agg #[.int .i64 0, .int .i64 0, .int .i64 0, .bool false]),4,32):=by kernel_rfl
theorem KZ (v:Value) (xs:List Ak) (w:World) (h:BJ 4 Ae w v xs) (hs:xs.length<=1048576):
 Calls prog 113 #[v] w fun e w'=>∃v',e= .returned v'/\AP w.heap.size 98 4 Ae w' v' xs/\Below w.heap.size w w':=by
 have a7:∀u∈Ch Ae xs,u.oneCell'=true:=by
  intro u hu;obtain⟨s,_,hs⟩:=wS.1 hu;simp[Ae] at hs
  rcases hs with rfl|rfl|rfl|rfl<;>rfl
 have h':=h;obtain⟨a,c,rfl,bs,al,hl,ay,hc⟩:=h';have hq:=fun w=>wL (P:=prog) w 26 98 a xs.length c 0 0 underlying26
 have bh:=AA a7;clear a7;cases a with
 |none=>have bw:=ay rfl;subst bw;have h0:xs=[]:=xT (by omega);subst h0;simp only[wP] at hq;go_in;go_wp2;go_ret;exact⟨_,rfl,xj _ _ _ _,yF _ _⟩
 |some ad=>clear hc ay;have bj:(Ch Ae xs).length=xs.length*4:=hl;have Hl:=AA bj;clear hl bj;go_in;go_wp2_with (refine Eg (lo:=w.heap.size) (v:= .slice (some ⟨w.heap.size,0,none⟩) 0 0) (n:=0) (xs:=[]) (m:=xs.length) (news:=Ch Ae xs) rfl rfl 98 (.agg #[.int .i64 0, .int .i64 0, .int .i64 0, .bool false]) 4 32 underlying26 Tryz.zH rfl (by decide) rfl (Cp _ _ _) rfl (Rd.alloc h _) bh.out (by unfold maxLen;omega) (by omega) (by simp) ?_;intro v' w' a6 _ ab);go_ret;refine⟨_,rfl,by simpa[AP] using a6,((yF _ _).alloc (yv _) _).trans ab⟩
def Cz (x:Bi):List Value:=[.int .i64 x.w, .int .i64 x.a, .bool x.u]
theorem Ew (x:Bi):(Cz x).length=3:=rfl
theorem Tryz.zl:(prog.info? 40).map (fun i=>(i.zero,i.size,i.bytes))=some (some (.agg #[.int .i64 0, .int .i64 0, .bool false]),3,24):=by kernel_rfl
theorem QQ (v:Value) (xs:List Bi) (w:World) (h:BJ 3 Cz w v xs) (hs:xs.length<=1048576):
 Calls prog 52 #[v] w fun e w'=>∃v',e= .returned v'/\AP w.heap.size 40 3 Cz w' v' xs/\Below w.heap.size w w':=by
 have a7:∀u∈Ch Cz xs,u.oneCell'=true:=by
  intro u hu;obtain⟨s,_,hs⟩:=wS.1 hu;simp[Cz] at hs
  rcases hs with rfl|rfl|rfl<;>rfl
 have h':=h;obtain⟨a,c,rfl,bs,al,hl,ay,hc⟩:=h';have hq:=fun w=>wL (P:=prog) w 30 40 a xs.length c 0 0 underlying30
 have bh:=AA a7;clear a7;cases a with
 |none=>have bw:=ay rfl;subst bw;have h0:xs=[]:=xT (by omega);subst h0;simp only[wP] at hq;go_in;go_wp2;go_ret;exact⟨_,rfl,xj _ _ _ _,yF _ _⟩
 |some ad=>clear hc ay;have bj:(Ch Cz xs).length=xs.length*3:=hl;have Hl:=AA bj;clear hl bj;go_in;go_wp2_with (refine Eg (lo:=w.heap.size) (v:= .slice (some ⟨w.heap.size,0,none⟩) 0 0) (n:=0) (xs:=[]) (m:=xs.length) (news:=Ch Cz xs) rfl rfl 40 (.agg #[.int .i64 0, .int .i64 0, .bool false]) 3 24 underlying30 Tryz.zl rfl (by decide) rfl (Cp _ _ _) rfl (Rd.alloc h _) bh.out (by unfold maxLen;omega) (by omega) (by simp) ?_;intro v' w' a6 _ ab);go_ret;refine⟨_,rfl,by simpa[AP] using a6,((yF _ _).alloc (yv _) _).trans ab⟩
theorem Tryz.zL:(prog.info? 9).map (fun i=>(i.zero,i.size,i.bytes))=some (some (.string ⟨#[]⟩),1,16):=by kernel_rfl
theorem OO (v:Value) (xs:List ByteArray) (w:World) (h:BJ 1 BB w v xs) (hs:xs.length<=1048576):
 Calls prog 114 #[v] w fun e w'=>∃v',e= .returned v'/\AP w.heap.size 9 1 BB w' v' xs/\Below w.heap.size w w':=by
 have a7:∀u∈Ch BB xs,u.oneCell'=true:=by intro u hu;obtain⟨s,_,hs⟩:=wS.1 hu;simp[BB] at hs;subst hs;rfl
 have h':=h;obtain⟨a,c,rfl,bs,al,hl,ay,hc⟩:=h';have hq:=fun w=>wL (P:=prog) w 60 9 a xs.length c 0 0 underlying60
 have bh:=AA a7;clear a7;cases a with
 |none=>have bw:=ay rfl;subst bw;have h0:xs=[]:=xT (by omega);subst h0;simp only[wP] at hq;go_in;go_wp2;go_ret;exact⟨_,rfl,xj _ _ _ _,yF _ _⟩
 |some ad=>clear hc ay;have bj:(Ch BB xs).length=xs.length*1:=hl;have Hl:=AA bj;clear hl bj;go_in;go_wp2_with (refine Eg (lo:=w.heap.size) (v:= .slice (some ⟨w.heap.size,0,none⟩) 0 0) (n:=0) (xs:=[]) (m:=xs.length) (news:=Ch BB xs) rfl rfl 9 (.string ⟨#[]⟩) 1 16 underlying60 Tryz.zL rfl (by decide) rfl (Cp _ _ _) rfl (Rd.alloc h _) bh.out (by unfold maxLen;omega) (by omega) (by simp) ?_;intro v' w' a6 _ ab);go_ret;refine⟨_,rfl,by simpa[AP] using a6,((yF _ _).alloc (yv _) _).trans ab⟩
theorem Tryz.infoRowsK:(prog.info? 29).map (fun i=>(i.zero,i.size,i.bytes))=some (some (.slice none 0 0),1,24):=by kernel_rfl
theorem Ls (v:Value) (xs:List Value) (w:World) (h:BJ 1 F3 w v xs) (hs:xs.length<=1048576) (a7:∀u∈Ch F3 xs,u.oneCell'=true):
 Calls prog 115 #[v] w fun e w'=>∃v',e= .returned v'/\AP w.heap.size 29 1 F3 w' v' xs/\Below w.heap.size w w':=by
 have h':=h;obtain⟨a,c,rfl,bs,al,hl,ay,hc⟩:=h';have hq:=fun w=>wL (P:=prog) w 23 29 a xs.length c 0 0 underlying23
 have bh:=AA a7;clear a7;cases a with
 |none=>have bw:=ay rfl;subst bw;have h0:xs=[]:=xT (by omega);subst h0;simp only[wP] at hq;go_in;go_wp2;go_ret;exact⟨_,rfl,xj _ _ _ _,yF _ _⟩
 |some ad=>clear hc ay;have bj:(Ch F3 xs).length=xs.length*1:=hl;have Hl:=AA bj;clear hl bj;go_in;go_wp2_with (refine Eg (lo:=w.heap.size) (v:= .slice (some ⟨w.heap.size,0,none⟩) 0 0) (n:=0) (xs:=[]) (m:=xs.length) (news:=Ch F3 xs) rfl rfl 29 (.slice none 0 0) 1 24 underlying23 Tryz.infoRowsK rfl (by decide) rfl (Cp _ _ _) rfl (Rd.alloc h _) bh.out (by unfold maxLen;omega) (by omega) (by simp) ?_;intro v' w' a6 _ ab);go_ret;refine⟨_,rfl,by simpa[AP] using a6,((yF _ _).alloc (yv _) _).trans ab⟩
end Go.Proofs.YtinbcpipjfljeaaGreatDoor
namespace Go.Proofs
open Go.Shelf
def Tryz.lays189_ren:Go.Shelf.Ren:=⟨fun|189=>131|125=>171|257=>170|128=>208|129=>209|294=>199|295=>200|296=>201|297=>202|298=>203|299=>204|216=>205|300=>206|301=>207|328=>236|329=>237|330=>238|331=>239|332=>240|215=>241|343=>266|n=>n,fun|28=>29|3=>3|46=>170|0=>0|51=>191|53=>193|4=>4|183=>184|182=>183|131=>80|5=>5|9=>9|218=>211|222=>206|228=>227|229=>160|n=>n,fun|n=>n⟩
theorem Tryz.lays189:Go.Proofs.Lays.n189 prog Tryz.lays189_ren:= {
 mixed:=by kernel_rfl
 f125:=func171.trans (congrArg some (by kernel_rfl))
 f128:=func208.trans (congrArg some (by kernel_rfl))
 f129:=func209.trans (congrArg some (by kernel_rfl))
 f189:=func131.trans (congrArg some (by kernel_rfl))
 f215:=func241.trans (congrArg some (by kernel_rfl))
 f216:=func205.trans (congrArg some (by kernel_rfl))
 f257:=func170.trans (congrArg some (by kernel_rfl))
 f294:=func199.trans (congrArg some (by kernel_rfl))
 f295:=func200.trans (congrArg some (by kernel_rfl))
 f296:=func201.trans (congrArg some (by kernel_rfl))
 f297:=func202.trans (congrArg some (by kernel_rfl))
 f298:=func203.trans (congrArg some (by kernel_rfl))
 f299:=func204.trans (congrArg some (by kernel_rfl))
 f300:=func206.trans (congrArg some (by kernel_rfl))
 f301:=func207.trans (congrArg some (by kernel_rfl))
 f328:=func236.trans (congrArg some (by kernel_rfl))
 f329:=func237.trans (congrArg some (by kernel_rfl))
 f330:=func238.trans (congrArg some (by kernel_rfl))
 f331:=func239.trans (congrArg some (by kernel_rfl))
 f332:=func240.trans (congrArg some (by kernel_rfl))
 f343:=func266.trans (congrArg some (by kernel_rfl))
 t0:=underlying0
 a0:=Tryz.isAgg0
 z0:=Tryz.sizeOf0
 v0:=Tryz.zeroValue0
 t3:=underlying3
 a3:=Tryz.isAgg3
 z3:=Tryz.sizeOf3
 v3:=Tryz.zeroValue3
 t4:=underlying4
 a4:=Tryz.isAgg4
 z4:=Tryz.sizeOf4
 v4:=Tryz.zeroValue4
 t5:=underlying5
 a5:=Tryz.isAgg5
 z5:=Tryz.sizeOf5
 v5:=Tryz.zeroValue5
 t9:=underlying9
 a9:=Tryz.isAgg9
 z9:=Tryz.sizeOf9
 v9:=Tryz.zeroValue9
 t28:=underlying29
 a28:=Tryz.isAgg29
 z28:=Tryz.sizeOf29
 v28:=Tryz.zeroValue29
 t46:=underlying170
 a46:=Tryz.isAgg170
 z46:=Tryz.sizeOf170
 v46:=Tryz.zeroValue170
 t51:=underlying191
 a51:=Tryz.isAgg191
 z51:=Tryz.sizeOf191
 v51:=Tryz.zeroValue191
 t53:=underlying193
 a53:=Tryz.isAgg193
 z53:=Tryz.sizeOf193
 v53:=Tryz.zeroValue193
 t131:=underlying80
 a131:=Tryz.isAgg80
 z131:=Tryz.sizeOf80
 v131:=Tryz.zeroValue80
 t182:=underlying183
 a182:=Tryz.isAgg183
 z182:=Tryz.sizeOf183
 v182:=Tryz.zeroValue183
 t183:=underlying184
 a183:=Tryz.isAgg184
 z183:=Tryz.sizeOf184
 v183:=Tryz.zeroValue184
 t218:=underlying211
 a218:=Tryz.isAgg211
 z218:=Tryz.sizeOf211
 v218:=Tryz.zeroValue211
 t222:=underlying206
 a222:=Tryz.isAgg206
 z222:=Tryz.sizeOf206
 v222:=Tryz.zeroValue206
 t228:=underlying227
 a228:=Tryz.isAgg227
 z228:=Tryz.sizeOf227
 v228:=Tryz.zeroValue227
 t229:=underlying160
 a229:=Tryz.isAgg160
 z229:=Tryz.sizeOf160
 v229:=Tryz.zeroValue160}
def Tryz.lays2n20_ren:Go.Shelf.Ren:=⟨fun|20=>132|n=>n,fun|22=>29|3=>3|4=>4|0=>0|n=>n,fun|n=>n⟩
theorem Tryz.lays2n20:Go.Proofs.Lays2.n20 prog Tryz.lays2n20_ren:= {
 mixed:=by kernel_rfl
 f20:=func132.trans (congrArg some (by kernel_rfl))
 t0:=underlying0
 a0:=Tryz.isAgg0
 z0:=Tryz.sizeOf0
 v0:=Tryz.zeroValue0
 t3:=underlying3
 a3:=Tryz.isAgg3
 z3:=Tryz.sizeOf3
 v3:=Tryz.zeroValue3
 t4:=underlying4
 a4:=Tryz.isAgg4
 z4:=Tryz.sizeOf4
 v4:=Tryz.zeroValue4
 t22:=underlying29
 a22:=Tryz.isAgg29
 z22:=Tryz.sizeOf29
 v22:=Tryz.zeroValue29
 i3:=by kernel_rfl}
def Tryz.lays107_ren:Go.Shelf.Ren:=⟨fun|107=>253|108=>269|n=>n,fun|28=>29|3=>3|4=>4|0=>0|n=>n,fun|n=>n⟩
theorem Tryz.lays107:Go.Proofs.Lays.n107 prog Tryz.lays107_ren:= {
 mixed:=by kernel_rfl
 f107:=func253.trans (congrArg some (by kernel_rfl))
 f108:=func269.trans (congrArg some (by kernel_rfl))
 t0:=underlying0
 a0:=Tryz.isAgg0
 z0:=Tryz.sizeOf0
 v0:=Tryz.zeroValue0
 t3:=underlying3
 a3:=Tryz.isAgg3
 z3:=Tryz.sizeOf3
 v3:=Tryz.zeroValue3
 t4:=underlying4
 a4:=Tryz.isAgg4
 z4:=Tryz.sizeOf4
 v4:=Tryz.zeroValue4
 t28:=underlying29
 a28:=Tryz.isAgg29
 z28:=Tryz.sizeOf29
 v28:=Tryz.zeroValue29}
def Tryz.lays160_ren:Go.Shelf.Ren:=⟨fun|160=>168|232=>193|231=>192|227=>194|234=>196|233=>195|236=>198|235=>197|228=>232|271=>235|151=>234|197=>233|120=>265|152=>264|260=>263|137=>274|119=>275|224=>276|225=>277|217=>282|266=>285|n=>n,fun|9=>9|4=>4|3=>3|5=>5|117=>178|116=>177|0=>0|124=>181|21=>21|105=>208|46=>170|119=>231|139=>234|138=>233|n=>n,fun|3=>0|4=>1|n=>n⟩
theorem Tryz.lays160:Go.Proofs.Lays.n160 prog Tryz.lays160_ren:= {
 mixed:=by kernel_rfl
 f119:=func275.trans (congrArg some (by kernel_rfl))
 f120:=func265.trans (congrArg some (by kernel_rfl))
 f137:=func274.trans (congrArg some (by kernel_rfl))
 f151:=func234.trans (congrArg some (by kernel_rfl))
 f152:=func264.trans (congrArg some (by kernel_rfl))
 f160:=func168.trans (congrArg some (by kernel_rfl))
 f197:=func233.trans (congrArg some (by kernel_rfl))
 f217:=func282.trans (congrArg some (by kernel_rfl))
 f224:=func276.trans (congrArg some (by kernel_rfl))
 f225:=func277.trans (congrArg some (by kernel_rfl))
 f227:=func194.trans (congrArg some (by kernel_rfl))
 f228:=func232.trans (congrArg some (by kernel_rfl))
 f231:=func192.trans (congrArg some (by kernel_rfl))
 f232:=func193.trans (congrArg some (by kernel_rfl))
 f233:=func195.trans (congrArg some (by kernel_rfl))
 f234:=func196.trans (congrArg some (by kernel_rfl))
 f235:=func197.trans (congrArg some (by kernel_rfl))
 f236:=func198.trans (congrArg some (by kernel_rfl))
 f260:=func263.trans (congrArg some (by kernel_rfl))
 f266:=func285.trans (congrArg some (by kernel_rfl))
 f271:=func235.trans (congrArg some (by kernel_rfl))
 t0:=underlying0
 a0:=Tryz.isAgg0
 z0:=Tryz.sizeOf0
 v0:=Tryz.zeroValue0
 t3:=underlying3
 a3:=Tryz.isAgg3
 z3:=Tryz.sizeOf3
 v3:=Tryz.zeroValue3
 t4:=underlying4
 a4:=Tryz.isAgg4
 z4:=Tryz.sizeOf4
 v4:=Tryz.zeroValue4
 t5:=underlying5
 a5:=Tryz.isAgg5
 z5:=Tryz.sizeOf5
 v5:=Tryz.zeroValue5
 t9:=underlying9
 a9:=Tryz.isAgg9
 z9:=Tryz.sizeOf9
 v9:=Tryz.zeroValue9
 t21:=underlying21
 a21:=Tryz.isAgg21
 z21:=Tryz.sizeOf21
 v21:=Tryz.zeroValue21
 t46:=underlying170
 a46:=Tryz.isAgg170
 z46:=Tryz.sizeOf170
 v46:=Tryz.zeroValue170
 t105:=underlying208
 a105:=Tryz.isAgg208
 z105:=Tryz.sizeOf208
 v105:=Tryz.zeroValue208
 t116:=underlying177
 a116:=Tryz.isAgg177
 z116:=Tryz.sizeOf177
 t117:=underlying178
 a117:=Tryz.isAgg178
 z117:=Tryz.sizeOf178
 v117:=Tryz.zeroValue178
 t119:=underlying231
 a119:=Tryz.isAgg231
 z119:=Tryz.sizeOf231
 t124:=underlying181
 a124:=Tryz.isAgg181
 z124:=Tryz.sizeOf181
 v124:=Tryz.zeroValue181
 t138:=underlying233
 a138:=Tryz.isAgg233
 z138:=Tryz.sizeOf233
 v138:=Tryz.zeroValue233
 t139:=underlying234
 a139:=Tryz.isAgg234
 z139:=Tryz.sizeOf234
 v139:=Tryz.zeroValue234
 g3:=by kernel_rfl
 g4:=by kernel_rfl}
def Tryz.lays99_ren:Go.Shelf.Ren:=⟨fun|99=>83|206=>140|n=>n,fun|9=>9|4=>4|3=>3|n=>n,fun|n=>n⟩
theorem Tryz.lays99:Go.Proofs.Lays.n99 prog Tryz.lays99_ren:= {
 mixed:=by kernel_rfl
 f99:=func83.trans (congrArg some (by kernel_rfl))
 f206:=func140.trans (congrArg some (by kernel_rfl))
 t3:=underlying3
 a3:=Tryz.isAgg3
 z3:=Tryz.sizeOf3
 v3:=Tryz.zeroValue3
 t4:=underlying4
 a4:=Tryz.isAgg4
 z4:=Tryz.sizeOf4
 v4:=Tryz.zeroValue4
 t9:=underlying9
 a9:=Tryz.isAgg9
 z9:=Tryz.sizeOf9
 v9:=Tryz.zeroValue9}
end Go.Proofs
namespace Go.Proofs.YtinbcpipjfljeaaGreatDoor
open Go.Proofs.Tryz
open Go.RowKit Go.Shelf
theorem Qu (l cs:List UInt8):Lib.trimLeftS l cs=[]↔∀b∈l,cs.contains b=true:=by
 unfold Lib.trimLeftS
 induction l with
 |nil=>simp
 |cons x l ih=>
  rw[tL]
  by_cases hx:cs.contains x=true
  .rw[if_pos hx,ih]
   constructor
   .intro h b hb
    rcases List.mem_cons.1 hb with e|e
    .subst e;exact hx
    .exact h b e
   .intro h b hb
    exact h b (uO _ hb)
  .rw[if_neg hx]
   constructor
   .intro h;cases h
   .intro h;exact absurd (h x vY) hx
theorem ZC (l cs:List UInt8):uR l cs=[]↔∀b∈l,cs.contains b=true:=by
 unfold uR;rw[Qu];unfold Lib.trimRightS;constructor
 .intro h b hb
  by_cases hc:cs.contains b=true
  .exact hc
  .refine h b ?_
   have h2:b∈l.reverse:=vx.2 hb;have:∀l':List UInt8,b∈l'->b∈l'.dropWhile (cs.contains ·):=by
    intro l'
    induction l' with
    |nil=>intro h;exact h
    |cons x l' ih=>
     intro h;rw[tL]
     split
     .next hx=>
      rcases List.mem_cons.1 h with e|e
      .subst e;exact absurd hx hc
      .exact ih e
     .exact h
   exact vx.2 (this _ h2)
 .intro h b hb
  exact h b (vx.1 ((List.dropWhile_sublist _).subset (vx.1 hb)))
theorem PV (c:UInt8):([97,98,99]:List UInt8).contains c=E9 c:=by
 have h:∀n:Fin 256,([97,98,99]:List UInt8).contains ⟨⟨n⟩⟩=E9 ⟨⟨n⟩⟩:=by decide+kernel
 exact h c.toBitVec.toFin
theorem TN (s:ByteArray) (h:s.size<=4):(uK ⟨(uR s.data.toList [97,98,99]).toArray⟩= .string ⟨#[]⟩)↔BN s=true:=by
 have e:BN s=s.data.toList.all E9:=by simp[BN,h]
 rw[e,yk];have t:=ZC s.data.toList [97,98,99];constructor
 .intro hv b hb
  have:uR s.data.toList [97,98,99]=[]:=by simp only[Value.string.injEq,ByteArray.mk.injEq] at hv;have:=congrArg Array.toList hv;simpa using this
  rw[<-PV];exact t.1 this b hb
 .intro ha
  rw[t.2 (fun b hb=>by rw[PV];exact ha b hb)]
theorem isEmpty_iff (r:ByteArray):r.toList.isEmpty=true↔r=⟨#[]⟩:=by rw[xz,List.isEmpty_iff];obtain⟨⟨l⟩⟩:=r;simp
theorem Ff (s:ByteArray) (w:World) (hs:s.size<=maxLen):
 Calls prog 127 #[.string s] w fun e w'=>e= .returned (.bool (BN s))/\Below w.heap.size w w':=by
 unfold maxLen at hs
 by_cases h4:s.size<=4
 .have cd:=Any.strings_Trim_laid Tryz.lays160 (by kernel_rfl) s ⟨#[97,98,99]⟩ w (by omega) (by decide) (ascii_of_all (by decide))
  change Calls prog 168 _ _ (fun e w'=>e= .returned (.string ⟨(uR s.data.toList [97,98,99]).toArray⟩)/\Below w.heap.size w w') at cd
  have R:=AA (TN s h4);have i4:(s.size:Int)<=4:=by omega
  generalize(⟨(uR s.data.toList [97,98,99]).toArray⟩:ByteArray)=r at cd R;go_in;go_wp2_with fail;refine cd.mono ?_;rintro e w1 ⟨rfl,hb⟩;have S:Hid (r.toList.isEmpty=BN s):=AA (by rw[Bool.eq_iff_iff,<-R.out,isEmpty_iff];simp)
  go_wp2_with fail;go_ret;exact⟨AI S.out,hb⟩
 .have S:=AA (show BN s=false by simp[BN,h4])
  have i4:¬(s.size:Int)<=4:=by omega
  go_in;go_wp2_with fail;go_ret;exact⟨AI S.out.symm,yF _ _⟩
end Go.Proofs.YtinbcpipjfljeaaGreatDoor
namespace Go.Proofs.YtinbcpipjfljeaaGreatDoor
open Go.Proofs.Tryz Go.RowKit Go.Shelf Go.Sort
def Ay (ns:List Nat):List Int:=ns.map fun n:Nat=>(n:Int)
theorem Cc (ns:List Nat):(Ay ns).length=ns.length:=by simp[Ay]
theorem Pb {k:Nat} (h:k<ns.length):nth (Ay ns) k=((ns.getD k 0:Nat):Int):=by simp[nth,Ay,h]
theorem KL {g:Nat}:(g:Int)∈Ay ns↔g∈ns:=by
 simp only[Ay,vH];constructor
 .rintro⟨a,h,e⟩
  have:a=g:=by omega
  subst this;exact h
 .exact fun h=>⟨g,h,rfl⟩
theorem Rk {lo e:Nat} {w:World} {xs:List Value} (h:w.ownsRow lo e 1 v n xs) (hn:0<n):∃g ax bD,v= .slice (some ⟨g,0,none⟩) n ax/\lo<=g/\w.heap[g]? =some (.cells bD e (0,0))/\n<=ax/\ax<=maxLen/\bD.size=ax*1/\bD.toList.take (n*1)=xs:=by
 rcases h.2 with⟨rfl,rfl⟩|⟨g,ax,bD,rfl,hb,hg,bs,al,b0,htake⟩
 .have:=h.1;simp at this;omega
 .exact⟨g,ax,bD,rfl,hb,hg,bs,al,b0,htake⟩
theorem MR {lo:Nat} (v:Value) (ns:List Nat) (w:World) (h:AG lo w v (Ay ns)) (hs:ns.length<=1048576):
 Calls prog 131 #[v] w fun e w'=>e= .returned (.tuple #[])/\∃ts:List Nat,ts.length=ns.length/\(∀g,g∈ts↔g∈ns)/\AG lo w' v (Ay ts)/\w.grownBy w' v.ownBlock:=by
 by_cases h0:ns.length=0
 .obtain rfl:ns=[]:=xT h0
  obtain⟨a,c,rfl,_⟩:=h.rd.open;refine(Any.slices_Sort_int_none Tryz.lays189 a c w).mono ?_;rintro e w' ⟨rfl,rfl⟩;exact⟨rfl,[],rfl,fun _=>Iff.rfl,h,⟨rfl,rfl,rfl,yv _,fun _ _ _=>rfl⟩⟩
 .obtain⟨g,ax,bD,rfl,hg,hb,bs,al,b0,ht⟩:=Rk h (by rw[Cc];omega)
  have hH:=holds_of_blockI (ss:=Ay ns) hb (by simpa using ht);have hl:(ns.mergeSort fun x y=>decide (x<=y)).length=ns.length:=List.length_mergeSort _;have e1:(Ay ns).mergeSort (fun x y=>decide (x<=y))=Ay (ns.mergeSort fun x y=>decide (x<=y)):=by unfold Ay;rw[List.map_mergeSort];intro a _ b _;simp
  refine(Any.slices_Sort_int Tryz.lays189 g 0 ax (Ay ns) w hH (wm.1 hb).1 (by rw[Cc];omega)).mono ?_;rintro e w' ⟨rfl,nn,os,rfl⟩;rw[e1];refine⟨rfl,_,hl,fun g=>List.mem_mergeSort,?_,grownBy_sortedI _⟩;have:=ownsRow_sortedI (n:=nn) (os:=os) (ss:=Ay ns) (ts:=Ay (ns.mergeSort fun x y=>decide (x<=y))) (by rw[Cc,Cc];exact hl) hg hb bs al b0;have el:(Ay (ns.mergeSort fun x y=>decide (x<=y))).length=(Ay ns).length:=by rw[Cc,Cc];exact hl
  unfold AG;rw[el];exact this
theorem Ts (d:Array Int):∀m,m<=d.size->∀x,x∈ux d m↔∃j,j<m/\d[j]! =x:=by
 intro m
 induction m with
 |zero=>intro _ x;simp[ux]
 |succ m ih=>
  intro hm x;rw[Lib.compactUpTo_succ,wu,ih (by omega)];cases hk:Lib.keeps d m
  .have dA:m≠0/\d[m]! =d[m - 1]! :=by
    unfold Lib.keeps at hk;simp at hk;exact⟨by omega,hk.2⟩
   constructor
   .rintro(⟨j,hj,h⟩|h)
    .exact⟨j,by omega,h⟩
    .simp at h
   .rintro⟨j,hj,h⟩
    by_cases e:j=m
    .subst e;exact .inl ⟨j - 1,by omega,by rw[<-dA.2];exact h⟩
    .exact .inl ⟨j,by omega,h⟩
  .constructor
   .rintro(⟨j,hj,h⟩|h)
    .exact⟨j,by omega,h⟩
    .simp at h;exact⟨m,by omega,h.symm⟩
   .rintro⟨j,hj,h⟩
    by_cases e:j=m
    .subst e;exact .inr (by simp[h])
    .exact .inl ⟨j,by omega,h⟩
theorem MX (zs:List Int) (x:Int):x∈wZ zs↔x∈zs:=by
 unfold wZ;rw[Ts _ _ (by simp)];constructor
 .rintro⟨j,hj,rfl⟩
  simp[hj]
 .intro h
  obtain⟨j,hj,rfl⟩:=List.getElem_of_mem h;exact⟨j,hj,by simp[hj]⟩
theorem VJ (zs:List Int):(wZ zs).length<=zs.length:=by unfold wZ ux;rw[uo];exact yD (List.length_filter_le _ _) (by simp)
theorem WT {zs:List Int} (h:∀z∈zs,0<=z):Ay (zs.map Int.toNat)=zs:=by
 unfold Ay;rw[List.map_map]
 conv=>rhs;rw[<-List.map_id zs]
 exact List.map_congr_left fun z hz=>by have:=h z hz;simp;omega
theorem Vu {lo e k:Nat} {w:World} {g ax:Nat} {xs:List Value} (h:w.ownsRow lo e 1 (.slice (some ⟨g,0,none⟩) n ax) n xs) (hk:k<=n):w.ownsRow lo e 1 (.slice (some ⟨g,0,none⟩) k ax) k (xs.take k):=by
 rcases h.2 with⟨h0,_⟩|⟨g',cap',bD,hv,hb,hg,bs,al,b0,htake⟩
 .cases h0
 .cases hv
  refine⟨by have:=h.1;simp at this;simp[this];omega, .inr ⟨g,ax,bD,rfl,hb,hg,by omega,al,b0,?_⟩⟩;rw[<-htake,sU,vV,vV,ue hk]
theorem Ka {lo:Nat} (v:Value) (ns:List Nat) (w:World) (h:AG lo w v (Ay ns)) (hs:ns.length<=1048576):
 Calls prog 132 #[v] w fun e w'=>∃v',e= .returned v'/\v'.ownBlock=v.ownBlock/\∃ts:List Nat,ts.length<=ns.length/\(∀g,g∈ts↔g∈ns)/\AG lo w' v' (Ay ts)/\w.grownBy w' v.ownBlock:=by
 by_cases h0:ns.length=0
 .obtain rfl:ns=[]:=xT h0
  obtain⟨a,c,rfl,_⟩:=h.rd.open;refine(Any.slices_Compact_int_empty Tryz.lays2n20 a c w).mono ?_;rintro e w' ⟨rfl,rfl⟩;exact⟨_,rfl,rfl,[],yv _,fun _=>Iff.rfl,h,⟨rfl,rfl,rfl,yv _,fun _ _ _=>rfl⟩⟩
 .obtain⟨g,ax,bD,rfl,hg,hb,bs,al,b0,ht⟩:=Rk h (by rw[Cc];omega)
  have hH:=holds_of_blockI (ss:=Ay ns) hb (by simpa using ht);have ct:∀z∈wZ (Ay ns),0<=z:=by intro z hz;rw[MX] at hz;obtain⟨n,_,rfl⟩:=vH.1 hz;omega
  refine(Any.slices_Compact_int Tryz.lays2n20 g 0 ax (Ay ns) w hH (by rw[Cc];omega) bs).mono ?_;rintro e w' ⟨rfl,nn,rfl⟩;have cO:=VJ (Ay ns);have hO:=ownsRow_sortedI (n:=nn) (os:= #[]) (ss:=Ay ns) (ts:=wZ (Ay ns)++xX ((Ay ns).length - (wZ (Ay ns)).length) 0) (by simp;omega) hg hb bs al b0;have hG:=grownBy_sortedI (w:=w) (g:=g) (n:=nn) (os:= #[]) (wZ (Ay ns)++xX ((Ay ns).length - (wZ (Ay ns)).length) 0).toArray;rw[grow_empty] at hO hG;refine⟨_,rfl,rfl,(wZ (Ay ns)).map Int.toNat,by rw[uo];rw[Cc] at cO;exact cO,fun g=>?_,?_,hG⟩
  .rw[<-KL,WT ct,MX,KL]
  .rw[WT ct]
   have hP:=Vu hO cO;unfold AG;have e:((wZ (Ay ns)++xX ((Ay ns).length - (wZ (Ay ns)).length) 0).map (yf .i64)).take (wZ (Ay ns)).length=(wZ (Ay ns)).map (yf .i64):=by rw[xH,td (by simp)]
   rw[e] at hP;exact hP
theorem ND (v:Value) (ns:List Nat) (x:Int) (w:World) (h:Ax w v (Ay ns)):
 Calls prog 253 #[v, .int .i64 x] w fun e w'=>e= .returned (.bool ((Ay ns).contains x))/\w=w':=by
 obtain⟨a,c,rfl,hc,al,H0⟩:=h.open;unfold maxLen at al
 by_cases h0:ns.length=0
 .obtain rfl:ns=[]:=xT h0
  refine(Any.slices_Contains_int_empty Tryz.lays107 a c x w).mono ?_;rintro e w' ⟨rfl,rfl⟩;exact⟨rfl,rfl⟩
 .obtain⟨b,aq,rfl,a8⟩:=H0 0 (by rw[Cc];omega)
  refine(Any.slices_Contains_int Tryz.lays107 b aq (Ay ns).length c (Ay ns) x w (yv _) (by omega) (fun j hj=>a8 j hj)).mono ?_;rintro e w' ⟨rfl,rfl⟩;rw[xt];exact⟨rfl,rfl⟩
theorem QR (s p:ByteArray) (w:World):Calls prog 83 #[.string s, .string p] w fun e w'=>e= .returned (.bool (Ku p s))/\w=w':=by refine(Any.strings_HasPrefix Tryz.lays99 s p w).mono ?_;rintro e w' ⟨rfl,rfl⟩;exact⟨rfl,rfl⟩
end Go.Proofs.YtinbcpipjfljeaaGreatDoor
namespace Go.Proofs.YtinbcpipjfljeaaGreatDoor
open Go.Proofs.Tryz Go.RowKit
theorem OL (r:List Int):KX r=Dh r:=by
 unfold KX Dh;rw[Bool.and_comm]
 congr 1
theorem MT {α:Type} {p:α->Bool} {l:List α}:(!l.any fun x=>!p x)=l.all p:=by simp[List.all_eq_not_any_not]
theorem NG (u:Value) (r:List Int) (w:World) (h:Ax w u r):Calls prog 123 #[u] w fun e w'=>e= .returned (.bool (!Dh r))/\Below w.heap.size w w':=by have C:=AA (Nu u r w h);clear h;go_in;go_wp2_with (refine(C.out).mono ?_;rintro e w' ⟨rfl,rfl⟩;rw[OL]);go_ret;exact⟨rfl,yF _ _⟩
theorem NH (v:Value) (m:List (List Int)) (w:World) (h:Bc w v m):Calls prog 67 #[v] w fun e w'=>e= .returned (.bool (Bs m))/\Below w.heap.size w w':=by
 have C:=AA (IL 123 #[] (fun r=>!Dh r) v m w h (fun _ _=>by kernel_rfl) (fun u r _ W _ hr=>NG u r W hr));obtain⟨a,c,rfl,hc,al,_⟩:=h.open;clear h;unfold maxLen at al
 by_cases h4:m.length=12
 .have S:=AA (show(!m.any fun r=>!Dh r)=Bs m by rw[MT];simp[Bs,h4])
  have hb:((m.length:Int)==12)=true:=by simp[h4]
  clear h4;go_in;go_wp2_with (refine(C.out).mono ?_;rintro e w' ⟨rfl,ac⟩);go_ret;exact⟨AI S.out,ac⟩
 .have S:=AA (show Bs m=false by simp[Bs,h4])
  have hb:((m.length:Int)==12)=false:=by simp;omega
  clear h4;go_in;go_wp2_with fail;go_ret;exact⟨AI S.out.symm,yF _ _⟩
def Ix (r:List Int):Bool:=r.isEmpty||Dh r
theorem TY {r:List Int} (h:0<r.length):Ix r=Dh r:=by cases r with|nil=>simp at h|cons=>simp[Ix]
theorem TW {r:List Int} (h:¬0<r.length):Ix r=true:=by cases r with|nil=>simp[Ix]|cons=>simp at h
theorem Ov (u:Value) (r:List Int) (w:World) (h:Ax w u r):Calls prog 78 #[u] w fun e w'=>e= .returned (.bool (!Ix r))/\Below w.heap.size w w':=by
 have C:=AA (Nu u r w h);obtain⟨a,c,rfl,hc,al,_⟩:=h.open;clear h;unfold maxLen at al
 by_cases h0:0<r.length
 .have S:=AA (show(!Ix r)=!Dh r by rw[TY h0])
  have hb:(0:Int)<(r.length:Int):=by omega
  go_in;go_wp2_with (refine(C.out).mono ?_;rintro e w' ⟨rfl,rfl⟩;rw[OL]);go_ret;exact⟨AI S.out.symm,yF _ _⟩
 .have S:=AA (show(!Ix r)=false by rw[TW h0];rfl)
  have hb:¬(0:Int)<(r.length:Int):=by omega
  go_in;go_wp2_with fail;go_ret;exact⟨AI S.out.symm,yF _ _⟩
theorem Ow (v:Value) (m:List (List Int)) (w:World) (h:Bc w v m):Calls prog 31 #[v] w fun e w'=>e= .returned (.bool (Ey m))/\Below w.heap.size w w':=by
 have C:=AA (IL 78 #[] (fun r=>!Ix r) v m w h (fun _ _=>by kernel_rfl) (fun u r _ W _ hr=>Ov u r W hr));obtain⟨a,c,rfl,hc,al,_⟩:=h.open;clear h;unfold maxLen at al
 by_cases h4:m.length=16
 .have S:=AA (show(!m.any fun r=>!Ix r)=Ey m by rw[MT];simp[Ey,h4];rfl)
  have hb:((m.length:Int)==16)=true:=by simp[h4]
  clear h4;go_in;go_wp2_with (refine(C.out).mono ?_;rintro e w' ⟨rfl,ac⟩);go_ret;exact⟨AI S.out,ac⟩
 .have S:=AA (show Ey m=false by simp[Ey,h4])
  have hb:((m.length:Int)==16)=false:=by simp;omega
  clear h4;go_in;go_wp2_with fail;go_ret;exact⟨AI S.out.symm,yF _ _⟩
def Hz (xs:List AU):Prop:=∀x∈xs,x.g.size<=maxLen
def X0 (x:AU):Bool:=Bd x.k 1 3&&BN x.g&&Bd x.r 0 50
theorem UI:DH AU.zero=true:=by simp[DH]
theorem MB {x:AU} (h:x≠AU.zero):DH x=X0 x:=by simp[DH,h,X0]
theorem Va (x:AU) (w:World) (hs:x.g.size<=maxLen):Calls prog 88 #[x.val] w fun e w'=>e= .returned (.bool (DH x))/\Below w.heap.size w w':=by
 obtain⟨k,g,r⟩:=x;simp only[AU.val];simp only at hs;have C:=AA (fun W=>Ff g W hs);clear hs;have dt:∀(b:Bool),b=false->DH ⟨k,g,r⟩=DH ⟨k,g,r⟩:=fun _ _=>rfl
 clear dt;have CW:=AA (fun n lo hi W=>Do n lo hi W)
 by_cases hk:k=0
 .subst hk
  by_cases hg:g.toList=[]
  .by_cases hr:r=0
   .have S:=AA (show DH ⟨0,g,r⟩=true by
     have:g=⟨#[]⟩:=by rw[xz] at hg;cases g;simp at hg;rw[hg]
     rw[hr,this];exact UI)
    go_in;go_wp2_with fail;go_ret;exact⟨AI S.out.symm,AD _ _⟩
   .have S:=AA (show DH ⟨0,g,r⟩=false by rw[MB (by intro e;simp[AU.zero] at e;exact hr e.2)];simp[X0,Bd])
    have H:=AA (show Bd 0 1 3=false from rfl);go_in;go_wp2_with (refine(CW.out _ _ _ _).mono ?_;rintro e w' ⟨rfl,rfl⟩;rw[H.out]);go_ret;exact⟨AI S.out.symm,AD _ _⟩
  .have S:=AA (show DH ⟨0,g,r⟩=false by rw[MB (by intro e;simp[AU.zero] at e;exact hg (by rw[e.1,xz]))];simp[X0,Bd])
   have H:=AA (show Bd 0 1 3=false from rfl);go_in;go_wp2_with (refine(CW.out _ _ _ _).mono ?_;rintro e w' ⟨rfl,rfl⟩;rw[H.out]);go_ret;exact⟨AI S.out.symm,AD _ _⟩
 .have S:=AA (show DH ⟨k,g,r⟩=X0 ⟨k,g,r⟩ from MB (by intro e;simp[AU.zero] at e;exact hk e.1))
  cases h1:Bd k 1 3
  .have T:=AA (show X0 ⟨k,g,r⟩=false by simp[X0,h1])
   have H:=AA h1;clear h1;go_in;go_wp2_with (refine(CW.out _ _ _ _).mono ?_;rintro e w' ⟨rfl,rfl⟩;rw[H.out]);go_ret;exact⟨AI (S.out.trans T.out).symm,AD _ _⟩
  .cases h2:BN g
   .have T:=AA (show X0 ⟨k,g,r⟩=false by simp[X0,h2])
    have H:=AA h1;clear h1;have H2:=AA h2;clear h2;go_in;go_wp2_with (first|(refine(CW.out _ _ _ _).mono ?_;rintro e w' ⟨rfl,rfl⟩;rw[H.out])|(refine(C.out _).mono ?_;rintro e w' ⟨rfl,hb⟩;rw[H2.out]));go_ret;exact⟨AI (S.out.trans T.out).symm,(AD _ _).trans (hb.mono (AD _ _).size)⟩
   .have T:=AA (show X0 ⟨k,g,r⟩=Bd r 0 50 by simp[X0,h1,h2])
    have H:=AA h1;clear h1;have H2:=AA h2;clear h2;go_in;go_wp2_with fail;refine(CW.out _ _ _ _).mono ?_;rintro e w' ⟨rfl,rfl⟩;rw[H.out];go_wp2_with fail;refine(C.out _).mono ?_;rintro e w' ⟨rfl,hb⟩;rw[H2.out];have hz:w.heap.size<w'.heap.size:=by have:=hb.size;simp at this;omega
    obtain⟨hc,hf⟩:=Zy hb;go_wp2_with fail;refine(CW.out _ _ _ _).mono ?_;rintro e w' ⟨rfl,rfl⟩;go_wp2_with fail;go_ret;exact⟨AI (S.out.trans T.out).symm,(AD _ _).trans (hb.mono (AD _ _).size)⟩
theorem OP (x:AU) (w:World) (hs:x.g.size<=maxLen):Calls prog 87 #[x.val] w fun e w'=>e= .returned (.bool (!DH x))/\Below w.heap.size w w':=by
 have C:=AA (fun W=>Va x W hs);obtain⟨k,g,r⟩:=x;simp only[AU.val] at C ⊢;go_in;go_wp2_with (refine(C.out _).mono ?_;rintro e w' ⟨rfl,hb⟩);go_ret;exact⟨rfl,(AD _ _).trans (hb.mono (AD _ _).size)⟩
theorem Fd (v:Value) (xs:List AU) (w:World) (h:BU w v xs) (hs:Hz xs):Calls prog 38 #[v] w fun e w'=>e= .returned (.bool (BK xs))/\Below w.heap.size w w':=by
 have C:=AA (Kj 87 #[] (fun x=>!DH x) v xs w h (fun _ _=>by kernel_rfl) (fun x hx W _=>OP x W (hs x hx)));obtain⟨a,c,rfl,hc,al⟩:=h.shape;clear h hs;unfold maxLen at al
 by_cases h4:xs.length=12
 .have S:=AA (show(!xs.any fun x=>!DH x)=BK xs by rw[MT];simp[BK,h4])
  have hb:((xs.length:Int)==12)=true:=by simp[h4]
  clear h4;go_in;go_wp2_with (refine(C.out).mono ?_;rintro e w' ⟨rfl,ac⟩);go_ret;exact⟨AI S.out,ac⟩
 .have S:=AA (show BK xs=false by simp[BK,h4])
  have hb:((xs.length:Int)==12)=false:=by simp;omega
  clear h4;go_in;go_wp2_with fail;go_ret;exact⟨AI S.out.symm,yF _ _⟩
theorem PI (x:AU) (w:World):Calls prog 117 #[x.val] w fun e w'=>e= .returned (.bool (decide (x.k=0)))/\Below w.heap.size w w':=by obtain⟨k,g,r⟩:=x;simp only[AU.val];have S:=AA (show(k==0)=decide (k=0) by cases h:(k==0)<;>simp_all);go_in;go_wp2_with fail;go_ret;exact⟨AI S.out,AD _ _⟩
theorem Jm (v:Value) (xs:List AU) (w:World) (h:BU w v xs):Calls prog 53 #[v] w fun e w'=>e= .returned (.int .i64 (Am xs))/\Below w.heap.size w w':=by
 have C:=AA (JZ 117 #[] (fun x=>decide (x.k=0)) v xs w h (fun _ _=>by kernel_rfl) (fun x _ W _=>PI x W));obtain⟨a,c,rfl,hc,al⟩:=h.shape;clear h;go_in;go_wp2_with (refine(C.out).mono ?_;rintro e w' ⟨rfl,ac⟩);go_ret;exact⟨rfl,ac⟩
theorem Yk (s g:ByteArray) (b:Nat) (w:World) (h:w.cell? ⟨b,0,none⟩=some (.string g)):Calls prog 82 #[.string s, .pointer (some ⟨b,0,none⟩)] w fun e w'=>e= .returned (.bool (Ku s g))/\Below w.heap.size w w':=by go_in;go_wp2_with (refine(QR _ _ _).mono ?_;rintro e w' ⟨rfl,rfl⟩);go_ret;exact⟨rfl,yF _ _⟩
theorem Oc (v:Value) (ss:List ByteArray) (g:ByteArray) (w:World) (h:BP w v ss):Calls prog 33 #[v, .string g] w fun e w'=>e= .returned (.bool (Bv ss g))/\Below w.heap.size w w':=by
 have b1:=AD w (.cells #[.string g] 9);have cg:(w.alloc (.cells #[.string g] 9)).cell? ⟨w.heap.size,0,none⟩=some (.string g):=yi _ _ 0 _ _ _ (yw _ _);have C:=AA (J7 82 #[.pointer (some ⟨w.heap.size,0,none⟩)] (fun s=>Ku s g) v ss _ (BJ.below h b1) (fun _ _=>by kernel_rfl) (fun s _ W hW=>Yk s g _ W ((hW.cell (yC _ _ cg)).trans cg)));obtain⟨a,c,rfl,hc,al⟩:=h.shape;clear h cg;go_in;go_wp2_with (refine(C.out).mono ?_;rintro e w' ⟨rfl,ac⟩);go_ret;exact⟨rfl,b1.trans (ac.mono b1.size)⟩
def QD (xs:List AU) (g:ByteArray):List AU:=xs.set (Am xs).toNat ⟨1,g,0⟩
theorem Ol (v:Value) (xs:List AU) (g:ByteArray) (w:World) (h:BU w v xs) (hs:Hz xs) (hg:g.size<=maxLen) (am:BK xs=true) (hr:BN g=true) (hf:Am xs<0):
 Calls prog 220 #[v, .string g] w fun e w'=>e= .returned (.tuple #[.slice none 0 0, .int .i64 0, .bool false])/\Below w.heap.size w w':=by
 have C1:=AA (fun W (hW:Below w.heap.size w W)=>Fd v xs W (BJ.below h hW) hs);have C2:=AA (fun W=>Ff g W hg);have C3:=AA (fun W (hW:Below w.heap.size w W)=>Jm v xs W (BJ.below h hW));have Ok:=AA am;have Hr:=AA hr;clear am hr h hs hg;go_in;go_wp2_with fail;refine(C1.out _ (yF _ _)).mono ?_;rintro e w1 ⟨rfl,bd⟩;rw[Ok.out];go_wp2_with fail;refine(C2.out _).mono ?_;rintro e w2 ⟨rfl,ac⟩;rw[Hr.out];replace ac:=bd.trans (ac.mono bd.size);clear bd;go_wp2_with fail;refine(C3.out _ ac).mono ?_;rintro e w3 ⟨rfl,ba⟩;replace ba:=ac.trans (ba.mono ac.size);clear ac;go_wp2_with fail;go_ret3;exact⟨rfl,ba⟩
theorem Om (v:Value) (xs:List AU) (g:ByteArray) (w:World) (h:BU w v xs) (hs:Hz xs) (hg:g.size<=maxLen) (am:BK xs=true) (hr:BN g=true) (hf:0<=Am xs):
 Calls prog 220 #[v, .string g] w fun e w'=>∃v',e= .returned (.tuple #[v', .int .i64 (Am xs), .bool true])/\AP w.heap.size 93 3 A2 w' v' (QD xs g)/\Below w.heap.size w w':=by
 have C1:=AA (fun W (hW:Below w.heap.size w W)=>Fd v xs W (BJ.below h hW) hs);have C2:=AA (fun W=>Ff g W hg);have C3:=AA (fun W (hW:Below w.heap.size w W)=>Jm v xs W (BJ.below h hW));have hl:xs.length=12:=(A0.1 am).1;have C4:=AA (fun W (hW:Below w.heap.size w W)=>Jk v xs W (BJ.below h hW) (by omega));have Ok:=AA am;have Hr:=AA hr;have dh:(Am xs).toNat<xs.length:=(FO (by omega)).1;have Hl:=AA hl;clear am hr h hs hg hl;go_in;go_wp2_with fail;refine(C1.out _ (yF _ _)).mono ?_;rintro e w1 ⟨rfl,bd⟩;rw[Ok.out];go_wp2_with fail;refine(C2.out _).mono ?_;rintro e w2 ⟨rfl,ac⟩;rw[Hr.out];replace ac:=bd.trans (ac.mono bd.size);clear bd;go_wp2_with fail;refine(C3.out _ ac).mono ?_;rintro e w3 ⟨rfl,ba⟩;replace ba:=ac.trans (ba.mono ac.size);clear ac;go_wp2_with fail;refine(C4.out _ ba).mono ?_;rintro e w4 ⟨v',rfl,hO,b6⟩;obtain⟨q,ax,rfl,c1,c2,q1,q2,df⟩:=hO.zO (by omega);unfold maxLen at c2;have hS:=AA (AP.stored Az hO dh ⟨1,g,0⟩);obtain⟨d0,d1,d2⟩:=AP.zR hO dh;have hB:=AA (AM (ba.trans (b6.mono ba.size)) hS.out.2 (yD ba.size q1) (ba.trans (b6.mono ba.size)).size);have bt:=ba.size;clear hO b6 ba;have dZ:Am xs<xs.length:=by omega
 go_wp2_with fail;go_ret3;exact⟨_,rfl,hS.out.1.lower bt,hB.out⟩
theorem WQ (a b:Int):(a==b)=decide (a=b):=by cases h:(a==b)<;>simp_all
theorem MZ (x:Ak) (w:World):Calls prog 124 #[x.val] w fun e w'=>e= .returned (.bool (CU x))/\Below w.heap.size w w':=by
 obtain⟨e,p,f,b⟩:=x;simp only[Ak.val];have C1:=AA (fun W=>XH e W);have C2:=AA (fun W=>MD p W);have C3:=AA (fun W=>Em f W);cases h1:Bd e 0 2
 .have S:=AA (show CU ⟨e,p,f,b⟩=false by simp[CU,h1])
  have H1:=AA h1;clear h1;go_in;go_wp2_with (refine(C1.out _).mono ?_;rintro e w' ⟨rfl,rfl⟩;rw[H1.out]);go_ret;exact⟨AI S.out.symm,AD _ _⟩
 .cases h2:Bd p 0 15
  .have S:=AA (show CU ⟨e,p,f,b⟩=false by simp[CU,h2])
   have H1:=AA h1;clear h1;have H2:=AA h2;clear h2;go_in;go_wp2_with (first|(go_at_call 165;refine(C1.out _).mono ?_;rintro e w' ⟨rfl,rfl⟩;rw[H1.out])|(go_at_call 21;refine(C2.out _).mono ?_;rintro e w' ⟨rfl,rfl⟩;rw[H2.out]));go_ret;exact⟨AI S.out.symm,AD _ _⟩
  .have S:=AA (show CU ⟨e,p,f,b⟩=Bd f 0 11 by simp[CU,h1,h2])
   have H1:=AA h1;clear h1;have H2:=AA h2;clear h2;go_in;go_wp2_with (first|(go_at_call 165;refine(C1.out _).mono ?_;rintro e w' ⟨rfl,rfl⟩;rw[H1.out])|(go_at_call 21;refine(C2.out _).mono ?_;rintro e w' ⟨rfl,rfl⟩;rw[H2.out])|(go_at_call 71;refine(C3.out _).mono ?_;rintro e w' ⟨rfl,rfl⟩));go_ret;exact⟨AI S.out.symm,AD _ _⟩
theorem Tn (x:Ak) (e p:Int) (be bp:Nat) (w:World) (h1:w.cell? ⟨be,0,none⟩=some (.int .i64 e)) (h2:w.cell? ⟨bp,0,none⟩=some (.int .i64 p)):Calls prog 167 #[x.val, .pointer (some ⟨be,0,none⟩), .pointer (some ⟨bp,0,none⟩)] w fun r w'=>r= .returned (.bool (Bj e p x))/\Below w.heap.size w w':=by
 obtain⟨xe,xp,xf,xb⟩:=x;simp only[Ak.val];have b1:=yC w _ h1;have b2:=yC w _ h2;have n1:¬be=w.heap.size:=by have:be<w.heap.size:=b1;omega
 have n2:¬bp=w.heap.size:=by have:bp<w.heap.size:=b2;omega
 by_cases he:xe=e
 .have S:=AA (show Bj e p ⟨xe,xp,xf,xb⟩=(xp==p) by simp[Bj,he,WQ])
  have t:(xe==e)=true:=by simp[he]
  clear he;go_in;go_wp2_with fail;go_ret;exact⟨AI S.out.symm,AD _ _⟩
 .have S:=AA (show Bj e p ⟨xe,xp,xf,xb⟩=false by simp[Bj,he])
  have t:(xe==e)=false:=by simp[he]
  clear he;go_in;go_wp2_with fail;go_ret;exact⟨AI S.out.symm,AD _ _⟩
theorem VC (v:Value) (xs:List Ak) (e p:Int) (w:World) (h:Dt w v xs):Calls prog 125 #[v, .int .i64 e, .int .i64 p] w fun r w'=>r= .returned (.int .i64 (Hj xs e p))/\Below w.heap.size w w':=by
 have b2:=Gu w (.cells #[.int .i64 e] 3) (.cells #[.int .i64 p] 3);have cZ:(w.alloc (.cells #[.int .i64 e] 3)).cell? ⟨w.heap.size,0,none⟩=some (.int .i64 e):=yi _ _ 0 _ _ _ (yw _ _);have ce:((w.alloc (.cells #[.int .i64 e] 3)).alloc (.cells #[.int .i64 p] 3)).cell? ⟨w.heap.size,0,none⟩=some (.int .i64 e):=((AD _ _).cell (yC _ _ cZ)).trans cZ;have cp:((w.alloc (.cells #[.int .i64 e] 3)).alloc (.cells #[.int .i64 p] 3)).cell? ⟨w.heap.size+1,0,none⟩=some (.int .i64 p):=by
  have:=yi _ _ 0 _ _ _ (yw (w.alloc (.cells #[.int .i64 e] 3)) (.cells #[.int .i64 p] 3))
  rwa [xG] at this
 have C:=AA (Il 167 #[.pointer (some ⟨w.heap.size,0,none⟩), .pointer (some ⟨w.heap.size+1,0,none⟩)] (Bj e p) v xs _ (BJ.below h b2) (fun _ _=>by kernel_rfl)
  (fun x _ W hW=>Tn x e p _ _ W ((hW.cell (yC _ _ ce)).trans ce) ((hW.cell (yC _ _ cp)).trans cp)))
 obtain⟨a,c,rfl,hc,al⟩:=h.shape;clear h cZ ce cp;go_in;go_wp2_with (refine(C.out).mono ?_;rintro e w' ⟨rfl,ac⟩);go_ret;exact⟨rfl,b2.trans (ac.mono b2.size)⟩
theorem Dt.take {w:World} {a:Option Addr} {c k:Nat} {xs:List Ak} (h:Dt w (.slice a xs.length c) xs) (hk:k<=xs.length):Dt w (.slice a k c) (xs.take k):=by
 obtain⟨a',c',hv,bs,al,hl,ay,hc⟩:=h;cases hv;have bj:(Ch Ae (xs.take k)).length=k*4:=by rw[Jv Cg,xW];congr 1;omega
 have dz:k*4<=xs.length*4:=vK _ hk;unfold Dt BJ;rw[show(xs.take k).length=k by rw[xW];omega];refine⟨a,c,rfl,by omega,al,bj,ay,fun hn=>?_⟩;obtain⟨b,aq,rfl,a8⟩:=hc (by omega);refine⟨b,aq,rfl,fun j hj=>?_⟩;rw[a8 j (by omega)];have e:Ch Ae xs=Ch Ae (xs.take k)++Ch Ae (xs.drop k):=by rw[<-Bl,tV]
 rw[e,List.getElem?_append_left (by omega)]
theorem Ww {xs:List Ak} {e p:Int}:decide (0<=Hj xs e p)=xs.any (Bj e p):=Ju
theorem Np {xs:List Ak} {k:Nat} (h:k<xs.length) (hc:Ct xs k=false):BQ xs=false:=by have:(yE xs.length).all (Ct xs)=false:=List.all_eq_false.2 ⟨k,yj.2 h,by simp[hc]⟩;simp[BQ,this]
theorem SZ {xs:List Ak} (h:∀k,k<xs.length->Ct xs k=true) (hl:xs.length<=4):BQ xs=true:=by
 have:(yE xs.length).all (Ct xs)=true:=yk.2 fun k hk=>h k (yj.1 hk)
 simp[BQ,this,hl]
theorem KY (v:Value) (xs:List Ak) (w:World) (h:Dt w v xs):Calls prog 68 #[v] w fun e w'=>e= .returned (.bool (BQ xs))/\Below w.heap.size w w':=by
 have H:=AA h;obtain⟨a,c,rfl,hc,al,H0⟩:=BJ.open Cg (by decide) h;clear h;unfold maxLen at al
 by_cases h4:xs.length<=4
 .have hb:¬(4:Int)<xs.length:=by omega
  go_in;go_wp2_with fail;go_loopw [10] (fun i wr=>∃k:Nat,k<=xs.length/\i= .int .i64 k/\(∀j,j<k->Ct xs j=true)/\Below w.heap.size w wr) (fun i _=>xs.length - (intOf i).toNat)
  case atStart=>exact⟨0,yh _,rfl,fun j hj=>absurd hj (xR _),yF _ _⟩
  case round=>
   obtain⟨k,hk,rfl,au,ab⟩:=hrel;have ar:=AA au;clear au
   by_cases an:k<xs.length
   .obtain⟨b,aq,rfl,bb,D0,D1,D2,D3⟩:=H0.zN an
    replace D0:=(ab.cell (p:=⟨b,aq+k*4,none⟩) bb).trans D0;replace D1:=(ab.cell (p:=⟨b,aq+k*4+1,none⟩) bb).trans D1;replace D2:=(ab.cell (p:=⟨b,aq+k*4+2,none⟩) bb).trans D2;replace D3:=(ab.cell (p:=⟨b,aq+k*4+3,none⟩) bb).trans D3;clear H0;have N:=yw wr (.cells #[.int .i64 (AT xs k).e, .int .i64 (AT xs k).p, .int .i64 (AT xs k).f, .bool (AT xs k).w] 98);have bz:=ab.trans ((AD wr (.cells #[.int .i64 (AT xs k).e, .int .i64 (AT xs k).p, .int .i64 (AT xs k).f, .bool (AT xs k).w] 98)).mono ab.size);have dX:(k:Int)<=xs.length:=by omega
    have dW:(k:Int)<=c:=by omega
    go_wp2_with fail;generalize wr.alloc _=wa at N bz;clear D0 D1 D2 D3 ab;obtain⟨n0,n1,n2,n3⟩:=AF N;have k0:=yb n0;have k1:=yb n1;have k2:=yb n2;have k3:=yb n3;clear n0 n1 n2 n3;have HB:=AA bz;have cF:=Tl (w1:=wa) (fun W hW=>VC _ (xs.take k) (AT xs k).e (AT xs k).p W (Dt.take (BJ.below H.out (bz.trans (hW.mono bz.size))) hk));cases h1:CU (AT xs k)
    .have S:=AA (Np an (by simp[Ct,h1]))
     have cC:=Tl (w1:=wa) (fun W _=>by have:=MZ (AT xs k) W;rw[h1] at this;exact this);clear h1 N bz;refine Bn ?_
     repeat(go_big_quiet_step (first|exact cC _ _|exact cF _ _))
     refine Bm fun wq bq=>?_
     go_wp2_with fail;go_ret;exact⟨AI S.out.symm,HB.out.trans (bq.mono HB.out.size)⟩
    .have cC:=Tl (w1:=wa) (fun W _=>by have:=MZ (AT xs k) W;rw[h1] at this;exact this)
     have E:=Ww (xs:=xs.take k) (e:=(AT xs k).e) (p:=(AT xs k).p);cases h2:(xs.take k).any (Bj (AT xs k).e (AT xs k).p)
     .have S:=AA (show Ct xs k=true by simp only[Ct,h1,h2];rfl)
      rw[h2] at E;clear h1 h2 N bz;refine Bn ?_
      repeat(go_big_quiet_step (first|exact cC _ _|exact cF _ _))
      refine Bm fun wq bq=>?_
      go_wp2_with fail;go_roundw
      case rel=>exact⟨k+1,by omega,by go_num,Aj ar.out S.out,HB.out.trans (bq.mono HB.out.size)⟩
      case measure=>simp[intOf];omega
     .have S:=AA (Np an (by simp only[Ct,h1,h2];rfl))
      rw[h2] at E;clear h1 h2 N bz;refine Bn ?_
      repeat(go_big_quiet_step (first|exact cC _ _|exact cF _ _))
      refine Bm fun wq bq=>?_
      go_wp2_with fail;go_ret;exact⟨AI S.out.symm,HB.out.trans (bq.mono HB.out.size)⟩
   .have S:=AA (SZ (xs:=xs) (fun j hj=>ar.out j (by omega)) h4)
    go_wp2_with fail;go_ret;exact⟨AI S.out.symm,ab⟩
 .have S:=AA (show BQ xs=false by simp[BQ,h4])
  have hb:(4:Int)<xs.length:=by omega
  go_in;go_wp2_with fail;go_ret;exact⟨AI S.out.symm,yF _ _⟩
theorem YJ {xs:List Ak} {e:Int}:(xs.filter fun x=>!decide (x.e=e))=Fu xs e:=by
 unfold Fu
 congr 1
 funext x
 simp
theorem Oi (x:Ak) (e:Int) (be:Nat) (w:World) (h1:w.cell? ⟨be,0,none⟩=some (.int .i64 e)):Calls prog 256 #[x.val, .pointer (some ⟨be,0,none⟩)] w fun r w'=>r= .returned (.bool (decide (x.e=e)))/\Below w.heap.size w w':=by
 obtain⟨xe,xp,xf,xb⟩:=x;simp only[Ak.val];have b1:=yC w _ h1;have n1:¬be=w.heap.size:=by have:be<w.heap.size:=b1;omega
 have S:=AA (WQ xe e);go_in;go_wp2_with fail;go_ret;exact⟨AI S.out,AD _ _⟩
theorem QP (v:Value) (xs:List Ak) (e:Int) (w:World) (h:Dt w v xs) (am:BQ xs=true):Calls prog 228 #[v, .int .i64 e] w fun r w'=>∃v',r= .returned v'/\AP w.heap.size 98 4 Ae w' v' (Fu xs e)/\Below w.heap.size w w':=by
 have hl:=(Ek.1 am).2.2;have b1:=AD w (.cells #[.int .i64 e] 3);have ce:(w.alloc (.cells #[.int .i64 e] 3)).cell? ⟨w.heap.size,0,none⟩=some (.int .i64 e):=yi _ _ 0 _ _ _ (yw _ _);have an:w.heap.size<(w.alloc (.cells #[.int .i64 e] 3)).heap.size:=by simp
 have C1:=AA (by have:=KY v xs _ (BJ.below h b1);rw[am] at this;exact this);have C2:=AA (fun W (hW:Below w.heap.size w W)=>KZ v xs W (BJ.below h hW) (by omega));obtain⟨a,c,rfl,hc,al⟩:=h.shape;clear h am;go_in;go_wp2_with fail;refine(C1.out).mono ?_;rintro r w1 ⟨rfl,bd⟩;replace ce:=(bd.cell (yC _ _ ce)).trans ce;have ac:=b1.trans (bd.mono b1.size);replace an:w.heap.size<w1.heap.size:=Nat.lt_of_lt_of_le an bd.size;clear bd b1;have CE:=AA ce;clear ce;go_wp2_with fail;refine(C2.out _ ac).mono ?_;rintro r w2 ⟨v',rfl,hO,ba⟩;have dn:=(ba.cell (p:=⟨w.heap.size,0,none⟩) an).trans CE.out;have C3:=AA (Kk 256 #[.pointer (some ⟨w.heap.size,0,none⟩)] (fun x=>decide (x.e=e)) v' xs w2 hO ba.size (fun _ _=>by kernel_rfl)
  (fun x _ W hW=>Oi x e _ W ((hW.cell (p:=⟨w.heap.size,0,none⟩) an).trans dn)))
 have b6:=ac.trans (ba.mono ac.size);have cy:=ac.size;clear hO ba dn;go_wp2_with fail;refine(C3.out).mono ?_;rintro r w3 ⟨v3,rfl,cB,dI⟩;go_wp2_with fail;go_ret;refine⟨_,rfl,?_,b6.trans (dI.mono cy)⟩;rw[<-YJ];exact cB.lower cy
theorem NI (v:Value) (ss:List ByteArray) (w:World) (h:BP w v ss) (hs:DP ss):Calls prog 70 #[v] w fun e w'=>e= .returned (.bool (BO ss))/\Below w.heap.size w w':=by
 obtain⟨a,c,rfl,hc,al,H0⟩:=BJ.open Gp (by decide) h;unfold maxLen at al;have Hs:=AA hs;clear hs h;go_in;go_wp2_with fail;go_loopw [7] (fun i wr=>∃k:Nat,k<=ss.length/\i= .int .i64 k/\(∀j,j<k->Cq ss j=true)/\Below w.heap.size w wr) (fun i _=>ss.length - (intOf i).toNat)
 case atStart=>exact⟨0,yh _,rfl,fun j hj=>absurd hj (xR _),yF _ _⟩
 case round=>
  obtain⟨k,hk,rfl,au,ab⟩:=hrel;have ar:=AA au;clear au
  by_cases an:k<ss.length
  .obtain⟨b,aq,rfl,D0⟩:=H0.str an
   have bb:=yC w _ D0;have D:=(ab.cell (p:=⟨b,aq+k,none⟩) bb).trans D0;have C:=AA (fun W=>Ff (DZ ss k) W (Hs.out.nth an));cases am:BN (DZ ss k)
   .have S:=AA (Iv an (by simp[Cq,am]))
    have bo:=AA am;clear am D0;go_wp2_with fail;refine(C.out _).mono ?_;rintro e w2 ⟨rfl,hb⟩;rw[bo.out];go_wp2_with fail;go_ret;exact⟨AI S.out.symm,ab.trans (hb.mono ab.size)⟩
   .by_cases cP:k=0
    .have Ok:=AA (show Cq ss k=true by simp[Cq,am];exact .inl cP)
     have bo:=AA am;have t0:¬(0:Int)<k:=by omega
     clear am D0 cP;go_wp2_with fail;refine(C.out _).mono ?_;rintro e w2 ⟨rfl,hb⟩;rw[bo.out];go_wp2_with fail;go_roundw
     case rel=>exact⟨k+1,by omega,by go_num,Aj ar.out Ok.out,ab.trans (hb.mono ab.size)⟩
     case measure=>simp[intOf];omega
    .obtain⟨b',bX,dk,E0⟩:=H0.str (show k - 1<ss.length by omega)
     obtain⟨rfl,rfl⟩:b=b'/\aq=bX:=by simpa using dk
     have E:=(ab.cell (p:=⟨b,aq+(k - 1),none⟩) bb).trans E0;have t0:(0:Int)<k:=by omega
     have s1:((k:Int) - 1).toNat=k - 1:=by omega
     have s3:(1:Int)<=k:=by omega
     have bo:=AA am;clear D0 E0 dk;cases cm:Th (DZ ss (k - 1)) (DZ ss k)
     .have Ok:=AA (show Cq ss k=true by simp[Cq,am,cm])
      have hL:Op.bytesLess (DZ ss (k - 1)).toList (DZ ss k).toList=true:=by simpa[Th] using cm
      have EE:=AA E;clear am cm;go_wp2_with fail;refine(C.out _).mono ?_;rintro e w2 ⟨rfl,hb⟩;rw[bo.out];have E2:=(hb.cell (yC _ _ EE.out)).trans EE.out;clear E;go_wp2_with fail;go_roundw
      case rel=>exact⟨k+1,by omega,by go_num,Aj ar.out Ok.out,ab.trans (hb.mono ab.size)⟩
      case measure=>simp[intOf];omega
     .have S:=AA (Iv an (by simp[Cq,am,cm,cP]))
      have hL:Op.bytesLess (DZ ss (k - 1)).toList (DZ ss k).toList=false:=by simpa[Th] using cm
      have EE:=AA E;clear am cm;go_wp2_with fail;refine(C.out _).mono ?_;rintro e w2 ⟨rfl,hb⟩;rw[bo.out];have E2:=(hb.cell (yC _ _ EE.out)).trans EE.out;clear E;go_wp2_with fail;go_ret;exact⟨AI S.out.symm,ab.trans (hb.mono ab.size)⟩
  .have S:=AA (Lz (ss:=ss) (fun j hj=>ar.out j (by omega)))
   go_wp2_with fail;go_ret;exact⟨AI S.out.symm,ab⟩
end Go.Proofs.YtinbcpipjfljeaaGreatDoor
namespace Go.Proofs.YtinbcpipjfljeaaGreatDoor
open Go.Proofs.Tryz Go.RowKit Go.Shelf
theorem JB (ss:List ByteArray):Ch BB ss=ss.map uK:=by
 induction ss with
 |nil=>rfl
 |cons s ss ih=>rw[H5,ih];rfl
def Du (ss:List ByteArray) (k:Nat) (x:ByteArray):List ByteArray:=ss.take k++x::ss.drop k
theorem Zk {lo e C:Nat} {w:World} {cD:Array Value} (hs:cD.size=C) (hn:n<=C) (hm:C<=maxLen) (bt:lo<=w.heap.size):(w.alloc (.cells cD e)).ownsRow lo e 1 (.slice (some ⟨w.heap.size,0,none⟩) n C) n (cD.toList.take n):=
 ⟨by rw[xW,Array.length_toList];omega, .inr ⟨w.heap.size,C,cD,rfl,bt,yw _ _,hn,hm,by omega,by rw[vV]⟩⟩
end Go.Proofs.YtinbcpipjfljeaaGreatDoor
namespace Go.Proofs.YtinbcpipjfljeaaGreatDoor
open Go.Proofs.Tryz Go.RowKit
theorem Ki.word {w:World} {a:Option Addr} {m:List (List Int)} (h:Ki w a m) (am:Bs m=true) {f i:Nat} (hf:f<12) (hi:i<4):
 ∃b aq b2 bg c2,a=some ⟨b,aq,none⟩/\b<w.heap.size/\w.cell? ⟨b,aq+f,none⟩=some (.slice (some ⟨b2,bg,none⟩) 4 c2)/\b2<w.heap.size/\w.cell? ⟨b2,bg+i,none⟩=some (.int .i64 (As m f i)):=by
 obtain⟨hl,hr⟩:=Ah.1 am;obtain⟨b,aq,u,rfl,an,hc,cM⟩:=h f (by omega);have h4:=(A5.1 (hr f hf)).1;obtain⟨a2,c2,rfl,_,_,H⟩:=cM.open;obtain⟨b2,bg,rfl,cc,b5⟩:=H.cellAt (show i<(AH m f).length by omega);rw[h4] at hc;exact⟨b,aq,b2,bg,c2,rfl,an,hc,cc,b5⟩
theorem Gr {m:List (List Int)} (am:Bs m=true) {f i:Nat} (hf:f<12) (hi:i<4):0<=As m f i/\As m f i<=9999:=by obtain⟨hl,hr⟩:=Ah.1 am;obtain⟨h4,hw⟩:=A5.1 (hr f hf);exact hw _ (DG (by omega))
def MI (f a:Nat) (b:Bool):Value:= .agg #[.int .i64 f, .int .i64 ((a%4:Nat):Int), .bool b]
def En:Value:= .agg #[.int .i64 0, .int .i64 0, .bool false]
def Ib (m:List (List Int)) (root a:Nat):Value:= .tuple #[if(Bu m root a).1=0 then MI (Bu m root a).2.1 a (Bu m root a).2.2 else En, .int .i64 (Bu m root a).1]
theorem ZG (v:Value) (m:List (List Int)) (root a:Nat) (w:World) (h:Bc w v m) (am:Bs m=true) (hr:root<12) (ha:a<64):
 Calls prog 76 #[v, .int .i64 root, .int .i64 a] w fun e w'=>e= .returned (Ib m root a)/\Below w.heap.size w w':=by
 obtain⟨q,c,rfl,hc,al,H0⟩:=h.open;have hl:=(Ah.1 am).1;unfold maxLen at al;rw[hl] at hc ⊢;have hA:=AA (fun W=>Og a W ha);obtain⟨b,aq,b2,bg,c2,rfl,hb,D,ac,D2⟩:=H0.word am hr (show a/16<4 by omega);have D':=((AD w (.cells #[.int .i64 0, .int .i64 0, .bool false] 100)).cell (p:=⟨b,aq+root,none⟩) hb).trans D;have cn:=((AD w (.cells #[.int .i64 0, .int .i64 0, .bool false] 100)).cell (p:=⟨b2,bg+a/16,none⟩) ac).trans D2;have cI:=Gr am hr (show a/16<4 by omega);have E1:=AA (fun W=>FN (As m root (a/16)) W (by omega));have hB:=AD w (.cells #[.int .i64 0, .int .i64 0, .bool false] 100);cases bn:Bf (As m root (a/16))
 .have S:=AA (show Ib m root a= .tuple #[En, .int .i64 1] by simp[Ib,Bu,bn])
  have V1:=AA (Eb bn);clear H0 D D2 bn cI hb ac;go_in;go_wp2_with (first|(go_at_call 135;refine(hA.out _).mono ?_;rintro e w' ⟨rfl,rfl⟩)|(go_at_call 126;refine(E1.out _).mono ?_;rintro e w' ⟨rfl,rfl⟩;rw[V1.out]));exact yp (v:= .tuple #[En, .int .i64 1]) (by simp[results,uX,go_sem,En]) rfl ⟨by rw[S.out],hB⟩
 .have ht:A8 (As m root (a/16))<12:=EH bn
  have V1:=AA (ER bn);obtain⟨b',bX,b3,cG,c3,e,dl,D3,ba,D4⟩:=H0.word am ht (show a/4%4<4 by omega);cases e;have c5:=((AD w (.cells #[.int .i64 0, .int .i64 0, .bool false] 100)).cell (p:=⟨b,aq+A8 (As m root (a/16)),none⟩) hb).trans D3;have d6:=((AD w (.cells #[.int .i64 0, .int .i64 0, .bool false] 100)).cell (p:=⟨b3,cG+a/4%4,none⟩) ba).trans D4;have c9:=Gr am ht (show a/4%4<4 by omega);have E2:=AA (fun W=>FN (As m (A8 (As m root (a/16))) (a/4%4)) W (by omega));cases bV:Bf (As m (A8 (As m root (a/16))) (a/4%4))
  .have S:=AA (show Ib m root a= .tuple #[En, .int .i64 2] by simp[Ib,Bu,bn,bV])
   have V2:=AA (Eb bV);clear H0 D D2 D3 D4 bn bV cI c9 hb ac ba dl;go_in;go_wp2_with fail;refine(hA.out _).mono ?_;rintro e w' ⟨rfl,rfl⟩;go_wp2_with fail;refine(E1.out _).mono ?_;rintro e w' ⟨rfl,rfl⟩;rw[V1.out];go_wp2_with fail;refine(E2.out _).mono ?_;rintro e w' ⟨rfl,rfl⟩;rw[V2.out];go_wp2_with fail;exact yp (v:= .tuple #[En, .int .i64 2]) (by simp[results,uX,go_sem,En]) rfl ⟨by rw[S.out],hB⟩
  .have S:=AA (show Ib m root a= .tuple #[.agg #[.int .i64 ((A8 (As m (A8 (As m root (a/16))) (a/4%4)):Nat):Int), .int .i64 ((a%4:Nat):Int), .bool (KF (As m root (a/16))&&KF (As m (A8 (As m root (a/16))) (a/4%4)))], .int .i64 0] by simp[Ib,Bu,bn,bV,MI])
   have V2:=AA (ER bV);cases hx:KF (As m root (a/16))
   all_goals
    rw[hx] at V1 S;clear H0 D D2 D3 D4 bn bV cI c9 hb ac ba dl hx;go_in;go_wp2_with fail;refine(hA.out _).mono ?_;rintro e w' ⟨rfl,rfl⟩;go_wp2_with fail;refine(E1.out _).mono ?_;rintro e w' ⟨rfl,rfl⟩;rw[V1.out];go_wp2_with fail;refine(E2.out _).mono ?_;rintro e w' ⟨rfl,rfl⟩;rw[V2.out];go_wp2_with fail
   .exact yp (v:= .tuple #[.agg #[.int .i64 ((A8 (As m (A8 (As m root (a/16))) (a/4%4)):Nat):Int), .int .i64 ((a%4:Nat):Int), .bool false], .int .i64 0]) (by simp[results,uX,go_sem]) rfl ⟨by rw[S.out,Bool.false_and],(yF _ _).alloc (yv _) _⟩
   .exact yp (v:= .tuple #[.agg #[.int .i64 ((A8 (As m (A8 (As m root (a/16))) (a/4%4)):Nat):Int), .int .i64 ((a%4:Nat):Int), .bool (KF (As m (A8 (As m root (a/16))) (a/4%4)))], .int .i64 0]) (by simp[results,uX,go_sem]) rfl ⟨by rw[S.out,Bool.true_and],(yF _ _).alloc (yv _) _⟩
theorem Ki.row4 {w:World} {a:Option Addr} {m:List (List Int)} (h:Ki w a m) (am:Bs m=true) {f:Nat} (hf:f<12):
 ∃b aq b2 bg c2,a=some ⟨b,aq,none⟩/\b<w.heap.size/\w.cell? ⟨b,aq+f,none⟩=some (.slice (some ⟨b2,bg,none⟩) 4 c2)/\b2<w.heap.size/\4<=c2/\∀i,i<4->w.cell? ⟨b2,bg+i,none⟩=some (.int .i64 (As m f i)):=by
 obtain⟨hl,hr⟩:=Ah.1 am;obtain⟨b,aq,u,rfl,an,hc,cM⟩:=h f (by omega);have h4:=(A5.1 (hr f hf)).1;obtain⟨a2,c2,rfl,b5,_,H⟩:=cM.open;obtain⟨b2,bg,rfl,cc,_⟩:=H.cellAt (show 0<(AH m f).length by omega);rw[h4] at hc b5;refine⟨b,aq,b2,bg,c2,rfl,an,hc,cc,b5,fun i hi=>?_⟩;obtain⟨b',bX,e,_,a8⟩:=H.cellAt (show i<(AH m f).length by omega);cases e;exact a8
def Gs (m:List (List Int)) (ns:List Nat):List Nat:=ns.flatMap fun n=>named (AH m n)
theorem Wk {m:List (List Int)} {k:Nat} (h:k<ns.length):Gs m (ns.take (k+1))=Gs m (ns.take k)++named (AH m (ns.getD k 0)):=by rw[Cw (A1 (d:=0) h)];simp[Gs]
theorem KN {r:List Int} {j:Nat} (h:j<r.length):named (r.take (j+1))=named (r.take j)++(if Bf (r.getD j 0) then[A8 (r.getD j 0)] else[]):=by
 rw[Cw (A1 (d:=0) h)];unfold named;rw[wy,xH]
 congr 1
 rw[List.filter_cons,List.filter_nil]
 split<;>simp_all
theorem Kp {m:List (List Int)} (am:Bs m=true) {ns:List Nat} (hn:∀n∈ns,n<12):(Gs m ns).length<=4*ns.length:=by
 induction ns with
 |nil=>simp[Gs]
 |cons n ns ih=>have h1:=ih (fun x hx=>hn x (uO _ hx));have h2:=FB (r:=AH m n);have h3:=(A5.1 ((Ah.1 am).2 n (hn n (vY ..)))).1;simp only[Gs,List.flatMap_cons,yl,List.length_cons] at h1 ⊢;omega
theorem Kq {m:List (List Int)} {ns:List Nat} {g:Nat}:g∈Gs m ns↔∃n∈ns,g∈named (AH m n):=by simp[Gs]
theorem XA {k:Nat} (h:k<ns.length):ns.getD k 0∈ns:=DG h
theorem NP {lo e sz:Nat} {w w':World} {xs:List Value} (h:w'.ownsRow lo e sz v n xs) (hg:w.grownBy w' v.ownBlock) (bt:lo<=w.heap.size):Below lo w w':=(yF lo w).grown hg bt (fun k hk=>(yr h k hk).1)
theorem Ox {lo e sz:Nat} {w w':World} {u:Value} {xs:List Value} (h:w'.ownsRow lo e sz v n xs) (hv:v.ownBlock=u.ownBlock) (hg:w.grownBy w' u.ownBlock) (bt:lo<=w.heap.size):Below lo w w':=NP h (hv▸hg) bt
def X2 (m:List (List Int)) (ns:List Nat) (w:World) (e:Ending) (w':World):Prop:=∃v' ts,e= .returned v'/\AG w.heap.size w' v' (Ay ts)/\(∀g,g∈ts↔g∈Gs m ns)/\ts.length<=(Gs m ns).length/\Below w.heap.size w w'
theorem Rg (v v2:Value) (m:List (List Int)) (ns:List Nat) (w:World) (h:Bc w v m) (am:Bs m=true) (h2:Ax w v2 (Ay ns)) (hn:∀n∈ns,n<12) (hl:ns.length<=1000):
 Calls prog 130 #[v,v2] w (X2 m ns w):=by
 obtain⟨q,c,rfl,hc,al,H0⟩:=h.open;obtain⟨q2,c2,rfl,b5,cf,H2⟩:=h2.open;have cb:=(Ah.1 am).1;have cV:=Kp am hn;unfold maxLen at al cf;rw[cb] at hc ⊢;rw[Cc] at b5 ⊢;have Hn:=AA hn;have bo:=AA am;have HR:=AA H0;have HI:=AA H2;clear h h2 hn am H0 H2 cb;go_in;go_wp2_with fail;go_loopw [5,15] (fun o i wr=>∃k:Nat,k<=ns.length/\i= .int .i64 k/\AG w.heap.size wr o (Ay (Gs m (ns.take k)))/\Below w.heap.size w wr) (fun _ i _=>ns.length - (intOf i).toNat)
 case atStart=>exact⟨0,yh _,rfl,xj _ _ _ _,yF _ _⟩
 case round=>
  obtain⟨k,hk,rfl,hO,ab⟩:=hrel
  by_cases an:k<ns.length
  .obtain⟨b,aq,rfl,hb,D0⟩:=HI.out.cellAt (show k<(Ay ns).length by rw[Cc];exact an)
   rw[Pb an] at D0;have D:=(ab.cell (p:=⟨b,aq+k,none⟩) hb).trans D0;have ca:=Hn.out _ (XA an);obtain⟨bm,bC,br,bB,cr,rfl,cw,M0,cA,dj,W0⟩:=HR.out.row4 bo.out ca;have M:=(ab.cell (p:=⟨bm,bC+ns.getD k 0,none⟩) cw).trans M0;have HW:=AA W0;have cl:=AA (A5.1 ((Ah.1 bo.out).2 _ ca)).1;have AS:=AA (Wk (m:=m) an);generalize hnk:ns.getD k 0=nk at*;have d5:=AA hnk;have dz:(Gs m (ns.take k)).length<=4*k:=by
    have:=Kp bo.out (ns:=ns.take k) (fun n hn=>Hn.out n (List.mem_of_mem_take hn));rw[xW] at this;omega
   clear D0 M0 W0 hnk;have HO:=AA hO;have HB:=AA ab;clear hO;go_wp2_with fail;clear D M ab;obtain⟨wo,rfl⟩:∃wo:World,wo=wr:=⟨_,rfl⟩
   go_loopw [5,24] (fun o i wi=>∃j:Nat,j<=4/\i= .int .i64 j/\AG w.heap.size wi o (Ay (Gs m (ns.take k)++named ((AH m nk).take j)))/\Below w.heap.size w wi) (fun _ i _=>4 - (intOf i).toNat)
   case atStart=>exact⟨0,by omega,rfl,by simpa[named] using HO.out,HB.out⟩
   case round=>
    obtain⟨j,hj,rfl,b7,bx⟩:=hrel
    by_cases bK:j<4
    .have W:=(bx.cell (p:=⟨br,bB+j,none⟩) cA).trans (HW.out j bK)
     have NT:=AA (KN (r:=AH m nk) (j:=j) (by rw[cl.out];exact bK));have wb:=Gr bo.out ca bK;have CE:=AA (fun W=>FN (As m nk j) W (by omega));have dr:=AA b7;have bu:(Gs m (ns.take k)++named ((AH m nk).take j)).length<=4*k+4:=by have:=FB (r:=(AH m nk).take j);rw[xW] at this;rw[yl];omega
     have cK:=bx.size;clear b7;cases hg:Bf (As m nk j)
     .have V:=AA (Eb hg)
      have E:=AA (show Gs m (ns.take k)++named ((AH m nk).take (j+1))=Gs m (ns.take k)++named ((AH m nk).take j) by rw[NT.out,show(AH m nk).getD j 0=As m nk j from rfl,hg];simp);clear hg;go_wp2_with (go_at_call 126;refine(CE.out _).mono ?_;rintro e w' ⟨rfl,rfl⟩;rw[V.out]);go_roundw
      case rel=>exact⟨j+1,by omega,by go_num,by rw[E.out];exact dr.out,bx⟩
      case measure=>simp[intOf];omega
     .have V:=AA (ER hg)
      have E:=AA (show Gs m (ns.take k)++named ((AH m nk).take (j+1))=(Gs m (ns.take k)++named ((AH m nk).take j))++[A8 (As m nk j)] by rw[NT.out,show(AH m nk).getD j 0=As m nk j from rfl,hg];simp);clear hg;generalize Gs m (ns.take k)++named ((AH m nk).take j)=acc at*;have c4:=AA (fun ob=>(by have:=Co dr.out (AD wr ob);rwa [Cc] at this:(wr.alloc ob).ownsRow w.heap.size 3 1 u5 acc.length ((Ay acc).map (yf .i64))));go_wp2_with (first|(go_at_call 126;refine(CE.out _).mono ?_;rintro e w' ⟨rfl,rfl⟩;rw[V.out])|(at_builtin;go_must (refine Eg (lo:=w.heap.size) (v:=u5) (n:=acc.length) (xs:=(Ay acc).map (yf .i64)) (m:=1) (news:=[.int .i64 ((A8 (As m nk j):Nat):Int)]) rfl rfl 3 (.int .i64 0) 1 8 underlying29 Tryz.zK rfl (by decide) rfl (c4.out _) rfl (Rd.zE _ #[_] _ 1 1 _ rfl (by simp) (by simp[maxLen])) (by simp[xE]) (by unfold maxLen;omega) (by omega) (by simp;omega) ?_;intro o' w3 k1 k2 k3)));have R:AG w.heap.size w3 o' (Ay (acc++[A8 (As m nk j)])):=by unfold AG;rw[Cc,yl];simpa[Ay] using k1
      rw[<-E.out] at R;have RR:=AA R;clear k1 k2 R;go_roundw
      case rel=>exact⟨j+1,by omega,by go_num,RR.out,(bx.trans ((AD _ _).mono bx.size)).trans k3⟩
      case measure=>simp[intOf];omega
    .obtain rfl:j=4:=by omega
     have E:Gs m (ns.take k)++named ((AH m nk).take 4)=Gs m (ns.take (k+1)):=by rw[AS.out,wv (l:=AH m nk) (i:=4) (Nat.le_of_eq cl.out)]
     rw[E] at b7;clear E;go_wp2_with fail;go_roundw
     case rel=>exact⟨k+1,by omega,by go_num,b7,bx⟩
     case measure=>simp[intOf];omega
  .obtain rfl:k=ns.length:=by omega
   rw[xt] at hO;have CS:=AA (MR u5 (Gs m ns) wr hO (by omega));clear hO;go_wp2_with fail;refine(CS.out).mono ?_;rintro e w1 ⟨rfl,ts,t1,t2,cj,bn⟩;have bd:=ab.trans (NP cj bn ab.size);have cy:=bd.size;have CC:=AA (Ka u5 ts w1 cj (by omega));clear cj bn ab;go_wp2_with fail;refine(CC.out).mono ?_;rintro e w2 ⟨v',rfl,cJ,cE,s1,s2,bv,bV⟩;go_wp2_with fail;go_ret;exact⟨_,cE,rfl,bv,fun g=>(s2 g).trans (t2 g),by omega,bd.trans (Ox bv cJ bV cy)⟩
def L7 (m:List (List Int)) (root:Int) (w:World) (e:Ending) (w':World):Prop:=∃v' ts,e= .returned v'/\AG w.heap.size w' v' (Ay ts)/\(∀g,g∈ts↔g∈BY m root)/\ts.length<=100/\Below w.heap.size w w'
theorem Xe {m:List (List Int)} {g:Nat}:g∈BY m (n:Int)↔g=n∨g∈Gs m [n]∨g∈Gs m (Gs m [n]):=by
 rw[DU];simp only[Int.toNat_natCast,Kq,xi,exists_eq_left];constructor
 .rintro⟨_,h⟩;exact h
 .intro h;exact⟨by omega,h⟩
theorem VA {m:List (List Int)} {a b:List Nat} (h:∀g,g∈a↔g∈b) (g:Nat):g∈Gs m a↔g∈Gs m b:=by
 rw[Kq,Kq];exact exists_congr fun n=>and_congr_left fun _=>h n
theorem LD (w:World) (x:Int):AG w.heap.size (w.alloc (.cells #[.int .i64 x] 3)) (.slice (some ⟨w.heap.size,0,none⟩) 1 1) [x]:=World.ownsRow_lit (base:=w.heap.size) w #[.int .i64 x] 1 (yv _) (by simp[maxLen]) (by simp)
theorem UK (n:Nat):Ay [n]=[(n:Int)]:=rfl
theorem YX (a b:List Nat):Ay (a++b)=Ay a++Ay b:=by simp[Ay]
theorem MU {lo:Nat} {w:World} {a b:List Nat} (h:w.ownsRow lo 3 1 v (a.length+b.length) ((Ay a).map (yf .i64)++(Ay b).map (yf .i64))):AG lo w v (Ay (a++b)):=by unfold AG;rw[Cc,yl,YX,xH];exact h
theorem OH (v:Value) (m:List (List Int)) (n:Nat) (w:World) (h:Bc w v m) (am:Bs m=true) (hn:n<12):
 Calls prog 73 #[v, .int .i64 n] w (L7 m (n:Int) w):=by
 have b9:=Kp am (ns:=[n]) (by simpa using hn);have C1:=AA (fun W v2 ns (hW:Below w.heap.size w W) (h2:Ax W v2 (Ay ns)) (dx:∀n∈ns,n<12) (hl:ns.length<=1000)=>Rg v v2 m ns W (by obtain⟨vs,a,b⟩:=h;exact Bc.below ⟨vs,a,b⟩ hW) am h2 dx hl);have b8:∀ns:List Nat,∀g∈Gs m ns,g<12:=by intro ns g hg;obtain⟨_,_,hg⟩:=Kq.1 hg;exact FD hg
 have cV:∀ns:List Nat,(∀g∈ns,g<12)->(Gs m ns).length<=4*ns.length:=fun ns h=>Kp am h
 obtain⟨q,c,rfl,hc,al,_⟩:=h.open;have dM:=AA b8;have dO:=AA cV;have i0:(0:Int)<=(n:Int):=by omega
 clear h am hc al b8 cV;go_in;go_wp2_with fail;have b1:=AD w (.cells #[.int .i64 n] 3);have b2:=Gu w (.cells #[.int .i64 n] 3) (.cells #[.int .i64 n] 3);have O1:=AA ((LD w (n:Int)).below (AD _ (.cells #[.int .i64 n] 3)));have O2:=LD (w.alloc (.cells #[.int .i64 n] 3)) (n:Int);rw[xG] at O2;refine(C1.out _ _ [n] b2 (by rw[UK];exact AG.rd O2) (by simpa using hn) (by simp)).mono ?_;rintro e w1 ⟨v1,t1,rfl,P1,m1,l1,bd⟩;have Q1:=AA (O1.out.below bd);have B1:=b2.trans (bd.mono b2.size);have s1:=B1.size;obtain⟨a1,c1,rfl,_,_,_⟩:=P1.rd.open;have c0:=AA (AG.rd P1);rw[Cc] at c0 ⊢;clear bd b1 b2 O2 P1 O1;have R1:=AA (show Rd w1 (.slice a1 t1.length c1) 1 t1.length ((Ay t1).map (yf .i64)) by have:=c0.out;unfold Ax at this;rwa [Cc] at this);have h1:t1.length<=4:=by simp at b9;omega
 go_wp2_with (at_builtin;go_must (refine Eg (lo:=w.heap.size) (v:= .slice (some ⟨w.heap.size,0,none⟩) 1 1) (n:=1) (xs:=[.int .i64 n]) (m:=t1.length) (news:=(Ay t1).map (yf .i64)) rfl rfl 3 (.int .i64 0) 1 8 underlying29 Tryz.zK rfl (by decide) rfl Q1.out rfl R1.out LB (by unfold maxLen;omega) (by omega) (by omega) ?_;intro o2 w2 k1 k2 k3));have O3:=AA (MU (a:=[n]) k1);have B2:=B1.trans k3;have s2:=B2.size;clear k1 k2 k3 Q1 R1 c0 B1;have b3:=B2.trans ((AD w2 (.cells #[.int .i64 n] 3)).mono s2);have O4:=AA (O3.out.below (AD w2 (.cells #[.int .i64 n] 3)));have CN:=AA (C1.out _ _ [n] b3 (by rw[UK];exact AG.rd (LD w2 (n:Int))) (by simpa using hn) (by simp));clear O3;go_wp2_with fail;refine(CN.out).mono ?_;rintro e w3 ⟨v3,t3,rfl,P3,m3,l3,ba⟩;have O5:=AA (O4.out.below ba);have B3:=b3.trans (ba.mono b3.size);have s3:=B3.size;have h3:t3.length<=4:=by simp at b9;omega
 have co:∀g∈t3,g<12:=fun g hg=>dM.out _ g ((m3 g).1 hg)
 have CM:=AA (C1.out _ v3 t3 B3 (AG.rd P3) co (by omega));have h4:=dO.out t3 co;have M3:=AA m3;have M1:=AA m1;clear ba b3 P3 O4 CN m3 m1;go_wp2_with fail;refine(CM.out).mono ?_;rintro e w4 ⟨v4,t4,rfl,P4,m4,l4,b6⟩;have O6:=AA (O5.out.below b6);have dq:=AA (show w4.ownsRow w.heap.size 3 1 o2 ([n]++t1).length ((Ay ([n]++t1)).map (yf .i64)) by have:=O6.out;unfold AG at this;rwa [Cc] at this);have B4:=B3.trans (b6.mono s3);have s4:=B4.size;have R4:=AA (show Rd w4 v4 1 t4.length ((Ay t4).map (yf .i64)) by have:=AG.rd P4;unfold Ax at this;rwa [Cc] at this);have M4:=AA m4;have dT:([n]++t1).length<=5:=by simp;omega
 clear b6 P4 m4 O5;have cN:=AA (show ∀g,g∈(([n]++t1)++t4)↔g∈BY m (n:Int) by intro g;rw[Xe,wu,wu,xi,M1.out,M4.out,VA M3.out,or_assoc])
 generalize[n]++t1=acc at*;go_wp2_with (at_builtin;go_must (refine Eg (lo:=w.heap.size) (v:=o2) (n:=acc.length) (xs:=(Ay acc).map (yf .i64)) (m:=t4.length) (news:=(Ay t4).map (yf .i64)) rfl rfl 3 (.int .i64 0) 1 8 underlying29 Tryz.zK rfl (by decide) rfl dq.out rfl R4.out LB (by unfold maxLen;omega) (by omega) (by omega) ?_;intro o5 w5 k1 k2 k3));have O7:=MU k1;have B5:=B4.trans k3;have s5:=B5.size;have dS:(acc++t4).length<=21:=by rw[yl];omega
 have CS:=AA (MR o5 (acc++t4) w5 O7 (by omega));generalize acc++t4=fin at*;clear k1 k2 k3 O7 O6 dq R4 B4;go_wp2_with fail;refine(CS.out).mono ?_;rintro e w6 ⟨rfl,ts,u1,u2,cj,bn⟩;have B6:=B5.trans (NP cj bn s5);have s6:=B6.size;have CC:=AA (Ka o5 ts w6 cj (by omega));clear cj bn B5;go_wp2_with fail;refine(CC.out).mono ?_;rintro e w7 ⟨v',rfl,cJ,cE,y1,y2,bv,bV⟩;go_wp2_with fail;go_ret;exact⟨_,cE,rfl,bv,fun g=>((y2 g).trans (u2 g)).trans (cN.out g),by omega,B6.trans (Ox bv cJ bV s6)⟩
theorem OI (v:Value) (m:List (List Int)) (r:Int) (w:World) (h:Bc w v m) (hr:r<0):Calls prog 73 #[v, .int .i64 r] w (L7 m r w):=by
 obtain⟨q,c,rfl,_,_,_⟩:=h.open;have S:=AA (show ∀g,g∈([]:List Nat)↔g∈BY m r from fun g=>⟨(fun h=>by cases h),(fun h=>by have:=(DU.1 h).1;omega)⟩);clear h;go_in;go_wp2_with fail;go_ret;exact⟨_,[],rfl,xj _ _ _ _,S.out,by decide,yF _ _⟩
theorem Oj (F:Nat) (ae:Array Value) (p:Int->Bool) (v:Value) (xs:List Int) (w:World) (h:Ax w v xs)
 (hF:∀args w,(callFunc F args).run prog w= .ok (.enter F args) w) (hf:∀x,x∈xs->∀W,Below w.heap.size w W->Calls prog F (#[.int .i64 x]++ae) W fun e W'=>e= .returned (.bool (p x))/\Below W.heap.size W W'):
 Calls prog 169 #[v, .func (.func F) #[] ae] w fun e w'=>e= .returned (.int .i64 (Fl p xs))/\Below w.heap.size w w':=by
 obtain⟨a,c,rfl,hc,al,H0⟩:=h.open;clear h;unfold maxLen at al;have Hf:=AA hf;clear hf;go_in;go_wp2;go_loopw [8] (fun i wr=>∃k:Nat,k<=xs.length/\i= .int .i64 k/\(∀(j:Nat) x,j<k->xs[j]? =some x->p x=false)/\Below w.heap.size w wr) (fun i _=>xs.length - (intOf i).toNat)
 case atStart=>exact⟨0,yh _,rfl,fun j x hj=>absurd hj (xR _),yF _ _⟩
 case round=>
  obtain⟨k,hk,rfl,au,ab⟩:=hrel;have ar:=AA au;clear au
  by_cases an:k<xs.length
  .have hx:xs[k]? =some (nth xs k):=Pc an
   obtain⟨b,aq,rfl,bb,bA⟩:=H0.cellAt an;have D0:=(ab.cell (p:=⟨b,aq+k,none⟩) bb).trans bA;clear bA;have Hx:=AA hx;have Hc:=AA (Hf.out _ (yg hx) wr ab);clear hx;cases hp:p (nth xs k)
   .have Hp:=AA hp;clear hp
    go_wp2_with (refine(Hc.out).mono ?_;rintro e w' ⟨rfl,ac⟩;rw[Hp.out]);go_roundw
    case rel=>exact⟨k+1,by omega,by go_num,IN ar.out Hx.out Hp.out,ab.trans (ac.mono ab.size)⟩
    case measure=>simp[intOf];omega
   .have Hp:=AA hp;clear hp
    have az:=AA (Jt Hx.out ar.out Hp.out);go_wp2_with (refine(Hc.out).mono ?_;rintro e w' ⟨rfl,ac⟩;rw[Hp.out]);go_ret;exact⟨Cn az.out.symm,ab.trans (ac.mono ab.size)⟩
  .have az:=AA (IR (p:=p) (xs:=xs) (fun j x hx=>ar.out j x (by have:=(yq.1 hx).1;omega) hx))
   go_wp2;go_ret;exact⟨Cn az.out.symm,ab⟩
theorem JW (F:Nat) (ae:Array Value) (p:Int->Bool) (v:Value) (xs:List Int) (w:World) (h:Ax w v xs)
 (hF:∀args w,(callFunc F args).run prog w= .ok (.enter F args) w) (hf:∀x,x∈xs->∀W,Below w.heap.size w W->Calls prog F (#[.int .i64 x]++ae) W fun e W'=>e= .returned (.bool (p x))/\Below W.heap.size W W'):
 Calls prog 128 #[v, .func (.func F) #[] ae] w fun e w'=>e= .returned (.bool (xs.any p))/\Below w.heap.size w w':=by
 have E:=AA (Ju (p:=p) (xs:=xs));have C:=AA (Oj F ae p v xs w h hF hf);clear h hf;go_in;go_wp2_with (refine(C.out).mono ?_;rintro e w' ⟨rfl,ac⟩);go_ret;exact⟨AI E.out,ac⟩
theorem SY (f:Nat) (v:Value) (ss:List ByteArray) (iv:Value) (Os:List AU) (br bk gk:Nat) (w:World) (hr:w.cell? ⟨br,0,none⟩=some v) (hk:w.cell? ⟨bk,0,none⟩=some (.pointer (some ⟨gk,0,none⟩)))
 (hi:w.cell? ⟨gk,1,none⟩=some iv) (hv:BP w v ss) (hI:BU w iv Os) (hf:f<Os.length):
 Calls prog 129 #[.int .i64 f, .pointer (some ⟨br,0,none⟩), .pointer (some ⟨bk,0,none⟩)] w fun e w'=>e= .returned (.bool (!Bv ss (zU Os f).g))/\Below w.heap.size w w':=by
 obtain⟨a,c,rfl,hc,al,H0⟩:=BJ.open Az (by decide) hI;obtain⟨b,aq,rfl,hb,D0,D1,D2⟩:=H0.zR hf;have M:=Tl (w1:=w) (fun W hW=>Oc v ss (zU Os f).g W (BJ.below hv hW));obtain⟨av,cv,rfl,_,_⟩:=hv.shape;have k0:=yb hr;have k1:=yb hk;have k2:=yb hi;have k3:=yb D1;have f0:(f:Int)<Os.length:=by omega
 clear H0 hI hv D0 D1 D2;go_in;go_wp2_with fail;refine Bn ?_
 repeat(go_big_quiet_step (exact M _ _))
 refine Bm fun wq bq=>?_
 go_wp2_with fail;go_ret;exact⟨rfl,bq⟩
theorem Kr (gk:Nat) (v v2 iv:Value) (ss:List ByteArray) (fs:List Nat) (Os:List AU) (w:World) (hi:w.cell? ⟨gk,1,none⟩=some iv) (hv:BP w v ss) (hI:BU w iv Os) (h2:Ax w v2 (Ay fs)) (dg:∀f∈fs,f<Os.length):
 Calls prog 72 #[.pointer (some ⟨gk,0,none⟩),v,v2] w fun e w'=>e= .returned (.bool (BC Os fs ss))/\Below w.heap.size w w':=by
 have b2:=Gu w (.cells #[.pointer (some ⟨gk,0,none⟩)] 140) (.cells #[v] 60);have cY:(w.alloc (.cells #[.pointer (some ⟨gk,0,none⟩)] 140)).cell? ⟨w.heap.size,0,none⟩=some (.pointer (some ⟨gk,0,none⟩)):=yi _ _ 0 _ _ _ (yw _ _);have ck:((w.alloc (.cells #[.pointer (some ⟨gk,0,none⟩)] 140)).alloc (.cells #[v] 60)).cell? ⟨w.heap.size,0,none⟩=some (.pointer (some ⟨gk,0,none⟩)):=((AD _ _).cell (yC _ _ cY)).trans cY;have cv:((w.alloc (.cells #[.pointer (some ⟨gk,0,none⟩)] 140)).alloc (.cells #[v] 60)).cell? ⟨w.heap.size+1,0,none⟩=some v:=by
  have:=yi _ _ 0 _ _ _ (yw (w.alloc (.cells #[.pointer (some ⟨gk,0,none⟩)] 140)) (.cells #[v] 60))
  rwa [xG] at this
 have cR:=yC w _ hi;have S:=AA (show(!(Ay fs).any (fun x=>!Bv ss (zU Os x.toNat).g))=BC Os fs ss by rw[MT];unfold Ay BC;rw[List.all_map];rfl);have C:=AA (JW 129 #[.pointer (some ⟨w.heap.size+1,0,none⟩), .pointer (some ⟨w.heap.size,0,none⟩)] (fun x=>!Bv ss (zU Os x.toNat).g) v2 (Ay fs) _ (Ax.below h2 b2) (fun _ _=>by kernel_rfl) (by intro x hx W hW;obtain⟨n,hn,rfl⟩:=vH.1 hx;have hb:=b2.trans (hW.mono b2.size);exact SY n v ss iv Os _ _ gk W ((hW.cell (yC _ _ cv)).trans cv) ((hW.cell (yC _ _ ck)).trans ck) ((hb.cell cR).trans hi) (BJ.below hv hb) (BJ.below hI hb) (dg n hn)))
 obtain⟨a,c,rfl,_,_,_⟩:=h2.open;obtain⟨a',c',rfl,_,_⟩:=hv.shape;clear hv hI h2 hi cY ck cv dg;go_in;go_wp2_with (refine(C.out).mono ?_;rintro e w' ⟨rfl,ac⟩);go_ret;exact⟨AI S.out,b2.trans (ac.mono b2.size)⟩
theorem Ri {k:Int} (h:Bb k=true):Ua k=k - 1:=by unfold Ua;rw[if_pos h]
theorem VV {Os:List AU} {f:Nat} {kind:Int} {ss:List ByteArray}:FJ Os f kind ss 0=true:=Lb.2 (.inr ⟨rfl,rfl⟩)
theorem XD {Os:List AU} {f:Nat} {kind x:Int} {ss:List ByteArray} (h0:x≠0) (h:Bf x=false):FJ Os f kind ss x=false:=by simp[FJ,h,h0]
theorem RT {Os:List AU} {f:Nat} {kind x:Int} {ss:List ByteArray} (h:Bf x=true):FJ Os f kind ss x=(decide (A8 x≠f)&&decide ((zU Os (A8 x)).k=kind - 1)&&Bv ss (zU Os (A8 x)).g):=by simp[FJ,h]
theorem XC (x:Int) (f:Nat) (kind:Int) (v iv:Value) (ss:List ByteArray) (Os:List AU) (bf bi bk br:Nat) (w:World) (hx:x<=9223372036854775807) (h1:w.cell? ⟨bf,0,none⟩=some (.int .i64 f)) (h2:w.cell? ⟨bi,0,none⟩=some iv) (h3:w.cell? ⟨bk,0,none⟩=some (.int .i64 kind)) (h4:w.cell? ⟨br,0,none⟩=some v)
 (hv:BP w v ss) (hI:BU w iv Os) (hl:Os.length=12) (hk:Bb kind=true):
 Calls prog 133 #[.int .i64 x, .pointer (some ⟨bf,0,none⟩), .pointer (some ⟨bi,0,none⟩), .pointer (some ⟨bk,0,none⟩), .pointer (some ⟨br,0,none⟩)] w fun e w'=>e= .returned (.bool (!FJ Os f kind ss x))/\Below w.heap.size w w':=by
 obtain⟨a,c,rfl,hc,al,H0⟩:=BJ.open Az (by decide) hI;have CE:=AA (fun W=>FN x W hx);have k1:=yb h1;have k2:=yb h2;have k3:=yb h3;have k4:=yb h4;have cT:=Wj (w1:=w) (fun W=>Ko kind W);rw[Ri hk] at cT
 by_cases bY:x=0
 .subst bY
  have V:=AA (Eb (x:=0) rfl);have S:=AA (show(!FJ Os f kind ss 0)=false by rw[VV];rfl);clear H0 hI hv h1 h2 h3 h4 hk hc al;go_in;go_wp2_with (go_at_call 126;refine(CE.out _).mono ?_;rintro e w' ⟨rfl,rfl⟩;rw[V.out]);refine Bn ?_
  repeat(go_big_quiet_step (exact cT _ _))
  refine Bm fun wq bq=>?_
  go_wp2_with fail;go_ret;exact⟨AI S.out.symm,bq⟩
 .have t0:(x !=0)=true:=by simp[bY]
  cases hg:Bf x
  .have V:=AA (Eb hg)
   have S:=AA (show(!FJ Os f kind ss x)=true by rw[XD bY hg];rfl);clear H0 hI hv h1 h2 h3 h4 hk hc al hg bY;go_in;go_wp2_with (go_at_call 126;refine(CE.out _).mono ?_;rintro e w' ⟨rfl,rfl⟩;rw[V.out]);refine Bn ?_
   repeat(go_big_quiet_step (exact cT _ _))
   refine Bm fun wq bq=>?_
   go_wp2_with fail;go_ret;exact⟨AI S.out.symm,bq⟩
  .have hF:=EH hg
   have V:=AA (ER hg);have G:=AA (RT (Os:=Os) (f:=f) (kind:=kind) (ss:=ss) hg);obtain⟨b,aq,rfl,hb,D0,D1,D2⟩:=H0.zR (show A8 x<Os.length by omega);have d0:=yb D0;have d1:=yb D1;have M:=Tl (w1:=w) (fun W hW=>Oc v ss (zU Os (A8 x)).g W (BJ.below hv hW));obtain⟨av,cv,rfl,_,_⟩:=hv.shape;have i1:((A8 x:Nat):Int)<Os.length:=by omega
   clear H0 hI hv h1 h2 h3 h4 hk hc al D0 D1 D2 bY hg;generalize A8 x=o at*
   by_cases e1:o=f
   .have t1:((o:Int)==(f:Int))=true:=by simp[e1]
    have S:=AA (show(!FJ Os f kind ss x)=true by rw[G.out];simp[e1]);clear e1;go_in;go_wp2_with (go_at_call 126;refine(CE.out _).mono ?_;rintro e w' ⟨rfl,rfl⟩;rw[V.out]);refine Bn ?_
    repeat(go_big_quiet_step (first|exact cT _ _|exact M _ _))
    refine Bm fun wq bq=>?_
    go_wp2_with fail;go_ret;exact⟨AI S.out.symm,bq⟩
   .have t1:((o:Int)==(f:Int))=false:=by simp;omega
    by_cases e2:(zU Os o).k=kind - 1
    focus
     have t2:((zU Os o).k !=kind - 1)=false:=by simp[e2]
     have S:=AA (show(!FJ Os f kind ss x)=!Bv ss (zU Os o).g by rw[G.out];simp[e1,e2])
    rotate_left
    focus
     have t2:((zU Os o).k !=kind - 1)=true:=by simp[e2]
     have S:=AA (show(!FJ Os f kind ss x)=true by rw[G.out];simp[e2])
    rotate_left
    all_goals
     clear e1 e2;go_in;go_wp2_with (go_at_call 126;refine(CE.out _).mono ?_;rintro e w' ⟨rfl,rfl⟩;rw[V.out]);refine Bn ?_
     repeat(go_big_quiet_step (first|exact cT _ _|exact M _ _))
     refine Bm fun wq bq=>?_
     go_wp2_with fail;go_ret;exact⟨AI S.out.symm,bq⟩
theorem YS (v iv rv:Value) (m:List (List Int)) (Os:List AU) (f:Nat) (kind:Int) (ss:List ByteArray) (w:World) (h:Bc w v m) (am:Bs m=true) (hI:BU w iv Os) (hl:Os.length=12) (hf:f<12) (hk:Bb kind=true) (hv:BP w rv ss):
 Calls prog 75 #[v,iv, .int .i64 f, .int .i64 kind,rv] w fun e w'=>e= .returned (.bool (Im m Os f kind ss))/\Below w.heap.size w w':=by
 obtain⟨ai,ci,rfl,_,_⟩:=hI.shape;obtain⟨av,cv,rfl,_,_⟩:=hv.shape;have b4:=aC w (.cells #[.slice ai Os.length ci] 24) (.cells #[.int .i64 f] 3) (.cells #[.int .i64 kind] 3) (.cells #[.slice av ss.length cv] 60);have N0:=yw w (.cells #[.slice ai Os.length ci] 24);have N1:=yw (w.alloc (.cells #[.slice ai Os.length ci] 24)) (.cells #[.int .i64 f] 3);have N2:=yw ((w.alloc (.cells #[.slice ai Os.length ci] 24)).alloc (.cells #[.int .i64 f] 3)) (.cells #[.int .i64 kind] 3);have N3:=yw (((w.alloc (.cells #[.slice ai Os.length ci] 24)).alloc (.cells #[.int .i64 f] 3)).alloc (.cells #[.int .i64 kind] 3)) (.cells #[.slice av ss.length cv] 60);simp only[xG] at N1 N2 N3;have M2:=AC N2 (AD _ (.cells #[.slice av ss.length cv] 60));have M1:=AC N1 (Gu _ (.cells #[.int .i64 kind] 3) (.cells #[.slice av ss.length cv] 60));have M0:=AC N0 (YC _ (.cells #[.int .i64 f] 3) (.cells #[.int .i64 kind] 3) (.cells #[.slice av ss.length cv] 60));obtain⟨q,c,rfl,hc,al,H0⟩:=h.open;have cb:=(Ah.1 am).1;obtain⟨bm,bC,br,bB,cr,rfl,cw,D,cA,dj,W0⟩:=H0.row4 am hf;have D':=(b4.cell (p:=⟨bm,bC+f,none⟩) cw).trans D;have rd:=(Bc.open (Bc.below h b4));have cq:Ax ((((w.alloc (.cells #[.slice ai Os.length ci] 24)).alloc (.cells #[.int .i64 f] 3)).alloc (.cells #[.int .i64 kind] 3)).alloc (.cells #[.slice av ss.length cv] 60)) (.slice (some ⟨br,bB,none⟩) 4 cr) (AH m f):=by obtain⟨b',bX,u,e,_,di,hr⟩:=H0 f (by omega);cases e;rw[D] at di;cases di;exact Ax.below hr b4
 have S:=AA (show(!(AH m f).any fun x=>!FJ Os f kind ss x)=Im m Os f kind ss by rw[MT];rfl);have hw:∀x,x∈AH m f->x<=9999:=fun x hx=>((A5.1 ((Ah.1 am).2 f hf)).2 x hx).2
 have C:=AA (JW 133 #[.pointer (some ⟨w.heap.size+1,0,none⟩), .pointer (some ⟨w.heap.size,0,none⟩), .pointer (some ⟨w.heap.size+1+1,0,none⟩), .pointer (some ⟨w.heap.size+1+1+1,0,none⟩)] (fun x=>!FJ Os f kind ss x) _ (AH m f) _ cq (fun _ _=>by kernel_rfl) (by intro x hx W hW;have hb:=b4.trans (hW.mono b4.size);exact XC x f kind _ _ ss Os _ _ _ _ W (by have:=hw x hx;omega) (yi _ _ 0 _ _ _ (AC M1 hW)) (yi _ _ 0 _ _ _ (AC M0 hW)) (yi _ _ 0 _ _ _ (AC M2 hW)) (yi _ _ 0 _ _ _ (AC N3 hW)) (BJ.below hv hb) (BJ.below hI hb) hl hk))
 have fm:(f:Int)<m.length:=by omega
 clear hv hI h cq hw N0 N1 N2 N3 M0 M1 M2 W0 rd H0 D hl cb am;go_in;go_wp2_with (refine(C.out).mono ?_;rintro e w' ⟨rfl,ac⟩);go_ret;exact⟨AI S.out,b4.trans (ac.mono b4.size)⟩
def IP (m:List (List Int)) (Os:List AU) (t j g:Nat):Nat:=
 ((yE t).map fun u=>if Bb (zU Os u).k then(named (AH m u)).count g else 0).sum+(named ((AH m t).take j)).count g
def GX (m:List (List Int)) (Os:List AU) (t j:Nat):List Int:=(yE 12).map fun g=>(IP m Os t j g:Int)
section
variable {m:List (List Int)} {Os:List AU} {t j g:Nat}
theorem JM:(GX m Os t j).length=12:=by simp[GX]
theorem PB (h:g<12):nth (GX m Os t j) g=IP m Os t j g:=by unfold GX nth;rw[List.getD_eq_getElem?_getD,List.getElem?_map,List.getElem?_range h];rfl
theorem Qz:GX m Os 0 0=xX 12 0:=by simp[GX,IP,named,yE,List.range.loop,xX]
theorem ZV (hj:j<(AH m t).length) (h:Bf ((AH m t).getD j 0)=false):GX m Os t (j+1)=GX m Os t j:=by unfold GX IP;rw[KN hj,h];simp
theorem YH (hj:j<(AH m t).length) (h:Bf ((AH m t).getD j 0)=true):
 GX m Os t (j+1)=(GX m Os t j).set (A8 ((AH m t).getD j 0)) (IP m Os t j (A8 ((AH m t).getD j 0))+1):=by
 refine LZ (by simp[GX]) fun g hg=>?_
 rw[JM] at hg;have hf:=EH h;rw[Sz (by rw[JM];exact hf),PB hg,PB hg];unfold IP;rw[KN hj,h,if_pos rfl,List.count_append]
 by_cases e:g=A8 ((AH m t).getD j 0)
 .subst e;simp;omega
 .rw[if_neg e,List.count_singleton]
  have:(A8 ((AH m t).getD j 0)==g)=false:=by simp;exact fun h=>e h.symm
  rw[this];simp
theorem YG (hk:Bb (zU Os t).k=true) (hl:(AH m t).length=4):GX m Os t 4=GX m Os (t+1) 0:=by unfold GX IP;rw[xx (n:=t),wv (Nat.le_of_eq hl)];simp[hk,named]
theorem Qy (hk:Bb (zU Os t).k=false):GX m Os t 0=GX m Os (t+1) 0:=by unfold GX IP;rw[xx (n:=t)];simp[hk,named]
theorem Tr:GX m Os 12 0=(yE 12).map fun g=>(countP m Os g:Int):=by unfold GX IP countP;simp[named]
theorem PC (hm:Bs m=true) (ht:t<=12) (hj:j<=4):IP m Os t j g<=100:=by
 have h1:((yE t).map fun u=>if Bb (zU Os u).k then(named (AH m u)).count g else 0).sum<=4*t:=by
  clear hj
  induction t with
  |zero=>simp
  |succ t ih=>
   have:=ih (by omega);rw[xx,xH,List.sum_append];have h2:(if Bb (zU Os t).k then(named (AH m t)).count g else 0)<=4:=by
    split
    .have h3:=uN (a:=g) (l:=named (AH m t))
     have h4:=FB (r:=AH m t);have h5:=(A5.1 ((Ah.1 hm).2 t (by omega))).1;omega
    .omega
   simp only[List.map_cons,List.map_nil,List.sum_cons,List.sum_nil];omega
 have h3:=uN (a:=g) (l:=named ((AH m t).take j));have h4:=FB (r:=(AH m t).take j);rw[xW] at h4;unfold IP;omega
end
theorem Tv (v iv:Value) (m:List (List Int)) (Os:List AU) (w:World) (h:Bc w v m) (am:Bs m=true) (hI:BU w iv Os) (hl:Os.length=12):
 Calls prog 69 #[v,iv] w fun e w'=>∃v',e= .returned v'/\AG w.heap.size w' v' ((yE 12).map fun g=>(countP m Os g:Int))/\Below w.heap.size w w':=by
 obtain⟨q,c,rfl,hc,al,H0⟩:=h.open;obtain⟨a2,c2,rfl,b5,cf,H2⟩:=BJ.open Az (by decide) hI;have cb:=(Ah.1 am).1;unfold maxLen at al cf;rw[cb] at hc ⊢;rw[hl] at b5 ⊢;have bo:=AA am;have HR:=AA H0;have HI:=AA H2;have Hl:=AA hl;clear h am H0 H2 cb hI hl;go_in;go_wp2_with (at_make;go_must (refine Of (n:=12) rfl rfl 3 (.int .i64 0) 8 underlying29 Tryz.zK rfl rfl (by omega) (by unfold maxLen;omega) ?_;intro w1 a6 ab cK));have dm:AG w.heap.size w1 (.slice (some ⟨w.heap.size,0,none⟩) 12 12) (GX m Os 0 0):=by unfold AG;rw[JM,Qz];exact a6
 have bn:w.heap.size<=w.heap.size:=yv _;have dN:=AA ab;clear a6 ab;go_loopw [16] (fun i wr=>∃t:Nat,t<=12/\i= .int .i64 t/\AG w.heap.size wr (.slice (some ⟨w.heap.size,0,none⟩) 12 12) (GX m Os t 0)/\Below w.heap.size w wr) (fun i _=>12 - (intOf i).toNat)
 case atStart=>exact⟨0,yh _,rfl,dm,dN.out⟩
 case round=>
  obtain⟨t,ht,rfl,hO,ab⟩:=hrel;clear dm
  by_cases an:t<12
  .obtain⟨b,aq,rfl,bb,D0,D1,D2⟩:=HI.out.zR (show t<Os.length by rw[Hl.out];exact an)
   replace D0:=(ab.cell (p:=⟨b,aq+t*3,none⟩) bb).trans D0;replace D1:=(ab.cell (p:=⟨b,aq+t*3+1,none⟩) bb).trans D1;replace D2:=(ab.cell (p:=⟨b,aq+t*3+2,none⟩) bb).trans D2;have N:=yw wr (.cells #[.int .i64 (zU Os t).k, .string (zU Os t).g, .int .i64 (zU Os t).r] 93);have bz:=ab.trans ((AD wr (.cells #[.int .i64 (zU Os t).k, .string (zU Os t).g, .int .i64 (zU Os t).r] 93)).mono ab.size);have HO:=AA (AG.below hO (AD wr (.cells #[.int .i64 (zU Os t).k, .string (zU Os t).g, .int .i64 (zU Os t).r] 93)));have CT:=AA (fun W=>IT (zU Os t).k W);clear hO;obtain⟨bm,bC,br,bB,cr,rfl,cw,M0,cA,dj,W0⟩:=HR.out.row4 bo.out an;have HW:=AA W0;have M:=(bz.cell (p:=⟨bm,bC+t,none⟩) cw).trans M0;have cl:=AA (A5.1 ((Ah.1 bo.out).2 _ an)).1;clear W0 M0;cases hk:Bb (zU Os t).k
   .have S:=AA (Qy (m:=m) hk)
    have HK:=AA hk;clear hk;go_wp2_with (go_at_call 74;refine(CT.out _).mono ?_;rintro e w' ⟨rfl,rfl⟩;rw[HK.out]);go_roundw
    case rel=>exact⟨t+1,by omega,by go_num,by rw[<-S.out];exact HO.out,bz⟩
    case measure=>simp[intOf];omega
   .have S:=AA (YG (m:=m) hk cl.out)
    have HK:=AA hk;clear hk;go_wp2_with (go_at_call 74;refine(CT.out _).mono ?_;rintro e w' ⟨rfl,rfl⟩;rw[HK.out]);generalize wr.alloc _=wa at*;clear D0 D1 D2 M N ab;have HB:=AA bz;clear bz;go_loopw [30] (fun i wi=>∃j:Nat,j<=4/\i= .int .i64 j/\AG w.heap.size wi (.slice (some ⟨w.heap.size,0,none⟩) 12 12) (GX m Os t j)/\Below w.heap.size w wi) (fun i _=>4 - (intOf i).toNat)
    case atStart=>exact⟨0,by omega,rfl,HO.out,HB.out⟩
    case round=>
     obtain⟨j,hj,rfl,b7,bx⟩:=hrel
     by_cases bK:j<4
     .have W:=(bx.cell (p:=⟨br,bB+j,none⟩) cA).trans (HW.out j bK)
      have wb:=Gr bo.out an bK;have CE:=AA (fun W=>FN (As m t j) W (by omega));cases hg:Bf (As m t j)
      .have V:=AA (Eb hg)
       have E:=AA (ZV (Os:=Os) (show j<(AH m t).length by rw[cl.out];exact bK) hg);clear hg;go_wp2_with (go_at_call 126;refine(CE.out _).mono ?_;rintro e w' ⟨rfl,rfl⟩;rw[V.out]);go_roundw
       case rel=>exact⟨j+1,by omega,by go_num,by rw[E.out];exact b7,bx⟩
       case measure=>simp[intOf];omega
      .have V:=AA (ER hg)
       have hF:=EH hg;have E:=AA (YH (Os:=Os) (show j<(AH m t).length by rw[cl.out];exact bK) hg);have cU:=PC (Os:=Os) (g:=A8 (As m t j)) bo.out (Nat.le_of_lt an) hj;have bW:wr.ownsRow w.heap.size 3 1 (.slice (some ⟨w.heap.size,0,none⟩) 12 12) 12 ((GX m Os t j).map (yf .i64)):=by have:=b7;unfold AG at this;rwa [JM] at this
       have C:=(bW.cellAt (A8 (As m t j)) (by omega)).trans (FQ (xs:=GX m Os t j) (by rw[JM];exact hF));rw[PB hF] at C;have Fr:=bW.frozenAt (A8 (As m t j));have S2:=AA (bW.stored (A8 (As m t j)) (.int .i64 ((IP m Os t j (A8 (As m t j)):Int)+1)));have e0:(AH m t).getD j 0=As m t j:=rfl;rw[e0] at E;clear hg e0 bW b7;generalize A8 (As m t j)=f at*;generalize IP m Os t j f=n at*;go_wp2_with (go_at_call 126;refine(CE.out _).mono ?_;rintro e w' ⟨rfl,rfl⟩;rw[V.out]);go_roundw
       case rel=>refine⟨j+1,by omega,by go_num,?_,AM bx S2.out.2 bn bx.size⟩;rw[E.out];unfold AG;rw[xV,JM,List.map_set];exact S2.out.1
       case measure=>simp[intOf];omega
     .obtain rfl:j=4:=by omega
      go_wp2_with fail;go_roundw
      case rel=>exact⟨t+1,by omega,by go_num,by rw[<-S.out];exact b7,bx⟩
      case measure=>simp[intOf];omega
  .obtain rfl:t=12:=by omega
   rw[Tr] at hO;go_wp2_with fail;go_ret;exact⟨_,rfl,hO,ab⟩
end Go.Proofs.YtinbcpipjfljeaaGreatDoor
