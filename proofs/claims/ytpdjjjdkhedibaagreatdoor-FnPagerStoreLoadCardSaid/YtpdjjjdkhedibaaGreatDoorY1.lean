/-
  Packed:50 texts.
-/
import Derived.Lib.Strings
import Derived.Test.YtpdjjjdkhedibaaGreatDoorRows
import Derived.WalkKit
import Derived.WalkSpells
import Derived.WalkLawsBesides
import Derived.Deep.QuietTactic
import Derived.BigQuiet
import Derived.Deep.LoopGhost
import Derived.Deep.RegionHeld3
import Derived.Lib.Hide
import Derived.Handy
import Derived.Laws.AppendOwnNone
import Derived.StillTailTactics
import Derived.Maps.AppendAt
import Derived.Lib.QuietBelow
import Derived.Outline
import Derived.Lib.SliceRun
import Derived.ArgAppend
import Derived.Ground.NamesProg
import Derived.Ground.Names2Prog
import Derived.Shelf.Slices.CompactI
import Derived.Shelf.Slices.Turned
import Derived.Shelf.Sort.Plain
import Derived.Shelf.Spec.SearchS
import Derived.Shelf.Spec.SlicesInsertGrow
import Derived.Shelf.Strings.Prefix
import Derived.Shelf.Strings.SlTrimAscii
import Derived.Test.YtpdjjjdkhedibaaGreatDoorProg
import Derived.Sort.OwnSortedInts
import Derived.Shelf.Slices.In.SortNone
set_option linter.unusedVariables false
set_option linter.unusedSimpArgs false
set_option maxHeartbeats 16000000
set_option maxRecDepth 100000
open Go Go.Proofs.YtpdjjjdkhedibaaGreatDoor
open _root_.Array renaming ext_getElem?->sS,getD_eq_getD_getElem?->tU,getElem?_eq_some_iff->wM,getElem?_setIfInBounds_ne->wk,length_toList->sW,ofFn->sT,replicate->sj
open Bool renaming and_eq_true->yu,not_eq_false->wL,not_eq_true'->uj,or_eq_true->xE,true_and->wt
open _root_.ByteArray renaming getElem_eq_getElem_data->uH
open Decidable renaming not_not->uB
open Go.Addr renaming add->um
open Go.Builtin renaming append_->vF,clear_->tX,lenOf->sh,zeroCells->xF
open Go.Code renaming region->vO
open Go.Instr renaming fieldAt->vi,loadAt->xz
open Go.IntKind renaming i64->wR
open Go.IntWalk renaming i64_in->xA
open Go.Lib renaming compact->wG,compactUpTo->tP,run_eql_slice_nil->wE,toList_data->xj,trimS->uw
open Go.Op renaming bytesLess->wy
open Go.Oper renaming upon_enter->tG,wp->vj
open Go.Proofs.Tryz renaming isAgg0->tW,isAgg29->tr,isAgg3->uF,isAgg4->uE,isAgg9->sV,results104->uS,sizeOf0->uh,sizeOf174->rP,sizeOf29->tD,sizeOf3->uW,sizeOf4->uV,sizeOf9->tu,zeroValue0->uT,zeroValue174->sk,zeroValue29->tZ,zeroValue3->vA,zeroValue4->vz,zeroValue5->rW,zeroValue9->tT
open Go.Region renaming binds->ut,chainB->sd,sinkB->rQ,waitsFor->xV,waitsFor_spec->tv,wanted->wY
open Go.Result renaming andThen_ok->vY
open Go.RowKit.Below renaming refl->yD
open Go.RowKit renaming Hid->vf
open Go.Sem renaming run_bind->vq
open Go.Shelf renaming Ren->vg
open Go.Sort renaming grow->vp
open Go.Value renaming int->xY,oneCell'->xG,ownBlock->vK,string->uo
open Go.World renaming block_lt_of_cell?->yA,cell?_of_block->vX,ownsRow_lit->sK,ownsRow_nil->xh,size_alloc->xx
open Go.World.ownsRow renaming cellAt->xB,frozenAt->xJ,kept->vI,lt->yk,stored->wJ
open Go renaming bodyPost_ret->yr,cell_of_row->ym,cell_regrown->xX,getD_replicate_false->uq,heap_alloc_new->yi,heap_setCell_same->yq,info_parts->tY,run_underlying->tg,wpList_append_own_none->sr
open Int renaming emod_lt_of_pos->vo,emod_nonneg->tQ,tmod_eq_emod_of_nonneg->vS,toNat_natCast->yd
open List renaming all_eq_false->wP,all_eq_not_any_not->tA,all_eq_true->xZ,any_eq_false->ul,any_eq_true->vP,cons_lt_cons_iff->uM,countP_cons->wZ,countP_le_length->vW,countP_pos_iff->uy,count_cons->rZ,count_eq_zero->ur,dropWhile_cons->sO,drop_drop->uG,eq_nil_of_length_eq_zero->xM,ext_getElem?->sq,filter_append->wm,filter_cons->vN,filter_eq_self->uz,find?_eq_none->sH,find?_some->r9,findIdx_eq->tH,findIdx_getElem->vC,findIdx_lt_length->vM,foldl_cons->yz,getD_cons_succ->sQ,getD_cons_zero->sR,getD_eq_getElem?_getD->xO,getElem?_append_left->wW,getElem?_drop->sJ,getElem?_eq_getElem->yw,getElem?_eq_some_iff->yt,getElem?_map->xm,getElem?_of_mem->xq,getElem?_set->vV,getElem?_take->ve,getElem?_take_eq_none->tO,getElem?_take_of_lt->vh,getElem_mem->ud,getElem_of_mem->wS,isEmpty->ui,isEmpty_iff->tR,length_append->yj,length_cons->vT,length_drop->wT,length_filter_le->xy,length_map->uJ,length_nil->wU,length_pos_of_mem->tx,length_set->xP,length_take->xT,map_append->xC,map_cons->vE,map_nil->uX,mem_append->wC,mem_append_left->sY,mem_append_right->uL,mem_cons->xD,mem_cons_of_mem->vD,mem_cons_self->we,mem_filter->wQ,mem_flatMap->wK,mem_map->vH,mem_of_getElem?->yh,mem_of_mem_drop->uI,mem_of_mem_take->uK,mem_or_eq_of_mem_set->vk,mem_range->xS,mem_reverse->vd,mem_singleton->wX,mem_take_iff_getElem->tF,pairwise_append->sX,pairwise_cons->sy,pairwise_iff_getElem->vU,range->yC,range_succ->xt,replicate->xR,set_cons_succ->sA,set_cons_zero->sF,sum_append->wI,sum_cons->uv,sum_nil->uk,takeWhile_append_dropWhile->uf,take_append_drop->tf,take_left'->rX,take_length->xo,take_take->tN
open Nat renaming add_zero->xK,eq_zero_or_pos->wj,le_refl->yv,le_trans->yB,lt_of_lt_of_le->xW,lt_or_ge->th,lt_succ_iff_lt_or_eq->xl,min_eq_left->ux,mod_eq_of_lt->rY,mod_lt->sp,mul_le_mul_right->wA,mul_one->wB,not_lt_zero->xN,succ_mul->uU,zero_le->yg
open Option renaming bind_some->vJ,getD_some->sG,isSome_iff_exists->vl
variable {B hf f id lo' t:Nat} {ss:List ByteArray} {rest:List Oper} {s:ByteArray} {w0 w1 wr:World} {c:Value} {m da:List (List Int)} {vs:List Value} {F:Nat->Nat} {r:List Int} {ns:List Nat}
namespace Go.Proofs.YtpdjjjdkhedibaaGreatDoor
open Go.Proofs.Tryz
theorem Lu_{L:Nat->Bool}{W:Nat->Nat->Bool}{i:Nat}{B:Prop}(hc:vf (L i=false/\B/\∀j j',L j=true->W j j'=true->L j'=true))(s:Nat)(h:W s i=true:=by kernel_rfl):L s=false:=by
 cases E:L s
 .rfl
 .exact absurd (hc.2.2 s i E h) (by rw[hc.1];decide)
theorem yF.{u_}{α:Type u_}{a b:α}(h:some a=some b):a=b:=Option.some.inj h
theorem AA{p:Prop}(h:p):vf p:=h
theorem Ba{P:Nat->Prop}{Q:∀i,P i->Prop}(hc:vf (∀i (h:P i),Q i h))(i:Nat)(h:P i:=by kernel_rfl):Q i h:=hc i h
theorem Cw{P R:Nat->Prop}{Q:∀i,P i->R i->Prop}{hi C:Prop}{S:Nat->Prop}(hc:vf (∀i (h:P i) (g:R i),Q i h g))(L:vf (hi/\(∀i,S i->P i)/\C))(i:Nat)(h:S i:=by kernel_rfl)(g:R i:=by decide):Q i (L.2.1 i h) g:=hc i (L.2.1 i h) g
theorem PI{hi B:Prop}{P:Nat->Prop}{Q:∀i,P i->Prop}(hc:vf (hi/\B/\∀i (h:P i),Q i h))(i:Nat)(h:P i:=by decide):Q i h:=hc.2.2 i h
theorem BS{P:Nat->Prop}{Q:∀i,P i->Prop}(hc:∀i (h:P i),Q i h)(i:Nat)(h:P i:=by decide):Q i h:=hc i h
structure Ac where
 k:Int
 e:Int
 a:Int
 b:Int
 c:Int
 nm:ByteArray
structure AV where
 k:Int
 g:ByteArray
 r:Int
 deriving DecidableEq
def AV.zero:AV:=⟨0,⟨#[]⟩,0⟩
structure Ad where
 e:Int
 p:Int
 f:Int
 w:Bool
 deriving DecidableEq
structure Eh where
 zT:List ByteArray
 root:Int
 deriving DecidableEq
structure AO where
 mem:List (List Int)
 zZ:List AV
 zX:List Eh
 zW:List Ad
 deriving DecidableEq
def BZ(n lo A:Int):Bool:=decide (lo<=n)&&decide (n<=A)
theorem AZ{n lo A:Int}:BZ n lo A=true↔lo<=n/\n<=A:=by simp[BZ]
theorem WK{n lo A:Int}:BZ n lo A=false↔n<lo∨A<n:=by by_cases J:lo<=n<;>by_cases O:n<=A<;>simp[BZ,J,O]<;>omega
def FU(c:UInt8):Bool:=decide (97<=c.toNat)&&decide (c.toNat<=99)
def BV(s:ByteArray):Bool:=s.data.toList.all FU&&decide (s.size<=4)
def Di(ss:List ByteArray)(k:Nat):ByteArray:=ss.getD k ⟨#[]⟩
theorem If{k:Nat}(h:k<ss.length):ss[k]?=some (Di ss k):=by simp[Di,h]
def Ud(a b:ByteArray):Bool:=!wy a.toList b.toList
def Cv(ss:List ByteArray)(i:Nat):Bool:=BV (Di ss i)&&(decide (i=0)||!Ud (Di ss (i - 1)) (Di ss i))
def BW(ss:List ByteArray):Bool:=(yC ss.length).all (Cv ss)&&decide (ss.length<=6)
def LZ(a b:ByteArray):Bool:=a.data.toList.isPrefixOf b.data.toList
def By(zT:List ByteArray)(g:ByteArray):Bool:=zT.any λs=>LZ s g
def Dk(n:Int):Bool:=BZ n 0 9999
def Ds(r:List Int):Bool:=r.all Dk&&decide (r.length=4)
def Bu(m:List (List Int)):Bool:=m.all Ds&&decide (m.length=12)
def Bm(w:Int):Bool:=decide (0<w)&&decide (w%2=1)&&decide (w<48)
def BC(w:Int):Nat:=(w/4).toNat
def Ko(w:Int):Bool:=decide (w%4=3)
def AG(m:List (List Int))(f:Nat):List Int:=m.getD f []
def As(m:List (List Int))(f i:Nat):Int:=(AG m f).getD i 0
def zS(l:List AV)(f:Nat):AV:=l.getD f AV.zero
def AJ(l:List Eh)(f:Nat):Eh:=l.getD f ⟨[],0⟩
def DU(x:AV):Bool:=decide (x=AV.zero)||(BZ x.k 1 3&&BV x.g&&BZ x.r 0 50)
def BP(l:List AV):Bool:=l.all DU&&decide (l.length=12)
def named(r:List Int):List Nat:=(r.filter Bm).map BC
def Bh(k:Int):Bool:=decide (k=2)||decide (k=3)
def VO(k:Int):Int:=if Bh k then k - 1 else 0
def Be(m:List (List Int))(root:Int):List Nat:=
 if root<0 then[] else root.toNat::(named (AG m root.toNat)++(named (AG m root.toNat)).flatMap λt=>named (AG m t))
def BM(zZ:List AV)(fs:List Nat)(zT:List ByteArray):Bool:=fs.all λf=>By zT (zS zZ f).g
def Fc(zZ:List AV)(f:Nat)(kind:Int)(zT:List ByteArray)(w:Int):Bool:=
 if Bm w then decide (BC w≠f)&&decide ((zS zZ (BC w)).k=kind - 1)&&By zT (zS zZ (BC w)).g else decide (w=0)
def JN(m:List (List Int))(zZ:List AV)(f:Nat)(kind:Int)(zT:List ByteArray):Bool:=(AG m f).all (Fc zZ f kind zT)
def countP(m:List (List Int))(zZ:List AV)(g:Nat):Nat:=
 ((yC 12).map λt=>if Bh (zS zZ t).k then(named (AG m t)).count g else 0).sum
def Ee(zX:List Eh)(g:Nat):Nat:=zX.countP λe=>decide (e.root=(g:Int))
def Bl(x:Ad):Bool:=BZ x.e 0 2&&BZ x.p 0 15&&BZ x.f 0 11
def BB(e p:Int)(y:Ad):Bool:=decide (y.e=e)&&decide (y.p=p)
def GC(c:List Ad)(e p:Int):Int:=if c.any (BB e p) then(c.findIdx (BB e p):Nat) else -1
def AT(c:List Ad)(i:Nat):Ad:=c.getD i ⟨0,0,0,false⟩
def Cy(c:List Ad)(i:Nat):Bool:=Bl (AT c i)&&!(c.take i).any (BB (AT c i).e (AT c i).p)
def BT(c:List Ad):Bool:=(yC c.length).all (Cy c)&&decide (c.length<=4)
def Bq(m:List (List Int))(root a:Nat):Int×Nat×Bool:=
 if Bm (As m root (a/16)) then
  if Bm (As m (BC (As m root (a/16))) (a/4%4)) then(0,BC (As m (BC (As m root (a/16))) (a/4%4)),Ko (As m root (a/16))&&Ko (As m (BC (As m root (a/16))) (a/4%4)))
  else(2,0,false)
 else(1,0,false)
def ED(k:AO)(e:Eh):Bool:=BW e.zT&&(decide (e.root= -1)||(BZ e.root 0 11&&decide ((zS k.zZ e.root.toNat).k=3)))&&BM k.zZ (Be k.mem e.root) e.zT
def JH(k:AO):Bool:=k.zX.all (ED k)&&decide (k.zX.length=3)
def Dh(k:AO)(f:Nat):Bool:=!Bh (zS k.zZ f).k||JN k.mem k.zZ f (zS k.zZ f).k [⟨#[]⟩]
def HZ(k:AO)(f:Nat):Bool:=decide ((zS k.zZ f).r=(countP k.mem k.zZ f:Int)+(Ee k.zX f:Int))
def Ct(k:AO)(x:Ad):Bool:=decide (0<=(AJ k.zX x.e.toNat).root)&&decide (Bq k.mem (AJ k.zX x.e.toNat).root.toNat (4*x.p.toNat)=(0,x.f.toNat,x.w))
def Cr(k:AO):Bool:=Bu k.mem&&BP k.zZ&&BT k.zW&&JH k&&(yC 12).all (Dh k)&&(yC 12).all (HZ k)&&k.zW.all (Ct k)
def At{α:Type}(l:List α)(i:Nat)(f:α->α):List α:=match l[i]? with
 |some x=>l.set i (f x)
 |none=>l
def Jk(n:Int)(x:AV):AV:= {x with r:=x.r+n}
def Bn(zZ:List AV)(fs:List Nat)(n:Int):List AV:=fs.foldl (λl g=>At l g (Jk n)) zZ
def Am(zZ:List AV):Int:=if zZ.any (λx=>decide (x.k=0)) then(zZ.findIdx (λx=>decide (x.k=0)):Nat) else -1
def Ef(kind:Int)(x:AV):AV:= {x with k:=kind}
def IF(m:List (List Int))(zZ:List AV)(f:Nat)(kind:Int)(zT:List ByteArray):List AV×Int:=
 if(zS zZ f).k≠1∨(zS zZ f).r≠0 then(zZ,1)
 else if JN m zZ f kind zT=false then(zZ,2)
 else if BP (At (Bn zZ (named (AG m f)) 1) f (Ef kind)) then(At (Bn zZ (named (AG m f)) 1) f (Ef kind),0) else(zZ,1)
def Dz(m:List (List Int))(zZ:List AV)(f:Nat):List AV×Int:=
 if Bh (zS zZ f).k=false∨(zS zZ f).r≠0 then(zZ,1)
 else if BP (At (Bn zZ (named (AG m f)) (-1)) f (Ef 1)) then(At (Bn zZ (named (AG m f)) (-1)) f (Ef 1),0) else(zZ,2)
def TY(ss:List ByteArray)(s:ByteArray):List ByteArray:=ss.takeWhile (λx=>!Ud x s)++s::ss.dropWhile (λx=>!Ud x s)
def Cs(ss:List ByteArray)(s:ByteArray):List ByteArray×Bool:=if ss.any (λx=>decide (x=s)) then(ss,true) else if ss.length=6 then(ss,false) else(TY ss s,true)
def DK(ss:List ByteArray)(s:ByteArray):List ByteArray:=ss.filter λr=>!LZ s r
def Ga(c:List Ad)(x:Ad):List Ad:=
 (if(c.filter λy=>!BB x.e x.p y).length=4 then(c.filter λy=>!BB x.e x.p y).drop 1 else c.filter λy=>!BB x.e x.p y)++[x]
def GJ(c:List Ad)(e:Int):List Ad:=c.filter λy=>decide (y.e≠e)
def Bz(m:List (List Int))(f i:Nat)(w:Int):List (List Int):=At m f λr=>r.set i w
def Fl(k:AO)(e:Int)(g:ByteArray):Bool:=By (AJ k.zX e.toNat).zT g
abbrev Mh:=AO×Int×Int
def JO(k:AO)(c:Ac):Mh:=
 if BV c.nm=false then(k,0,3)
 else if Fl k c.e c.nm=false then(k,0,1)
 else if Am k.zZ<0 then(k,0,4)
 else({k with zZ:=k.zZ.set (Am k.zZ).toNat ⟨1,c.nm,0⟩,mem:=k.mem.set (Am k.zZ).toNat [0,0,0,0]},Am k.zZ,0)
def KR(k:AO)(c:Ac):Mh:=
 if(zS k.zZ c.a.toNat).k≠1 then(k,0,3)
 else if(zS k.zZ c.a.toNat).r≠0 then(k,0,2)
 else({k with zZ:=k.zZ.set c.a.toNat AV.zero},0,0)
def Kb(k:AO)(c:Ac):Mh:=
 if(zS k.zZ c.a.toNat).k≠1∨BZ c.b 0 3=false∨Dk c.c=false then(k,0,3)
 else({k with mem:=Bz k.mem c.a.toNat c.b.toNat c.c},0,0)
def NU(n:Int):Int:=if n=0 then 0 else if n=1 then 2 else 3
def ET(k:AO)(r:List AV×Int):Mh:=if r.2=0 then({k with zZ:=r.1},0,0) else(k,0,NU r.2)
def DY(k:AO)(w:Int):List Nat:=if Bm w then BC w::(if Bh (zS k.zZ (BC w)).k then named (AG k.mem (BC w)) else[]) else[]
def Fo(k:AO)(a:Nat):List Nat:=(yC 3).filter λe=>(Be k.mem (AJ k.zX e).root).contains a
def A5(zZ:List AV)(w:Int)(n:Int):List AV:=if Bm w then At zZ (BC w) (Jk n) else zZ
def Dt(k:AO)(c:Ac):Bool:=if Bm c.c then decide ((zS k.zZ (BC c.c)).k=(zS k.zZ c.a.toNat).k - 1) else decide (c.c=0)
def H7(k:AO)(c:Ac):Mh:=
 if Bh (zS k.zZ c.a.toNat).k=false∨BZ c.b 0 3=false∨Dt k c=false then(k,0,3)
 else if(Fo k c.a.toNat).all (λe=>BM k.zZ (DY k c.c) (AJ k.zX e).zT)=false then(k,0,1)
 else if Bm c.c=true/\Fl k c.e (zS k.zZ (BC c.c)).g=false then(k,0,1)
 else({k with mem:=Bz k.mem c.a.toNat c.b.toNat c.c,zZ:=A5 (A5 k.zZ (As k.mem c.a.toNat c.b.toNat) (-1)) c.c 1,zW:=(Fo k c.a.toNat).foldl (λc e=>GJ c (e:Nat)) k.zW},0,0)
def D5(n:Int)(e:Eh):Eh:= {e with root:=n}
def PA(k:AO)(c:Ac):Mh:=
 if c.a≠ -1/\(BZ c.a 0 11=false∨(zS k.zZ c.a.toNat).k≠3) then(k,0,3)
 else if BM k.zZ (Be k.mem c.a) (AJ k.zX c.e.toNat).zT=false then(k,0,1)
 else
  let i1:=if 0<=(AJ k.zX c.e.toNat).root then At k.zZ (AJ k.zX c.e.toNat).root.toNat (Jk (-1)) else k.zZ
  ({k with zZ:=if 0<=c.a then At i1 c.a.toNat (Jk 1) else i1,zX:=At k.zX c.e.toNat (D5 c.a),zW:=GJ k.zW c.e},0,0)
def Bc(ss:List ByteArray)(e:Eh):Eh:= {e with zT:=ss}
def Lc(k:AO)(c:Ac):Mh:=
 if BZ c.a 0 2=false∨BV c.nm=false then(k,0,3)
 else if Fl k c.e c.nm=false then(k,0,1)
 else if(Cs (AJ k.zX c.a.toNat).zT c.nm).2=false then(k,0,4)
 else({k with zX:=At k.zX c.a.toNat (Bc (Cs (AJ k.zX c.a.toNat).zT c.nm).1)},0,0)
def KB(k:AO)(c:Ac):Mh:=
 if BZ c.a 0 2=false∨c.a=c.e∨BV c.nm=false then(k,0,3)
 else if Fl k c.e c.nm=false then(k,0,1)
 else if BM k.zZ (Be k.mem (AJ k.zX c.a.toNat).root) (DK (AJ k.zX c.a.toNat).zT c.nm)=false then(k,0,2)
 else({k with zX:=At k.zX c.a.toNat (Bc (DK (AJ k.zX c.a.toNat).zT c.nm))},0,0)
def Iz(k:AO)(c:Ac):Mh:=
 let root:=(AJ k.zX c.e.toNat).root
 if BZ c.a 0 63=false∨root<0∨(c.k=11/\Dk c.b=false) then(k,0,3)
 else
  let x:=Bq k.mem root.toNat c.a.toNat
  if x.1≠0 then(k,0,3)
  else if c.k=11/\x.2.2=false then(k,0,1)
  else
   let zW:=if GC k.zW c.e (c.a/4)<0 then Ga k.zW ⟨c.e,c.a/4,x.2.1,x.2.2⟩ else k.zW
   if c.k=11 then({k with mem:=Bz k.mem x.2.1 (c.a%4).toNat c.b,zW:=zW},0,0)
   else({k with zW:=zW},As k.mem x.2.1 (c.a%4).toNat,0)
def Gt(k:AO)(c:Ac):Mh:=
 if BZ c.a 0 11=false∨(zS k.zZ c.a.toNat).k=0∨(c.k=4/\Bh c.b=false) then(k,0,3)
 else if Fl k c.e (zS k.zZ c.a.toNat).g=false then(k,0,1)
 else if c.k=2 then KR k c
 else if c.k=3 then Kb k c
 else if c.k=4 then ET k (IF k.mem k.zZ c.a.toNat c.b (AJ k.zX c.e.toNat).zT)
 else if c.k=5 then ET k (Dz k.mem k.zZ c.a.toNat)
 else H7 k c
def Ae(k:AO)(c:Ac):Mh:=
 if c.k=1 then JO k c
 else if BZ c.k 2 6 then Gt k c
 else if c.k=7 then PA k c
 else if c.k=8 then Lc k c
 else if c.k=9 then KB k c
 else if c.k=10∨c.k=11 then Iz k c
 else(k,0,3)
open Go.RowKit
def nth(xs:List Int)(k:Nat):Int:=xs.getD k 0
def Rd(w:World)(v:Value)(sz n:Nat)(xs:List Value):Prop:=
 ∃a V,v=.slice a n V/\n<=V/\V<=maxLen/\xs.length=n*sz/\(a=none->V=0)/\
  (0<n->∃b X,a=some ⟨b,X,none⟩/\∀j,j<n*sz->w.cell? ⟨b,X+j,none⟩=xs[j]?)
theorem Rd.of_owns{w:World}{base e sz n:Nat}{v:Value}{xs:List Value}(h:w.ownsRow base e sz v n xs):Rd w v sz n xs:=by
 rcases h.2 with⟨rfl,rfl⟩|⟨g,V,bD,rfl,Y,Z,bK,aq,dp,htake⟩
 .exact⟨none,0,rfl,yv _,by simp[maxLen],h.1,λ_=>rfl,λh=>absurd h (Nat.lt_irrefl _)⟩
 .refine⟨_,_,rfl,bK,aq,h.1,(λh=>by cases h),λ_=>⟨g,0,rfl,λj D=>?_⟩⟩
  have:=h.cellAt j D;simpa using this
theorem Rd.keep{w w':World}{sz n:Nat}{v:Value}{xs:List Value}(h:Rd w v sz n xs)(z:∀k,k<w.heap.size->w'.heap[k]?=w.heap[k]?):Rd w' v sz n xs:=by
 obtain⟨a,V,rfl,bK,aq,hl,a6,H⟩:=h;refine⟨a,V,rfl,bK,aq,hl,a6,λhn=>?_⟩;obtain⟨b,X,rfl,ax⟩:=H hn;refine⟨b,X,rfl,λj D=>?_⟩;have J:=ax j D;have eR:∃u,xs[j]?=some u:=⟨xs[j]'(by omega),yw (by omega)⟩
 obtain⟨u,hu⟩:=eR;rw[hu] at J ⊢;have am:=yA w _ J;exact(vX (z _ am)).trans J
theorem Rd.below{w w':World}{sz n:Nat}{v:Value}{xs:List Value}(h:Rd w v sz n xs)(Y:Below w.heap.size w w'):Rd w' v sz n xs:=h.keep Y.block
theorem Rd.drewN{w:World}{sz n:Nat}{v:Value}{xs:List Value}(h:Rd w v sz n xs)(k:Nat):Rd (w.drewN k) v sz n xs:=h.keep (λ_ _=>rfl)
theorem Rd.alloc{w:World}{sz n:Nat}{v:Value}{xs:List Value}(h:Rd w v sz n xs)(o:Obj):Rd (w.alloc o) v sz n xs:=h.keep (λk z=>(World.grownBy_alloc w o none).block k z (by simp))
def Ax(w:World)(v:Value)(xs:List Int):Prop:=Rd w v 1 xs.length (xs.map (xY .i64))
def JD(w:World)(a:Option Addr)(xs:List Int):Prop:=
 ∀k,k<xs.length->∃b X,a=some ⟨b,X,none⟩/\∀j,j<xs.length->w.cell? ⟨b,X+j,none⟩=some (.int .i64 (nth xs j))
theorem QR{xs:List Int}{k:Nat}(h:k<xs.length):xs[k]?=some (nth xs k):=by simp[nth,h]
theorem Mq{xs:List Int}{k:Nat}(h:k<xs.length):nth xs k=xs[k]:=by simp[nth,h]
theorem Ax.open{w:World}{v:Value}{xs:List Int}(h:Ax w v xs):
 ∃a V,v=.slice a xs.length V/\xs.length<=V/\V<=maxLen/\JD w a xs:=by
 obtain⟨a,V,rfl,bK,aq,hl,_,H⟩:=h;refine⟨a,V,rfl,bK,aq,λk z=>?_⟩;obtain⟨b,X,rfl,ax⟩:=H (by omega);refine⟨b,X,rfl,λj D=>?_⟩;rw[ax j (by omega),xm,QR D];rfl
theorem JD.at{w:World}{a:Option Addr}{xs:List Int}(h:JD w a xs){k:Nat}(z:k<xs.length):
 ∃b X,a=some ⟨b,X,none⟩/\w.cell? ⟨b,X+k,none⟩=some (.int .i64 (nth xs k)):=by
 obtain⟨b,X,rfl,H⟩:=h k z;exact⟨b,X,rfl,H k z⟩
theorem JD.keep{w w':World}{a:Option Addr}{xs:List Int}(h:JD w a xs)(z:∀k,k<w.heap.size->w'.heap[k]?=w.heap[k]?):JD w' a xs:=by
 intro k fS;obtain⟨b,X,rfl,H⟩:=h k fS;exact⟨b,X,rfl,λj D=>(vX (z _ (yA w _ (H j D)))).trans (H j D)⟩
theorem JD.below{w w':World}{a:Option Addr}{xs:List Int}(h:JD w a xs)(Y:Below w.heap.size w w'):JD w' a xs:=h.keep Y.block
theorem Ax.below{w w':World}{v:Value}{xs:List Int}(h:Ax w v xs)(Y:Below w.heap.size w w'):Ax w' v xs:=Rd.below h Y
theorem Ax.drewN{w:World}{v:Value}{xs:List Int}(h:Ax w v xs)(k:Nat):Ax (w.drewN k) v xs:=Rd.drewN h k
theorem Ax.keep{w w':World}{v:Value}{xs:List Int}(h:Ax w v xs)(z:∀k,k<w.heap.size->w'.heap[k]?=w.heap[k]?):Ax w' v xs:=Rd.keep h z
theorem Ax.alloc{w:World}{v:Value}{xs:List Int}(h:Ax w v xs)(o:Obj):Ax (w.alloc o) v xs:=Rd.alloc h o
def AF(lo:Nat)(w:World)(v:Value)(xs:List Int):Prop:=w.ownsRow lo 3 1 v xs.length (xs.map (xY .i64))
theorem AF.rd{lo:Nat}{w:World}{v:Value}{xs:List Int}(h:AF lo w v xs):Ax w v xs:=Rd.of_owns h
theorem AH{a b:Bool}(h:a=b):Ending.returned (.bool a)=.returned (.bool b):=by rw[h]
theorem Ch{a b:Int}(h:a=b):Ending.returned (.int .i64 a)=.returned (.int .i64 b):=by rw[h]
theorem La(w:World)(a b:Nat):(w.drewN a).drewN b=w.drewN (a+b):=by simp[World.drewN,Nat.add_assoc]
theorem Y4(w:World)(a:Nat):∃n,w.drewN a=w.drewN n:=⟨a,rfl⟩
theorem Y5(w:World)(a b:Nat):∃n,(w.drewN a).drewN b=w.drewN n:=⟨a+b,La w a b⟩
theorem Av{a w:World}(h:Below B a w)(n:Nat):Below B a (w.drewN n):=⟨h.os,h.tape,h.output,h.size,h.block⟩
def EP(w:World)(v:Value)(bs:List Int):Prop:=Rd w v 1 bs.length (bs.map (xY .u8))/\∀b∈bs,0<=b/\b<256
theorem Sv(k:IntKind){w:World}{a:Option Addr}{len V:Nat}{zs:List Int}
 (h:(a=none/\len=0/\V=0/\zs=[])∨∃x,a=some x/\len<=V/\V<=maxLen/\zs.length=V/\(∀i,i<zs.length->w.cell? (x.add i)=some (.int k (zs.getD i 0)))/\∀n∈zs,(Lit.int k n).wf=true):
 Rd w (.slice a len V) 1 (zs.take len).length ((zs.take len).map (xY k))/\∀n∈zs.take len,(Lit.int k n).wf=true:=by
 rcases h with⟨rfl,rfl,rfl,rfl⟩|⟨x,rfl,hlc,aq,hz,H,hwf⟩
 .exact⟨⟨none,0,by simp,by simp,by simp[maxLen],by simp,λ_=>rfl,by simp⟩,by simp⟩
 .have hl:(zs.take len).length=len:=by rw[xT];omega
  refine⟨⟨some x,V,by rw[hl],by omega,aq,by simp,(λh=>by cases h),λhn=>?_⟩,λn hn=>hwf n (uK hn)⟩;rw[hl] at hn ⊢;have h0:=H 0 (by omega);obtain⟨b,X,fy⟩:=x;cases fy with
  |some q=>simp[um,World.cell?] at h0;split at h0<;>simp_all
  |none=>
   refine⟨b,X,rfl,λj D=>?_⟩;have dx:=H j (by omega);have dl:(⟨b,X,none⟩:Addr).add j=⟨b,X+j,none⟩:=by unfold um;split<;>simp_all
   rw[dl] at dx;rw[dx,xm,ve,if_pos (by omega)];simp[yw (show j<zs.length by omega)]
theorem Qa{w:World}{a:Option Addr}{len V:Nat}{zs:List Int}
 (h:(a=none/\len=0/\V=0/\zs=[])∨∃x,a=some x/\len<=V/\V<=maxLen/\zs.length=V/\(∀i,i<zs.length->w.cell? (x.add i)=some (.int .u8 (zs.getD i 0)))/\∀n∈zs,(Lit.int .u8 n).wf=true):
 EP w (.slice a len V) (zs.take len):=by
 refine⟨(Sv .u8 h).1,λb Y=>?_⟩;have:=(Sv .u8 h).2 b Y;simp only[Lit.wf,yu,decide_eq_true_eq] at this;have J:IntKind.min .u8=0:=by decide
 have O:IntKind.max .u8=255:=by decide
 omega
theorem C8(n lo A:Int)(w:World):
 Calls prog 42 #[.int .i64 n,.int .i64 lo,.int .i64 A] w λe w'=>e=.returned (.bool (BZ n lo A))/\w=w':=by
 by_cases J:lo<=n
 .have e1:BZ n lo A=decide (n<=A):=by simp[BZ,J]
  have hc:=AA e1;clear e1;go_in;go_wp2;go_ret;exact⟨AH hc.out.symm,rfl⟩
 .have e1:BZ n lo A=false:=by simp[BZ,J]
  have hc:=AA e1;clear e1;go_in;go_wp2;go_ret;exact⟨AH hc.out.symm,rfl⟩
theorem EC(n lo A:Int)(w:World):
 Calls prog 56 #[.int .i64 n,.int .i64 lo,.int .i64 A] w λe w'=>e=.returned (.bool (BZ n lo A))/\w=w':=by
 by_cases J:lo<=n
 .have e1:BZ n lo A=decide (n<=A):=by simp[BZ,J]
  have hc:=AA e1;clear e1;go_in;go_wp2;go_ret;exact⟨AH hc.out.symm,rfl⟩
 .have e1:BZ n lo A=false:=by simp[BZ,J]
  have hc:=AA e1;clear e1;go_in;go_wp2;go_ret;exact⟨AH hc.out.symm,rfl⟩
theorem X4(n:Int)(w:World):
 Calls prog 197 #[.int .i64 n] w λe w'=>e=.returned (.bool (BZ n 0 2))/\w=w':=by
 go_in;go_wp2_with (go_at_call 56;refine(EC _ _ _ _).mono ?_;rintro e w' ⟨rfl,rfl⟩);go_ret;exact⟨rfl,rfl⟩
def findIdx(p:Int->Bool)(xs:List Int):Int:=if xs.any p then(xs.findIdx p:Int) else -1
theorem Th{p:Int->Bool}{xs:List Int}(h:∀j,j<xs.length->p (nth xs j)=false):findIdx p xs= -1:=by
 unfold findIdx;have:xs.any p=false:=by rw[ul];intro x E;obtain⟨j,D,rfl⟩:=wS E;have:=h j D;rw[Mq D] at this;simp[this]
 simp[this]
theorem WA{p:Int->Bool}{xs:List Int}{k:Nat}(z:k<xs.length)(h:∀j,j<k->p (nth xs j)=false)(hp:p (nth xs k)=true):findIdx p xs=k:=by
 unfold findIdx;rw[Mq z] at hp;have J:xs.any p=true:=vP.2 ⟨xs[k],ud z,hp⟩;have O:xs.findIdx p=k:=by
  rw[tH z];refine⟨hp,λj D=>?_⟩;have:=h j D
  rwa [Mq (by omega)] at this
 simp[J,O]
theorem WB{p:Int->Bool}{xs:List Int}:decide (0<=findIdx p xs)=xs.any p:=by unfold findIdx;cases xs.any p<;>simp
theorem RJ(F:Nat)(ar:Array Value)(p:Int->Bool)(v:Value)(xs:List Int)(w:World)(h:Ax w v xs)
 (hF:∀al w,(callFunc F al).run prog w=.ok (.enter F al) w)(N:∀x w,Calls prog F (#[.int .i64 x]++ar) w λe w'=>e=.returned (.bool (p x))/\w=w'):
 Calls prog 201 #[v,.func (.func F) #[] ar] w λe w'=>e=.returned (.int .i64 (findIdx p xs))/\w=w':=by
 obtain⟨a,c,rfl,H,aq,hc⟩:=h.open;clear h;unfold maxLen at aq;have Hf:=AA N;clear N;go_in;go_wp2;go_loop [8] (λi=>∃k:Nat,k<=xs.length/\i=.int .i64 k/\∀j,j<k->p (nth xs j)=false) (λi=>xs.length - (intOf i).toNat)
 exact⟨0,yg _,rfl,λj D=>absurd D (xN _)⟩
 obtain⟨k,z,rfl,az⟩:=hrel;have au:=AA az;clear az
 by_cases am:k<xs.length
 .obtain⟨b,X,rfl,hj⟩:=hc.at am
  clear hc;cases hp:p (nth xs k)
  .have Hp:=AA hp;clear hp
   go_wp2_with (refine(Hf.out _ _).mono ?_;rintro e w' ⟨rfl,rfl⟩;rw[Hp.out]);go_round
   case rel=>exact⟨k+1,by omega,by go_num,λj D=>by
    rcases xl.1 D with h|h
    .exact au.out j h
    .subst h;exact Hp.out⟩
   case measure=>simp[intOf];omega
  .have Hp:=AA hp;clear hp
   have bl:=AA (WA (p:=p) am au.out Hp.out);go_wp2_with (refine(Hf.out _ _).mono ?_;rintro e w' ⟨rfl,rfl⟩;rw[Hp.out]);go_ret;exact⟨Ch bl.out.symm,rfl⟩
 .have bl:=AA (Th (p:=p) (xs:=xs) (λj D=>au.out j (by omega)))
  go_wp2;go_ret;exact⟨Ch bl.out.symm,rfl⟩
theorem Nu(F:Nat)(ar:Array Value)(p:Int->Bool)(v:Value)(xs:List Int)(w:World)(h:Ax w v xs)
 (hF:∀al w,(callFunc F al).run prog w=.ok (.enter F al) w)(N:∀x w,Calls prog F (#[.int .i64 x]++ar) w λe w'=>e=.returned (.bool (p x))/\w=w'):
 Calls prog 152 #[v,.func (.func F) #[] ar] w λe w'=>e=.returned (.bool (xs.any p))/\w=w':=by
 have Hf:=AA N;clear N;go_in;go_wp2_with (go_at_call 201;refine(RJ F ar p v xs _ h hF Hf.out).mono ?_;rintro e w' ⟨rfl,rfl⟩);go_ret;exact⟨AH WB,rfl⟩
theorem Al{p:Nat->Prop}{k:Nat}(h:∀j,j<k->p j)(z:p k):∀j,j<k+1->p j:=λj D=>by
 rcases xl.1 D with h'|h'
 .exact h j h'
 .subst h';exact z
theorem Tryz.zI:(prog.info? 3).map (λi=>(i.zero,i.size,i.bytes))=some (some (.int .i64 0),1,8):=by kernel_rfl
theorem AF.below{lo:Nat}{w w':World}{v:Value}{xs:List Int}(h:AF lo w v xs)(Y:Below w.heap.size w w'):AF lo w' v xs:=by
 refine vI (row:=none) h ⟨Y.os,Y.tape,Y.output,Y.size,λk z _=>Y.block k z⟩ ?_;cases v.ownBlock<;>simp
theorem Bx{lo:Nat}{w w':World}{v:Value}{e sz n:Nat}{xs:List Value}(h:w.ownsRow lo e sz v n xs)(Y:Below w.heap.size w w'):w'.ownsRow lo e sz v n xs:=by
 refine vI (row:=none) h ⟨Y.os,Y.tape,Y.output,Y.size,λk z _=>Y.block k z⟩ ?_;cases v.ownBlock<;>simp
theorem Below.zu{w w':World}(h:w.grownBy w' none):Below w.heap.size w w':=⟨h.os,h.tape,h.output,h.size,λk z=>h.block k z (by simp)⟩
theorem VL(hk:Value)(hz:hk.cells= #[hk])(n:Nat):(madeCells hk.cells (n*1)).toList=xR n hk:=by rw[hz,wB,toList_madeCells_one]
theorem Pb{w:World}{ops:Array Oper}{o:Oper}{a:Act}{Q:Exit->Act->World->Prop}{l:Operand}{t:TypeId}{n:Nat}
 (Z:o.guard=none)(dv:o.op=Op.makeSlice t l l)(e:TypeId)(hk:Value)(bytes:Nat)(J:prog.underlying t=some (.slice e))
 (O:(prog.info? e).map (λi=>(i.zero,i.size,i.bytes))=some (some hk,1,bytes))(hz:hk.cells= #[hk])
 (hl:a.eval l=.int .i64 n)(b2:bytes*n<=281474976710656)(b3:n<=maxLen)
 (hK:∀w',w'.ownsRow w.heap.size e 1 (.slice (some ⟨w.heap.size,0,none⟩) n n) n (xR n hk)->Below w.heap.size w w'->w.heap.size<w'.heap.size->
  wpList prog ops Q rest (a.put o.dst (.slice (some ⟨w.heap.size,0,none⟩) n n)) w'):wpList prog ops Q (o::rest) a w:=by
 obtain⟨i0,A,dT,dP,dS⟩:=tY O;refine wpList_make_full w Z l l t dv w.heap.size e i0 hk 1 J A dT dP .i64 .i64 n n n hl hl rfl rfl (by rw[dS];exact b2) b3 (yv _) λw' h h'=>?_
 rw[VL hk hz] at h;exact hK w' h (Below.zu h') (h.lt _ rfl).2
theorem MA{xs ys:List Int}(hl:xs.length=ys.length)(h:∀j,j<xs.length->nth xs j=nth ys j):xs=ys:=by
 refine List.ext_getElem hl λj J O=>?_
 have:=h j J
 rwa [Mq J,Mq O] at this
theorem YL{xs ys:List Int}{k:Nat}(h:nth xs k≠nth ys k):decide (xs=ys)=false:=by simp only[decide_eq_false_iff_not];rintro rfl;exact h rfl
theorem YK{xs ys:List Int}(h:xs.length≠ys.length):decide (xs=ys)=false:=by simp only[decide_eq_false_iff_not];rintro rfl;exact h rfl
theorem LA(v1 v2:Value)(xs ys:List Int)(w:World)(J:Ax w v1 xs)(O:Ax w v2 ys):
 Calls prog 19 #[v1,v2] w λe w'=>e=.returned (.bool (decide (xs=ys)))/\∃n,w'=w.drewN n:=by
 obtain⟨a1,c1,rfl,gU,fY,H1⟩:=J.open;obtain⟨a2,c2,rfl,ed,eB,H2⟩:=O.open;clear J O;unfold maxLen at fY eB
 by_cases bw:(xs.length:Int)=ys.length
 .have Y:((xs.length:Int) !=ys.length)=false:=by simp[bw]
  have gH:xs.length<=ys.length/\ys.length<=xs.length:=by omega
  clear bw;go_in;go_wp2;go_loopw [5] (λi wr=>∃k:Nat,k<=xs.length/\i=.int .i64 k/\(∀j,j<k->nth xs j=nth ys j)/\∃n,wr=w.drewN n) (λi _=>xs.length - (intOf i).toNat)
  exact⟨0,yg _,rfl,λj D=>absurd D (xN _),0,rfl⟩
  obtain⟨k,z,rfl,az,n,rfl⟩:=hrel;have au:=AA az;clear az
  by_cases am:k<xs.length
  .obtain⟨b1,o1,rfl,D1⟩:=H1.at am
   have dw:k<ys.length:=by omega
   obtain⟨b2,o2,rfl,D2⟩:=H2.at dw;clear H1 H2
   by_cases he:nth xs k=nth ys k
   .have gS:(nth xs k !=nth ys k)=false:=by simp[he]
    have He:=AA he;clear he;go_wp2;go_quiet (fail);go_wp2;go_roundw;exact⟨k+1,by omega,by go_num,Al au.out He.out,_,rfl⟩;simp[intOf];omega
   .have gS:(nth xs k !=nth ys k)=true:=by simp[he]
    have dq:=AA (YL he);clear he;go_wp2;go_quiet (fail);go_wp2;go_ret
    first|exact⟨AH dq.out.symm,Y5 _ _ _⟩|exact⟨AH dq.out.symm,Y4 _ _⟩
  .have dq:=AA (MA (xs:=xs) (ys:=ys) (by omega) (λj D=>au.out j (by omega)))
   go_wp2;go_ret;exact⟨AH (by simp[dq.out]),_,rfl⟩
 .have Y:((xs.length:Int) !=ys.length)=true:=by simp[bw]
  have dq:=AA (YK (xs:=xs) (ys:=ys) (by omega));clear bw;go_in;go_wp2;go_ret;exact⟨AH dq.out.symm,0,rfl⟩
theorem EW{lo:Nat}{w:World}{ops:Array Oper}{o:Oper}{a:Act}{Q:Exit->Act->World->Prop}{s x:Operand}{t:TypeId}
 (ex:o.guard=none)(ho:o.op=.call {callee:=.builtin .append,args:= #[s,x],argTypes:= #[t,t]})
 (e:TypeId)(hk:Value)(sz bytes:Nat)(ht:prog.underlying t=some (.slice e))(A:(prog.info? e).map (λi=>(i.zero,i.size,i.bytes))=some (some hk,sz,bytes))
 (eh:hk.cells.size=sz)(db:0<sz){v u:Value}{n m:Nat}{xs news:List Value}(K:a.eval s=v)(bb:w.ownsRow lo e sz v n xs)
 (E:a.eval x=u)(hr:Rd w u sz m news)(J:∀u∈news,u.oneCell'=true)(f9:n+m<=maxLen)(cd:(n+m)*bytes<=140737488355328)(b7:lo<=w.heap.size)
 (hK:∀v' w',w'.ownsRow lo e sz v' (n+m) (xs++news)->w.grownBy w' v.ownBlock->Below lo w w'->wpList prog ops Q rest (a.put o.dst v') w'):wpList prog ops Q (o::rest) a w:=by
 obtain⟨i0,dm,dT,dP,dS⟩:=tY A;obtain⟨ao,c,rfl,gG,aq,hl,a6,H⟩:=hr;have ac:∀w',w.grownBy w' v.ownBlock->Below lo w w':=λw' Z=>(yD lo w).grown Z b7 (λk z=>(bb.lt k z).1)
 cases ao with
 |none=>
  have cq:=a6 rfl;subst cq;obtain rfl:m=0:=by omega
  have cT:news=[]:=xM (by simpa using hl);subst cT;refine sr ex s x t ho lo e i0 sz ht dm v n xs K bb E ?_;exact hK v w (by simpa using bb) ⟨rfl,rfl,rfl,yv _,λ_ _ _=>rfl⟩ (yD _ _)
 |some ad=>
  refine wpList_append_own w ex s x t ho lo e i0 hk sz bytes ht dm dT dP dS eh db v n xs K bb ad m c news E hl ?_ J f9 cd b7 (λv' w' O h3 _=>hK v' w' O h3 (ac w' h3));intro j u hu
  rcases wj m with rfl|hm
  .simp at hl
   simp[hl] at hu
  .obtain⟨b,X,f6,ax⟩:=H hm
   obtain rfl:ad=⟨b,X,none⟩:=by simpa using f6
   have D:j<news.length:=(yt.1 hu).1;have dl:(⟨b,X,none⟩:Addr).add j=⟨b,X+j,none⟩:=by unfold um;split<;>simp_all
   rw[dl,ax j (by omega),hu]
theorem Rd.news(w:World)(cs:Array Value)(e:TypeId)(sz n:Nat)(K:cs.size=n*sz)(hn:n<=maxLen):Rd (w.alloc (.cells cs e)) (.slice (some ⟨w.heap.size,0,none⟩) n n) sz n cs.toList:=
 Rd.of_owns (sK (base:=w.heap.size) w cs n (yv _) hn K)
theorem Lk{xs:List Int}:∀u∈xs.map (xY .i64),u.oneCell'=true:=by intro u hu;obtain⟨x,_,rfl⟩:=vH.1 hu;rfl
theorem Cu(w:World)(e sz:Nat):(w.alloc (.cells #[] e)).ownsRow w.heap.size e sz (.slice (some ⟨w.heap.size,0,none⟩) 0 0) 0 []:=
 World.ownsRow_made w #[] 0 (yv _) (by simp[maxLen]) (by simp)
theorem IZ(v:Value)(xs:List Int)(w:World)(h:Ax w v xs)(K:xs.length<=1048576):
 Calls prog 65 #[v] w λe w'=>∃v',e=.returned v'/\AF w.heap.size w' v' xs/\Below w.heap.size w w':=by
 have h':=h;obtain⟨a,c,rfl,bK,aq,hl,a6,H⟩:=h';have hq:=λw=>wE (P:=prog) w 29 3 a xs.length c 0 0 underlying29
 cases a with
 |none=>have cq:=a6 rfl;subst cq;have h0:xs=[]:=xM (by omega);subst h0;simp only[wU] at hq;go_in;go_wp2;go_ret;exact⟨_,rfl,xh _ _ _ _,yD _ _⟩
 |some ad=>clear H a6;go_in;go_wp2_with (refine EW (lo:=w.heap.size) (v:=.slice (some ⟨w.heap.size,0,none⟩) 0 0) (n:=0) (xs:=[]) (m:=xs.length) (news:=xs.map (xY .i64)) rfl rfl 3 (.int .i64 0) 1 8 underlying29 Tryz.zI rfl (by decide) rfl (Cu _ _ _) rfl (h.alloc _) Lk (by unfold maxLen;omega) (by omega) (by simp) ?_;intro v' w' bb _ ac);go_ret;refine⟨_,rfl,by simpa[AF] using bb,((yD _ _).alloc (yv _) _).trans ac⟩
theorem Jd{w:World}{lo e sz n:Nat}{v:Value}{xs:List Value}(h:w.ownsRow lo e sz v n xs)(hn:0<n):∃g V,v=.slice (some ⟨g,0,none⟩) n V/\lo<=g/\g<w.heap.size:=by
 have am:=h.lt
 rcases h.2 with⟨_,rfl⟩|⟨g,V,bD,rfl,Y,Z,_⟩
 .omega
 .exact⟨g,V,rfl,Y,(am g rfl).2⟩
theorem Fh{xs:List Int}{a:Nat}(h:a<xs.length):(xs.map (xY .i64))[a]?=some (.int .i64 (nth xs a)):=by rw[xm,QR h];rfl
theorem aV{lo:Nat}{w:World}{v:Value}{xs:List Int}{a:Nat}{x:Int}(h:w.ownsRow lo 3 1 v xs.length ((xs.map (xY .i64)).set a (.int .i64 x))):AF lo w v (xs.set a x):=by unfold AF;rw[xP,List.map_set];exact h
theorem T0{xs:List Int}{a j:Nat}{x:Int}(ha:a<xs.length):nth (xs.set a x) j=if j=a then x else nth xs j:=by
 unfold nth;rw[xO,xO,vV]
 by_cases h:a=j
 .subst h;simp[ha]
 .have h':j≠a:=λe=>h e.symm
  simp[h,h']
def lenOf:Value->Nat| .slice _ n _=>n|_=>0
def Cc{α:Type}(cs:α->List Value)(xs:List α):List Value:=xs.flatMap cs
theorem G0{α:Type}(cs:α->List Value)(x:α)(xs:List α):Cc cs (x::xs)=cs x++Cc cs xs:=rfl
theorem Bf{α:Type}(cs:α->List Value)(xs ys:List α):Cc cs (xs++ys)=Cc cs xs++Cc cs ys:=List.flatMap_append
theorem EZ{α:Type}(cs:α->List Value)(x:α):Cc cs [x]=cs x:=by simp[Cc]
theorem Jo{α:Type}{cs:α->List Value}{sz:Nat}(K:∀x,(cs x).length=sz)(xs:List α):(Cc cs xs).length=xs.length*sz:=by
 induction xs with
 |nil=>simp[Cc]
 |cons x xs ih=>rw[G0,yj,K,ih,vT,uU];omega
theorem PU{α:Type}{cs:α->List Value}{sz:Nat}(K:∀x,(cs x).length=sz){xs:List α}{k:Nat}{x:α}(h:xs[k]?=some x){j:Nat}(D:j<sz):(Cc cs xs)[k*sz+j]?=(cs x)[j]? :=by
 induction xs generalizing k with
 |nil=>simp at h
 |cons y ys ih=>
  cases k with
  |zero=>simp only[List.getElem?_cons_zero,Option.some.injEq] at h;subst h;rw[G0,wW (by rw[K];omega)];simp
  |succ k=>
   rw[List.getElem?_cons_succ] at h;rw[G0,List.getElem?_append_right (by rw[K,uU];omega),K,<-ih h]
   congr 1
   rw[uU];omega
def TM{α:Type}(sz:Nat)(cs:α->List Value)(w:World)(a:Option Addr)(xs:List α):Prop:=
 ∀(k:Nat) x,xs[k]?=some x->∃b X,a=some ⟨b,X,none⟩/\b<w.heap.size/\∀(j:Nat) u,(cs x)[j]?=some u->w.cell? ⟨b,X+k*sz+j,none⟩=some u
theorem TM.below{α:Type}{sz:Nat}{cs:α->List Value}{w w':World}{a:Option Addr}{xs:List α}(h:TM sz cs w a xs)(Y:Below w.heap.size w w'):TM sz cs w' a xs:=by
 intro k x z;obtain⟨b,X,rfl,am,H⟩:=h k x z;exact⟨b,X,rfl,xW am Y.size,λj u hu=>(Y.cell (p:=⟨b,X+k*sz+j,none⟩) am).trans (H j u hu)⟩
theorem TM.of{α:Type}{sz:Nat}{cs:α->List Value}(K:∀x,(cs x).length=sz)(db:0<sz){w:World}{a:Option Addr}{n c:Nat}{xs:List α}(h:Rd w (.slice a n c) sz xs.length (Cc cs xs)):TM sz cs w a xs:=by
 obtain⟨a',V,hv,bK,aq,hl,_,H⟩:=h;simp only[Value.slice.injEq] at hv;obtain⟨rfl,rfl,rfl⟩:=hv;intro k x z;have am:=(yt.1 z).1;obtain⟨b,X,rfl,ax⟩:=H (by omega);have dO:∀(j:Nat) u,(cs x)[j]?=some u->w.cell? ⟨b,X+k*sz+j,none⟩=some u:=by
  intro j u hu;have D:j<sz:=by rw[<-K x];exact(yt.1 hu).1
  have hm:k*sz+sz<=xs.length*sz:=by rw[<-uU];exact wA _ am
  rw[Nat.add_assoc,ax (k*sz+j) (by omega),PU K z D,hu]
 refine⟨b,X,rfl,?_,dO⟩;have h0:(cs x)[0]?=some ((cs x)[0]'(by rw[K];omega)):=yw _;exact yA w _ (dO 0 _ h0)
theorem Rd.shape{w:World}{v:Value}{sz n:Nat}{xs:List Value}(h:Rd w v sz n xs):∃a V,v=.slice a n V/\n<=V/\V<=maxLen:=by obtain⟨a,V,rfl,bK,aq,_⟩:=h;exact⟨a,V,rfl,bK,aq⟩
def MK(w:World)(g o:Nat):Nat->List Value->World
 |_,[]=>w
 |j,u::us=>MK (w.setCell ⟨g,o+j,none⟩ u) g o (j+1) us
def JW(xs:List Value)(o:Nat):Nat->List Value->List Value
 |_,[]=>xs
 |j,u::us=>JW (xs.set (o+j) u) o (j+1) us
theorem VW(hi B C us:List Value)(j:Nat)(hB:B.length=us.length)(o:Nat)(ho:hi.length=o+j):JW (hi++B++C) o j us=hi++us++C:=by
 induction us generalizing hi B j with
 |nil=>simp at hB;subst hB;simp[JW]
 |cons u us ih=>
  cases B with
  |nil=>simp at hB
  |cons b B=>
   rw[JW,<-ho];have e:(hi++b::B++C).set hi.length u=(hi++[u])++B++C:=by simp[List.set_append_right]
   rw[e,ih (hi++[u]) B (j+1) (by simpa using hB) (by simp;omega)];simp
theorem Ix{w:World}{lo e sz g n V:Nat}{xs:List Value}(h:w.ownsRow lo e sz (.slice (some ⟨g,0,none⟩) n V) n xs)(o j:Nat)(us:List Value):
 (MK w g o j us).ownsRow lo e sz (.slice (some ⟨g,0,none⟩) n V) n (JW xs o j us)/\w.grownBy (MK w g o j us) (some g):=by
 induction us generalizing w xs j with
 |nil=>exact⟨h,⟨rfl,rfl,rfl,yv _,λ_ _ _=>rfl⟩⟩
 |cons u us ih=>obtain⟨s1,s2⟩:=wJ h (o+j) u;obtain⟨t1,t2⟩:=ih s1 (j+1);exact⟨t1,⟨t2.os.trans s2.os,t2.tape.trans s2.tape,t2.output.trans s2.output,yB s2.size t2.size,λb Y a8=>(t2.block b (xW Y s2.size) a8).trans (s2.block b Y a8)⟩⟩
theorem DA{α:Type}{xs:List α}{k:Nat}{x:α}(h:xs[k]?=some x):xs.take (k+1)=xs.take k++[x]:=by obtain⟨am,rfl⟩:=yt.1 h;exact List.take_succ_eq_append_getElem am
theorem Uy{α:Type}{cs:α->List Value}{sz:Nat}(K:∀x,(cs x).length=sz){xs:List α}{k:Nat}(z:k<xs.length)(y:α):JW (Cc cs xs) (k*sz) 0 (cs y)=Cc cs (xs.set k y):=by
 have e1:xs=xs.take k++[xs[k]]++xs.drop (k+1):=by simp
 have e2:xs.set k y=xs.take k++[y]++xs.drop (k+1):=by rw[List.set_eq_take_append_cons_drop,if_pos z];simp
 rw[e2]
 conv=>lhs;rw[e1]
 rw[Bf,Bf,Bf,Bf,EZ,EZ];exact VW _ _ _ _ 0 (by rw[K,K]) _ (by rw[Jo K,xT];congr 1;omega)
def Ib(w:World)(lo e sz g n V:Nat)(wr:World):Prop:=∃cs:List Value,wr.ownsRow lo e sz (.slice (some ⟨g,0,none⟩) n V) n cs/\w.grownBy wr (some g)
theorem Ib.set{w:World}{lo e sz g n V:Nat}(h:Ib w lo e sz g n V wr)(j:Nat)(u:Value):Ib w lo e sz g n V (wr.setCell ⟨g,j,none⟩ u):=by
 obtain⟨cs,J,O⟩:=h;obtain⟨s1,s2⟩:=wJ J j u;exact⟨_,s1,s2.os.trans O.os,s2.tape.trans O.tape,s2.output.trans O.output,yB O.size s2.size,λb Y a8=>(s2.block b (xW Y O.size) a8).trans (O.block b Y a8)⟩
theorem Ib.below{w:World}{lo e sz g n V:Nat}(h:Ib w lo e sz g n V wr)(Y:Below wr.heap.size wr w1):Ib w lo e sz g n V w1:=by
 obtain⟨cs,J,O⟩:=h;exact⟨_,Bx J Y,Y.os.trans O.os,Y.tape.trans O.tape,Y.output.trans O.output,yB O.size Y.size,λb ef a8=>(Y.block b (xW ef O.size)).trans (O.block b ef a8)⟩
theorem Ib.cell{w:World}{lo e sz g n V:Nat}(h:Ib w lo e sz g n V wr)(j:Nat)(D:j<n*sz):∃u,wr.cell? ⟨g,j,none⟩=some u:=by obtain⟨cs,J,O⟩:=h;have hl:=J.1;exact⟨_,(J.cellAt j D).trans (yw (by omega))⟩
theorem Ib.frozen{w:World}{lo e sz g n V:Nat}(h:Ib w lo e sz g n V wr)(j:Nat):wr.frozen? ⟨g,j,none⟩=false:=h.choose_spec.1.frozenAt j
theorem AI(w:World)(a:Obj):Below w.heap.size w (w.alloc a):=(yD _ _).alloc (yv _) _
theorem Dd(w:World)(o:Obj):(w.alloc o).heap[w.heap.size]?=some o/\Below w.heap.size w (w.alloc o):=⟨yi w o,AI w o⟩
theorem IA(w:World)(a b:Obj):Below w.heap.size w ((w.alloc a).alloc b):=(AI w a).alloc (by simp) _
theorem Yw(w:World)(a b c:Obj):Below w.heap.size w (((w.alloc a).alloc b).alloc c):=(IA w a b).alloc (by simp;omega) _
theorem bV(w:World)(a b c d:Obj):Below w.heap.size w ((((w.alloc a).alloc b).alloc c).alloc d):=(Yw w a b c).alloc (by simp;omega) _
theorem bF{W:World}(Y:Below W.heap.size W w1):(∀b o,b<W.heap.size->w1.cell? ⟨b,o,none⟩=W.cell? ⟨b,o,none⟩)/\(∀b o,b<W.heap.size->w1.frozen? ⟨b,o,none⟩=W.frozen? ⟨b,o,none⟩):=
 ⟨λb o h=>Y.cell (p:=⟨b,o,none⟩) h,λb o h=>Y.frozen (p:=⟨b,o,none⟩) h⟩
theorem Bg{lo:Nat}{w:World}{ops:Array Oper}{o:Oper}{a:Act}{Q:Exit->Act->World->Prop}{s x:Operand}{t:TypeId}
 (ex:o.guard=none)(ho:o.op=.call {callee:=.builtin .append,args:= #[s,x],argTypes:= #[t,t]})
 (e:TypeId)(hk:Value)(sz bytes:Nat)(ht:prog.underlying t=some (.slice e))(A:(prog.info? e).map (λi=>(i.zero,i.size,i.bytes))=some (some hk,sz,bytes))
 (eh:hk.cells.size=sz)(db:0<sz){v u:Value}{n m:Nat}{xs news:List Value}(K:a.eval s=v)(bb:w.ownsRow lo e sz v n xs)
 (E:a.eval x=u)(hr:Rd w u sz m news)(J:∀u∈news,u.oneCell'=true)(f9:n+m<=maxLen)(cd:(n+m)*bytes<=140737488355328)(b7:lo<=w.heap.size)
 (hK:∀v' w',w'.ownsRow lo e sz v' (n+m) (xs++news)->w.grownBy w' v.ownBlock->(v'.ownBlock=v.ownBlock∨v'.ownBlock=some w.heap.size)->Below lo w w'->wpList prog ops Q rest (a.put o.dst v') w'):wpList prog ops Q (o::rest) a w:=by
 obtain⟨i0,dm,dT,dP,dS⟩:=tY A;obtain⟨ao,c,rfl,gG,aq,hl,a6,H⟩:=hr;have ac:∀w',w.grownBy w' v.ownBlock->Below lo w w':=λw' Z=>(yD lo w).grown Z b7 (λk z=>(bb.lt k z).1)
 cases ao with
 |none=>
  have cq:=a6 rfl;subst cq;obtain rfl:m=0:=by omega
  have cT:news=[]:=xM (by simpa using hl);subst cT;refine sr ex s x t ho lo e i0 sz ht dm v n xs K bb E ?_;exact hK v w (by simpa using bb) ⟨rfl,rfl,rfl,yv _,λ_ _ _=>rfl⟩ (.inl rfl) (yD _ _)
 |some ad=>
  refine wpList_append_own_at w ex s x t ho lo e i0 hk sz bytes ht dm dT dP dS eh db v n xs K bb ad m c news E hl ?_ J f9 cd b7 (λv' w' O h3 _ h5=>hK v' w' O h3 h5 (ac w' h3));intro j u hu
  rcases wj m with rfl|hm
  .simp at hl
   simp[hl] at hu
  .obtain⟨b,X,f6,ax⟩:=H hm
   obtain rfl:ad=⟨b,X,none⟩:=by simpa using f6
   have D:j<news.length:=(yt.1 hu).1;have dl:(⟨b,X,none⟩:Addr).add j=⟨b,X+j,none⟩:=by unfold um;split<;>simp_all
   rw[dl,ax j (by omega),hu]
theorem Rd.zC(w:World)(cs:Array Value)(e:TypeId)(sz n g:Nat)(Z:g=w.heap.size)(K:cs.size=n*sz)(hn:n<=maxLen):Rd (w.alloc (.cells cs e)) (.slice (some ⟨g,0,none⟩) n n) sz n cs.toList:=by subst Z;exact Rd.news w cs e sz n K hn
theorem Aw{lo e sz n:Nat}{w w':World}{v:Value}{xs:List Value}{row:Option Nat}(h:w.ownsRow lo e sz v n xs)(Z:w.grownBy w' row)(a8:v.ownBlock=none∨v.ownBlock≠row):w'.ownsRow lo e sz v n xs:=vI h Z a8
theorem BU{lo e sz n:Nat}{w:World}{v:Value}{xs:List Value}(h:w.ownsRow lo e sz v n xs)(hl:lo'<=lo):w.ownsRow lo' e sz v n xs:=by
 refine⟨h.1,?_⟩
 rcases h.2 with h'|⟨g,V,bD,rfl,Y,rest⟩
 .exact .inl h'
 .exact .inr ⟨g,V,bD,rfl,yB hl Y,rest⟩
theorem AP{w w' cx:World}{row:Option Nat}(h:w.grownBy w' row)(h':w'.grownBy cx row):w.grownBy cx row:=
 ⟨h'.os.trans h.os,h'.tape.trans h.tape,h'.output.trans h.output,yB h.size h'.size,λb Y a8=>(h'.block b (xW Y h.size) a8).trans (h.block b Y a8)⟩
theorem AY{w w':World}(h:Below w.heap.size w w')(row:Option Nat):w.grownBy w' row:=⟨h.os,h.tape,h.output,h.size,λb Y _=>h.block b Y⟩
def Fp(v1 v2:Value):Prop:=∀k,v1.ownBlock=some k->v2.ownBlock≠some k
theorem Fp.symm{v1 v2:Value}(h:Fp v1 v2):Fp v2 v1:=λk J O=>h k O J
theorem Fp.ne{v1 v2:Value}(h:Fp v1 v2):v1.ownBlock=none∨v1.ownBlock≠v2.ownBlock:=by
 cases hv:v1.ownBlock with
 |none=>exact .inl rfl
 |some k=>exact .inr λe=>h k hv e.symm
theorem Fp.grown{v v' u:Value}(h:Fp v u)(hv:v'.ownBlock=v.ownBlock∨v'.ownBlock=some B)(hu:∀k,u.ownBlock=some k->k<B):Fp v' u:=by
 intro k z gv
 rcases hv with e|e
 .exact h k (e▸z) gv
 .rw[e] at z
  cases z;exact absurd (hu _ gv) (Nat.lt_irrefl _)
theorem mixed:prog.follows .mixedOrders=true:=by kernel_rfl
section
variable {P:Program}
def Ah(l:List Oper)(i:Nat):Nat:=((l[i]?).bind (·.dst)).getD 0
def Ak(l:List Oper)(is:List Nat)(vs:Nat->Value)(b:Array Value):Array Value:=is.foldl (λb i=>b.setIfInBounds (Ah l i) (vs i)) b
def IW(l:List Oper)(n:Nat):Bool:=
 decide (n<l.length)&&rQ .any l.toArray n&&sd .any l.toArray n&&
 ((yC n).all λi=>match l[i]? with|some o=>o.dst.isSome|none=>false)&&
 ((yC n).all λi=>(yC n).all λj=>i==j||Ah l i !=Ah l j)&&
 Region.seqB .any l.toArray (l.length - n) n (sT (n:=l.length) λi=>decide (i.val<n))&&
 ((yC l.length).all λj=>match l[j]? with|some o=>o.after.all λe=>!ut .any e||decide (e.on<j)|none=>false)
def GU(L:Nat->Bool)(i:Nat):Nat->Bool:=λj=>if j=i then true else L j
theorem Dc{L:Nat->Bool}{i j:Nat}(h:GU L i j=false):L j=false:=by
 unfold GU at h
 split at h
 .cases h
 .exact h
def AX(P:Program)(l:List Oper)(o:Oper)(a:Act)(w:World)(hs:Act->World->Prop)(Q:Exit->Act->World->Prop):Prop:=
 (wY o (yielded l.toArray a.tmps)=true->vj P o a w hs Q)/\(wY o (yielded l.toArray a.tmps)=false->hs (a.put o.dst undef) w)
theorem AX.of{P:Program}{l:List Oper}{o:Oper}{a:Act}{w:World}{hs:Act->World->Prop}{Q:Exit->Act->World->Prop}(Z:o.guard=none)(h:vj P o a w hs Q):AX P l o a w hs Q:=
 ⟨λ_=>h,λhw=>by simp[wY,Z] at hw⟩
theorem yE{P:Program}{l:List Oper}{o:Oper}{a:Act}{w:World}{hs:Act->World->Prop}{Q:Exit->Act->World->Prop}(h:vj P o a w hs Q)(Z:o.guard=none:=by rfl):AX P l o a w hs Q:=AX.of Z h
theorem Np{l:List Oper}{tmps:Array Value}{g d:Nat}{b:Bool}(hd:(l[g]?).bind (·.dst)=some d)(hv:tmps[d]?.getD undef=.bool b):yielded l.toArray tmps g=some b:=by
 have h:(l.toArray[g]?).bind (·.dst)=some d:=by simpa using hd
 cases E:tmps[d]? with
 |none=>rw[E] at hv;simp[undef] at hv
 |some x=>rw[E] at hv;simp at hv;subst hv;unfold yielded;rw[h,vJ,E]
theorem AX.yes{P:Program}{l:List Oper}{o:Oper}{a:Act}{w:World}{hs:Act->World->Prop}{Q:Exit->Act->World->Prop}{g d:Nat}{b:Bool}(Z:o.guard=some (g,b))(hd:(l[g]?).bind (·.dst)=some d)(hv:a.tmps[d]?.getD undef=.bool b)(h:vj P o a w hs Q):AX P l o a w hs Q:=
 ⟨λ_=>h,λhw=>by simp[wY,Z,Np hd hv] at hw⟩
theorem AX.no{P:Program}{l:List Oper}{o:Oper}{a:Act}{w:World}{hs:Act->World->Prop}{Q:Exit->Act->World->Prop}{g d:Nat}{b:Bool}(Z:o.guard=some (g,b))(hd:(l[g]?).bind (·.dst)=some d)(hv:a.tmps[d]?.getD undef=.bool (!b))(h:hs (a.put o.dst undef) w):AX P l o a w hs Q:=
 ⟨λhw=>by rw[wY,Z] at hw;simp only[Np hd hv] at hw;cases b<;>simp at hw,λ_=>h⟩
theorem Bp{a:Act}{v:Value}(h:a.tmps[t]?.getD undef=v):a.eval (.tmp t)=v:=by
 show a.tmps.getD t undef=v
 rw[tU];exact h
theorem Cm{P:Program}{o:Oper}{a:Act}{w w':World}{hs:Act->World->Prop}{Q:Exit->Act->World->Prop}{s x:Operand}{t:TypeId}(ho:o.op=.call {callee:=.builtin .append,args:= #[s,x],argTypes:= #[t,t]})
 {v u v':Value}(K:a.eval s=v)(E:a.eval x=u)(cN:(vF #[t,t] o.type #[v,u]).run P w=.ok v' w')(h:hs (a.put o.dst v') w'):vj P o a w hs Q:=by
 unfold vj execOp;simp only[ho,resolve,invoke,builtin,vq,Sem.run_pure,vY,List.map_toArray,vE,uX,K,E,cN];exact h
def BQ(l:List Oper)(i:Nat):Option Nat:=(l[i]?).bind (·.dst)
def EJ(l:List Oper)(tmps:Array Value)(i:Nat):Value:=match BQ l i with|some d=>tmps[d]?.getD undef|none=>undef
theorem Yj{l:List Oper}{a:Act}{i j:Nat}{o:Oper}{v:Value}(ho:l[i]?=some o)(a8:BQ l i=none∨BQ l i≠BQ l j):EJ l (a.put o.dst v).tmps j=EJ l a.tmps j:=by
 have e:BQ l i=o.dst:=by simp[BQ,ho]
 rw[e] at a8;unfold EJ;cases D:BQ l j with
 |none=>rfl
 |some d=>
  cases hd:o.dst with
  |none=>rfl
  |some d'=>
   have:d'≠d:=by
    rintro rfl
    rcases a8 with h|h
    .rw[hd] at h;cases h
    .exact h (by rw[hd,D])
   simp only[Act.put];rw[wk this]
theorem Yi{l:List Oper}{a:Act}{i:Nat}{o:Oper}{v:Value}(ho:l[i]?=some o)(hN:∀d,BQ l i=some d->d<a.tmps.size):EJ l (a.put o.dst v).tmps i=match o.dst with|some _=>v|none=>undef:=by
 have e:BQ l i=o.dst:=by simp[BQ,ho]
 unfold EJ;rw[e];cases hd:o.dst with
 |none=>rfl
 |some d=>have:=hN d (by rw[e,hd]);simp[Act.put,this]
structure bO(l:List Oper)(n:Nat)(a0:Act)(I:(Nat->Bool)->(Nat->Value)->World->Prop)(ae:Array Bool)(a:Act)(w:World):Prop where
 head:HeadInv .any l.toArray n ae
 defers:a.defers=a0.defers
 size:a.tmps.size=a0.tmps.size
 base:∀t,(∀i,i<n->BQ l i≠some t)->a.tmps[t]?=a0.tmps[t]?
 inv:I (λj=>ae.getD j false) (EJ l a.tmps) w
theorem MV{ae:Array Bool}{i:Nat}(h:i<ae.size)(d:Bool):(ae.setIfInBounds i true).getD i d=true:=by simp[h]
def bE(l:List Oper):Bool:=(yC l.length).all λj=>match l[j]? with|some o=>o.after.all λe=>!ut .any e||decide (e.on<j)|none=>false
structure bP(l:List Oper)(n N:Nat):Prop where
 tail:(n<l.length/\rQ .any l.toArray n=true/\sd .any l.toArray n=true/\Region.seqB .any l.toArray (l.length - n) n (sT (n:=l.length) λi=>decide (i.val<n))=true)∨n=l.length
 ne:∀i j,i<n->j<n->i≠j->BQ l i=none∨BQ l i≠BQ l j
 back:bE l=true
 fit:∀i,i<n->∀d,BQ l i=some d->d<N
theorem bO.wpAny{l:List Oper}{n:Nat}{a0:Act}{I:(Nat->Bool)->(Nat->Value)->World->Prop}{Q:Exit->Act->World->Prop}(hB:bP l n a0.tmps.size)
 (bi:∀i,i<n->∀o,l[i]?=some o->∀a w,a.defers=a0.defers->a.tmps.size=a0.tmps.size->(∀t,(∀i,i<n->BQ l i≠some t)->a.tmps[t]?=a0.tmps[t]?)->
  ∀L:Nat->Bool,L i=false->(∀j,xV .any l.toArray i j=true->L j=true/\j<n)->(∀j j',L j=true->xV .any l.toArray j j'=true->L j'=true)->I L (EJ l a.tmps) w->
  ∀hs:Act->World->Prop,(∀v w',(∀cz,cz i=(match o.dst with|some _=>v|none=>undef)->(∀j,j<n->j≠i->cz j=EJ l a.tmps j)->I (GU L i) cz w')->hs (a.put o.dst v) w')->AX P l o a w hs Q)
 (bf:∀a w,a.defers=a0.defers->a.tmps.size=a0.tmps.size->(∀t,(∀i,i<n->BQ l i≠some t)->a.tmps[t]?=a0.tmps[t]?)->∀L:Nat->Bool,(∀i,i<n->L i=true)->I L (EJ l a.tmps) w->wpList P l.toArray Q (l.drop n) a w):
 ∀(f:Nat)(ae:Array Bool)(a:Act)(w:World),f=(l.length - n)+((yC n).filter λi=>!ae.getD i false).length->bO l n a0 I ae a w->Go.wpAny P .any l.toArray Q f ae a w:=by
 obtain⟨ey,a8,b6,hN⟩:=hB;have b6:=b6;unfold bE at b6;have eX:n<=l.length:=by rcases ey with h|h<;>omega
 have dM:∀i (o:Oper),l[i]?=some o->∀e∈o.after,ut .any e=true->e.on<i:=by intro i o ho e he Y;have:=xZ.1 b6 i (xS.2 (yt.1 ho).1);rw[ho] at this;simpa[Y] using Array.all_eq_true'.1 this e he
 have none:∀(ae:Array Bool),(∀i,i<n->ae.getD i false=true)->((yC n).filter λi=>!ae.getD i false)=[]:=by intro ae bY;rw[List.filter_eq_nil_iff];intro i A;simp[bY i (xS.1 A)]
 intro f
 induction f with
 |zero=>
  intro ae a w N inv;have iF:n=l.length:=by omega
  have bY:∀i,i<n->ae.getD i false=true:=by
   intro i A;cases E:ae.getD i false with
   |true=>rfl
   |false=>
    exfalso;have:i∈(yC n).filter λi=>!ae.getD i false:=wQ.2 ⟨xS.2 A,by simp[E]⟩
    have:=tx this;omega
  have hT:=bf a w inv.defers inv.size inv.base _ bY inv.inv;rw[List.drop_eq_nil_of_le (by omega)] at hT;refine⟨?_,hT⟩;rw[List.eq_nil_iff_forall_not_mem];intro i A;obtain⟨eQ,o,ho,_⟩:=mem_ready.1 A;have iK:i<l.length:=by have:=(wM.1 ho).1;simpa using this
  have:=getD_both eQ;rw[bY i (by omega)] at this;cases this
 |succ f ih=>
  intro ae a w N inv
  by_cases bY:∀i,i<n->ae.getD i false=true
  .rcases ey with⟨hn,_,_,ek⟩|hn
   .have dY:ae=sT (n:=l.length) λi=>decide (i.val<n):=by
     have db:ae.size=l.length:=by have:=inv.head.size;simpa using this
     apply Array.ext
     .simp[db]
     .intro i J O
      simp only[Array.getElem_ofFn]
      by_cases A:i<n
      .have:=bY i A
       simp[J] at this;simp[A,this]
      .have:=inv.head.tail i (by omega) (by simpa[db] using J)
       simp[J] at this;simp[A,this]
    have hT:=bf a w inv.defers inv.size inv.base _ bY inv.inv;have hW:=wpAny_of_seq (P:=P) (md:=.any) (ops:=l.toArray) (Q':=Q) (l.drop n) n ae a w (λj=>by simp[sJ]) (by rw[dY];simpa using ek) hT;have e:(l.drop n).length=f+1:=by rw[none ae bY] at N;simp at N ⊢;omega
    rw[e] at hW;exact hW
   .rw[none ae bY] at N
    simp at N;omega
  .obtain⟨i0,dm⟩:=Classical.not_forall.1 bY
   obtain⟨ev,fU⟩:=Classical.not_imp.1 dm;have fV:ae.getD i0 false=false:=by simpa using fU
   have db:ae.size=l.length:=by have:=inv.head.size;simpa using this
   have e7:ae.getD i0 true=false:=getD_in (by omega) fV;refine⟨λhr=>?_,λi A=>?_⟩
   .exfalso
    have:∀k,∀i,i<k->i<n->ae.getD i true=false->False:=by
     intro k
     induction k with
     |zero=>intro i A;omega
     |succ k ihk=>
      intro i iL dy eQ;have en:i∉Region.ready .any l.toArray ae:=by rw[hr];simp
      have ho:l[i]?=some l[i]:=yw (by omega);apply en;rw[mem_ready];refine⟨eQ,l[i],by simp,λe he Y=>?_⟩;have am:=dM i _ ho e he Y;cases E:ae.getD e.on false with
      |true=>rfl
      |false=>exact(ihk e.on (by omega) (by omega) (getD_in (by omega) E)).elim
    exact this n i0 ev ev e7
   .obtain⟨eQ,o,fM,fX⟩:=mem_ready.1 A
    have ho:l[i]?=some o:=by simpa using fM
    have dy:i<n:=by
     rcases th i n with h|h
     .exact h
     .rcases ey with⟨hn,K,H,_⟩|hn
      .exact absurd A (tail_waits K H (by simpa using hn) inv.head _ i0 rfl ev e7 i h)
      .have:=(yt.1 ho).1;omega
    have eP:=getD_both eQ;unfold Go.wpOp;rw[fM];have fO:∀j,xV .any l.toArray i j=true->ae.getD j false=true/\j<n:=by intro j D;obtain⟨oj,fL,e,he,Y,rfl⟩:=tv D;obtain rfl:oj=o:=yF (fL.symm.trans fM);have:=dM i _ ho e he Y;exact⟨fX e he Y,by omega⟩
    have fZ:∀j j',ae.getD j false=true->xV .any l.toArray j j'=true->ae.getD j' false=true:=by intro j j' D hw;obtain⟨oj,fL,e,he,Y,rfl⟩:=tv hw;exact inv.head.closed j oj fL D e he Y
    have eL:(λj=>(ae.setIfInBounds i true).getD j false)=GU (λj=>ae.getD j false) i:=by
     funext j
     unfold GU
     by_cases eF:j=i
     .subst eF
      rw[if_pos rfl,MV (by omega)]
     .rw[if_neg eF,getD_set_ne false (Ne.symm eF)]
    have hK:=bi i dy o ho a w inv.defers inv.size inv.base _ eP fO fZ inv.inv (Go.wpAny P .any l.toArray Q f (ae.setIfInBounds i true)) (λv w' hI=>by
     have dj:f=(l.length - n)+((yC n).filter λk=>!(ae.setIfInBounds i true).getD k false).length:=by
      have dW:i∈(yC n).filter λk=>!ae.getD k false:=by rw[wQ];exact⟨xS.2 dy,by rw[eP];rfl⟩
      have hY:((yC n).filter λk=>!ae.getD k false).Nodup:=List.nodup_range.filter _;have he:((yC n).filter λk=>!(ae.setIfInBounds i true).getD k false)=((yC n).filter λk=>!ae.getD k false).erase i:=by
       rw[hY.erase_eq_filter,List.filter_filter];refine List.filter_congr λk z=>?_
       by_cases fP:k=i
       .subst fP
        simp[MV (show k<ae.size by omega)]
       .rw[getD_set_ne false (Ne.symm fP)]
        simp[fP]
      rw[he,List.length_erase_of_mem dW];have:=tx dW;omega
     refine ih _ _ _ dj ⟨inv.head.set A dy,?_,?_,?_,?_⟩
     .cases hd:o.dst<;>simpa[Act.put] using inv.defers
     .cases hd:o.dst<;>simpa[Act.put] using inv.size
     .intro t ht
      rw[<-inv.base t ht];cases hd:o.dst with
      |none=>rfl
      |some d=>
       have:d≠t:=λe=>ht i dy (by simp[BQ,ho,hd,e])
       simp only[Act.put];rw[wk this]
     .rw[eL]
      exact hI _ (Yi ho (λd hd=>by rw[inv.size];exact hN i dy d hd)) (λj D eF=>Yj ho (a8 i j dy D (Ne.symm eF))))
    cases fj:wY o (yielded l.toArray a.tmps) with
    |true=>dsimp only;rw[fj,if_pos rfl];exact .inl (hK.1 fj)
    |false=>dsimp only;rw[fj,if_neg Bool.false_ne_true];exact hK.2 fj
theorem Lz{Q:Exit->Act->World->Prop}{a0:Act}{l:List Oper}{n:Nat}(hm:P.follows .mixedOrders=true){I:(Nat->Bool)->(Nat->Value)->World->Prop}(hB:bP l n a0.tmps.size)(hI:∀vs,I (λ_=>false) vs {w0 with drawn:=w0.drawn+1})
 (bi:∀i,i<n->∀o,l[i]?=some o->∀a w,a.defers=a0.defers->a.tmps.size=a0.tmps.size->(∀t,(∀i,i<n->BQ l i≠some t)->a.tmps[t]?=a0.tmps[t]?)->
  ∀L:Nat->Bool,L i=false->(∀j,xV .any l.toArray i j=true->L j=true/\j<n)->(∀j j',L j=true->xV .any l.toArray j j'=true->L j'=true)->I L (EJ l a.tmps) w->
  ∀hs:Act->World->Prop,(∀v w',(∀cz,cz i=(match o.dst with|some _=>v|none=>undef)->(∀j,j<n->j≠i->cz j=EJ l a.tmps j)->I (GU L i) cz w')->hs (a.put o.dst v) w')->AX P l o a w hs Q)
 (bf:∀a w,a.defers=a0.defers->a.tmps.size=a0.tmps.size->(∀t,(∀i,i<n->BQ l i≠some t)->a.tmps[t]?=a0.tmps[t]?)->∀L:Nat->Bool,(∀i,i<n->L i=true)->I L (EJ l a.tmps) w->wpList P l.toArray Q (l.drop n) a w):
 (vO id l.toArray true).wp P Q a0 w0:=by
 refine wp_region_any hm ?_;refine bO.wpAny (a0:=a0) (I:=I) hB bi bf _ _ _ _ ?_ ⟨⟨by simp,λj oj _ hl=>(by rw[uq] at hl;cases hl),λt _ ht=>by simp at ht ⊢;simp[ht]⟩,rfl,rfl,λ_ _=>rfl,?_⟩
 .have:((yC n).filter λi=>!(sj l.toArray.size false).getD i false)=yC n:=by
   rw[uz];intro i _;rw[uq];rfl
  rw[this];have eX:n<=l.length:=by rcases hB.tail with h|h<;>omega
  simp;omega
 .have e:(λj=>(sj l.toArray.size false).getD j false)=λ_=>false:=funext λj=>uq _ _
  rw[e];exact hI _
theorem SY(l:List Oper):∀(is:List Nat)(b c:Array Value),c.size=b.size->(∀t,(∀i,i∈is->Ah l i≠t)->c[t]?=b[t]?)->
 c=Ak l is (λi=>c.getD (Ah l i) undef) b:=by
 intro is
 induction is with
 |nil=>intro b c K h;exact sS λt=>h t (λi A=>by cases A)
 |cons i is ih=>
  intro b c K h
  show c=Ak l is _ (b.setIfInBounds (Ah l i) (c.getD (Ah l i) undef))
  refine ih _ c (by simpa using K) λt ht=>?_
  by_cases ej:Ah l i=t
  .subst ej
   rcases th (Ah l i) c.size with h'|h'
   .have:Ah l i<b.size:=by omega
    simp[h',this]
   .have:b.size<=Ah l i:=by omega
    simp[h',this]
  .rw[wk ej]
   exact h t λj D=>by
    rcases xD.1 D with rfl|D
    .exact ej
    .exact ht j D
def V7(l:List Oper)(n hf:Nat):Bool:=(yC n).all λi=>decide (Ah l i<hf)
theorem Kd{l:List Oper}{n i:Nat}(hB:IW l n=true)(A:i<n):BQ l i=some (Ah l i):=by
 simp only[IW,yu] at hB;have:=xZ.1 hB.1.1.1.2 i (xS.2 A);unfold BQ Ah;cases ho:l[i]? with
 |none=>rw[ho] at this;cases this
 |some o=>rw[ho] at this;obtain⟨d,hd⟩:=vl.1 this;simp[hd]
theorem Kg{l:List Oper}{n i:Nat}{b:Array Value}(hB:IW l n=true)(A:i<n):EJ l b i=b[Ah l i]?.getD undef:=by unfold EJ;rw[Kd hB A]
theorem V8{l:List Oper}{n i:Nat}{o:Oper}(hB:IW l n=true)(A:i<n)(ho:l[i]?=some o):o.dst=some (Ah l i):=by
 have h:=Kd hB A;unfold BQ at h
 rwa [ho,vJ] at h
theorem Su{l:List Oper}{n:Nat}(hB:IW l n=true)(hD:V7 l n hf=true):bP l n hf:=by
 have fe:=hB;simp only[IW,yu,decide_eq_true_eq] at fe;obtain⟨⟨⟨⟨⟨⟨hn,K⟩,H⟩,Z⟩,ez⟩,ek⟩,b6⟩:=fe;refine⟨.inl ⟨hn,K,H,ek⟩,λi j A D dZ=> .inr ?_,b6,λi A d hd=>?_⟩
 .have:=xZ.1 (xZ.1 ez i (xS.2 A)) j (xS.2 D)
  rw[Kd hB A,Kd hB D];intro e;simp[dZ,yF e] at this
 .have:=xZ.1 hD i (xS.2 A)
  rw[Kd hB A] at hd;cases hd;simpa using this
theorem Jt{l:List Oper}{n:Nat}{b c:Array Value}(hB:IW l n=true)(h:∀t,(∀i,i<n->BQ l i≠some t)->c[t]?=b[t]?):∀t,(∀i,i<n->Ah l i≠t)->c[t]?=b[t]? :=
 λt ht=>h t λi A e=>ht i A (by rw[Kd hB A] at e;exact yF e)
theorem F6{Q:Exit->Act->World->Prop}{a0:Act}{l:List Oper}(n:Nat)(hm:P.follows .mixedOrders=true)(hB:IW l n=true)
 (hf:Nat)(hN:a0.tmps.size=hf)(hD:V7 l n hf=true)(R:Nat->Value->World->Prop)(G:(Nat->Bool)->World->Prop)(hG:G (λ_=>false) {w0 with drawn:=w0.drawn+1})
 (bi:∀i,i<n->∀o,l[i]?=some o->∀a w,Hid (a.defers=a0.defers/\a.tmps.size=a0.tmps.size/\∀t,(∀i,i<n->Ah l i≠t)->a.tmps[t]?=a0.tmps[t]?)->
  Hid (∀j,xV .any l.toArray i j=true->R j (a.tmps[Ah l j]?.getD undef) w)->∀L:Nat->Bool,Hid (L i=false/\(∀j,xV .any l.toArray i j=true->L j=true)/\∀j j',L j=true->xV .any l.toArray j j'=true->L j'=true)->G L w->
  ∀hs:Act->World->Prop,Hid (∀v w',R i v w'->G (GU L i) w'->(∀j u,j≠i->j<n->L j=true->R j u w->R j u w')->hs (a.put o.dst v) w')->AX P l o a w hs Q)
 (bf:∀(vs:Nat->Value) w,(∀i,i<n->R i (vs i) w)->∀L:Nat->Bool,(∀i,i<n->L i=true)->G L w->wpList P l.toArray Q (l.drop n) {a0 with tmps:=Ak l (yC n) vs a0.tmps} w):
 (vO id l.toArray true).wp P Q a0 w0:=by
 subst hN;refine Lz hm (I:=λL vs w=>(∀i,i<n->L i=true->R i (vs i) w)/\G L w) (Su hB hD) (λvs=>⟨λi _ h=>(by cases h),hG⟩) (λi A o ho a w J O h3 L h6 h7 h8 hI hs hK=>?_) (λa w J O h3 L hL hI=>?_)
 .refine bi i A o ho a w (AA ⟨J,O,Jt hB h3⟩) (AA λj D=>by rw[<-Kg hB (h7 j D).2];exact hI.1 j (h7 j D).2 (h7 j D).1) L (AA ⟨h6,λj D=>(h7 j D).1,h8⟩) hI.2 hs (AA λv w' hR f8 c5=>hK v w' λcz hv ei=>⟨λj D hl=>?_,f8⟩)
  by_cases e:j=i
  .subst e
   rw[hv];simp only[V8 hB A ho];exact hR
  .have bB:L j=true:=by unfold GU at hl;rwa [if_neg e] at hl
   rw[ei j D e];exact c5 j _ e D bB (hI.1 j D bB)
 .have e:=SY l (yC n) a0.tmps a.tmps O (λt ht=>Jt hB h3 t λi A=>ht i (xS.2 A))
  have:=bf (λi=>a.tmps.getD (Ah l i) undef) w (λi A=>by rw[tU,<-Kg hB A];exact hI.1 i A (hL i A)) L hL hI.2;rw[<-e] at this;obtain⟨tm,df⟩:=a;dsimp only at J this;subst J;exact this
end
section
variable {P:Program} {l:List Oper} {i:Nat} {o o':Oper} {a a0:Act} {w:World} {hs:Act->World->Prop} {Q:Exit->Act->World->Prop} {R:Value->World->Prop} {x y hk:Operand} {v u:Value}
def cS(l:List Oper)(o:Oper)(a:Act):Prop:=wY o (yielded l.toArray a.tmps)=true
theorem gn(h:o.guard=none):cS l o a:=by simp[cS,wY,h]
theorem et(h:a.tmps[t]?.getD undef=v):a.eval (.tmp t)=v:=Bp h
theorem eb(h:a.tmps[t]?=a0.tmps[t]?):a.eval (.tmp t)=a0.tmps[t]?.getD undef:=Bp (by rw[h])
theorem eg(h:a.tmps[t]?=a0.tmps[t]?):a.tmps[t]?.getD undef=a0.tmps[t]?.getD undef:=by rw[h]
theorem bc{b X:Nat}(hG:Below B w0 w)(am:b<B)(h:w0.cell? ⟨b,X,none⟩=some v):w.cell? ⟨b,X,none⟩=some v:=(hG.cell (p:=⟨b,X,none⟩) am).trans h
theorem dV(ho:l[i]?=some o)(e:l[i]?=some o')(hw:cS l o' a)(HK:Hid (∀v w',R v w'->Below w.heap.size w w'->hs (a.put o.dst v) w'))(hr:(execOp a.eval o').run P w=.ok (.value v) w)(hR:R v w):AX P l o a w hs Q:=by
 obtain rfl:=yF (ho.symm.trans e);exact⟨λ_=>by unfold vj;rw[hr];exact HK.out _ _ hR (yD _ _),λh=>by rw[show wY o (yielded l.toArray a.tmps)=true from hw] at h;cases h⟩
theorem dF{s b X k:Nat}(ho:l[i]?=some o)(e:l[i]?=some o')(hw:cS l o' a)(HK:Hid (∀v w',R v w'->Below w.heap.size w w'->hs (a.put o.dst v) w'))(dv:o'.op=.fieldAddr s x f)(N:∀b X w,(vi s (.pointer (some ⟨b,X,none⟩)) f).run P w=.ok (.pointer (some ⟨b,X+k,none⟩)) w)(E:a.eval x=.pointer (some ⟨b,X,none⟩))(hR:R (.pointer (some ⟨b,X+k,none⟩)) w):AX P l o a w hs Q:=
 dV ho e hw HK (by unfold execOp;rw[dv];simp only[E,vq,N,vY];rfl) hR
theorem dL{p:Addr}(ho:l[i]?=some o)(e:l[i]?=some o')(hw:cS l o' a)(HK:Hid (∀v w',R v w'->Below w.heap.size w w'->hs (a.put o.dst v) w'))(dv:o'.op=.load t x)(E:a.eval x=.pointer (some p))(hl:(xz t (.pointer (some p))).run P w=.ok v w)(hR:R v w):AX P l o a w hs Q:=
 dV ho e hw HK (by unfold execOp;rw[dv];simp only[E,vq,hl,vY];rfl) hR
end
section
variable {b X:Nat} {w:World} {v0 v1 v2 v3 v4 v5 v6 v7 v8 v9:Value}
theorem Y6:∀b X w,(vi 32 (.pointer (some ⟨b,X,none⟩)) 0).run prog w=.ok (.pointer (some ⟨b,X+0,none⟩)) w:=λb X w=>by go_simp
theorem bX:∀b X w,(vi 32 (.pointer (some ⟨b,X,none⟩)) 1).run prog w=.ok (.pointer (some ⟨b,X+4,none⟩)) w:=λb X w=>by go_simp
theorem bZ:∀b X w,(vi 32 (.pointer (some ⟨b,X,none⟩)) 2).run prog w=.ok (.pointer (some ⟨b,X+5,none⟩)) w:=λb X w=>by go_simp
theorem ba:∀b X w,(vi 32 (.pointer (some ⟨b,X,none⟩)) 3).run prog w=.ok (.pointer (some ⟨b,X+6,none⟩)) w:=λb X w=>by go_simp
theorem FT(h:w.cell? ⟨b,X,none⟩=some v0):(xz 3 (.pointer (some ⟨b,X,none⟩))).run prog w=.ok v0 w:=by go_simp
theorem dI(h:w.cell? ⟨b,X,none⟩=some v0):(xz 4 (.pointer (some ⟨b,X,none⟩))).run prog w=.ok v0 w:=by go_simp
theorem ZP(h:w.cell? ⟨b,X,none⟩=some v0):(xz 9 (.pointer (some ⟨b,X,none⟩))).run prog w=.ok v0 w:=by go_simp
theorem F9(h:w.cell? ⟨b,X,none⟩=some v0):(xz 23 (.pointer (some ⟨b,X,none⟩))).run prog w=.ok v0 w:=by go_simp
theorem GY(h:w.cell? ⟨b,X,none⟩=some v0):(xz 24 (.pointer (some ⟨b,X,none⟩))).run prog w=.ok v0 w:=by go_simp
theorem OL(h:w.cell? ⟨b,X,none⟩=some v0):(xz 25 (.pointer (some ⟨b,X,none⟩))).run prog w=.ok v0 w:=by go_simp
theorem VH(h:w.cell? ⟨b,X,none⟩=some v0):(xz 26 (.pointer (some ⟨b,X,none⟩))).run prog w=.ok v0 w:=by go_simp
theorem OM(h0:w.cell? ⟨b,X,none⟩=some v0)(J:w.cell? ⟨b,X+1,none⟩=some v1)(O:w.cell? ⟨b,X+2,none⟩=some v2)(h3:w.cell? ⟨b,X+3,none⟩=some v3):(xz 28 (.pointer (some ⟨b,X,none⟩))).run prog w=.ok (.agg #[v0,v1,v2,v3]) w:=by go_simp
theorem KU(h:w.cell? ⟨b,X,none⟩=some v0):(xz 29 (.pointer (some ⟨b,X,none⟩))).run prog w=.ok v0 w:=by go_simp
theorem aO(h:w.cell? ⟨b,X,none⟩=some v0):(xz 30 (.pointer (some ⟨b,X,none⟩))).run prog w=.ok v0 w:=by go_simp
theorem Tz(h0:w.cell? ⟨b,X,none⟩=some v0)(J:w.cell? ⟨b,X+1,none⟩=some v1)(O:w.cell? ⟨b,X+2,none⟩=some v2)(h3:w.cell? ⟨b,X+3,none⟩=some v3)(h4:w.cell? ⟨b,X+4,none⟩=some v4)(h5:w.cell? ⟨b,X+5,none⟩=some v5)(h6:w.cell? ⟨b,X+6,none⟩=some v6)(h7:w.cell? ⟨b,X+7,none⟩=some v7)(h8:w.cell? ⟨b,X+8,none⟩=some v8):(xz 32 (.pointer (some ⟨b,X,none⟩))).run prog w=.ok (.agg #[v0,v1,v2,v3,v4,v5,v6,v7,v8]) w:=by go_simp
theorem dG(h0:w.cell? ⟨b,X,none⟩=some v0)(J:w.cell? ⟨b,X+1,none⟩=some v1)(O:w.cell? ⟨b,X+2,none⟩=some v2):(xz 43 (.pointer (some ⟨b,X,none⟩))).run prog w=.ok (.agg #[v0,v1,v2]) w:=by go_simp
theorem cV(h0:w.cell? ⟨b,X,none⟩=some v0)(J:w.cell? ⟨b,X+1,none⟩=some v1)(O:w.cell? ⟨b,X+2,none⟩=some v2)(h3:w.cell? ⟨b,X+3,none⟩=some v3)(h4:w.cell? ⟨b,X+4,none⟩=some v4)(h5:w.cell? ⟨b,X+5,none⟩=some v5):(xz 55 (.pointer (some ⟨b,X,none⟩))).run prog w=.ok (.agg #[v0,v1,v2,v3,v4,v5]) w:=by go_simp
theorem Li(h:w.cell? ⟨b,X,none⟩=some v0):(xz 72 (.pointer (some ⟨b,X,none⟩))).run prog w=.ok v0 w:=by go_simp
theorem VG(h0:w.cell? ⟨b,X,none⟩=some v0)(J:w.cell? ⟨b,X+1,none⟩=some v1)(O:w.cell? ⟨b,X+2,none⟩=some v2)(h3:w.cell? ⟨b,X+3,none⟩=some v3):(xz 112 (.pointer (some ⟨b,X,none⟩))).run prog w=.ok (.agg #[v0,v1,v2,v3]) w:=by go_simp
theorem KS(h:w.cell? ⟨b,X,none⟩=some v0):(xz 124 (.pointer (some ⟨b,X,none⟩))).run prog w=.ok v0 w:=by go_simp
end
section
variable {P:Program}
theorem L0{Q:Exit->Act->World->Prop}{a0:Act}{l:List Oper}(n:Nat)(hm:P.follows .mixedOrders=true)(hB:IW l n=true)
 (hf:Nat)(hN:a0.tmps.size=hf)(hD:V7 l n hf=true)(R:Nat->Value->World->Prop)(bN:∀i,i<n->∀v w w',Below w.heap.size w w'->R i v w->R i v w')
 (bi:∀i,i<n->∀o,l[i]?=some o->∀a w,Hid (a.defers=a0.defers/\a.tmps.size=a0.tmps.size/\∀t,(∀i,i<n->Ah l i≠t)->a.tmps[t]?=a0.tmps[t]?)->
  Hid (∀j,xV .any l.toArray i j=true->R j (a.tmps[Ah l j]?.getD undef) w)->Below w0.heap.size w0 w->
  ∀hs:Act->World->Prop,Hid (∀v w',R i v w'->Below w.heap.size w w'->hs (a.put o.dst v) w')->AX P l o a w hs Q)
 (bf:∀(vs:Nat->Value) w,(∀i,i<n->R i (vs i) w)->Below w0.heap.size w0 w->wpList P l.toArray Q (l.drop n) {a0 with tmps:=Ak l (yC n) vs a0.tmps} w):
 (vO id l.toArray true).wp P Q a0 w0:=by
 refine F6 n hm hB hf hN hD R (λ_ w=>Below w0.heap.size w0 w) ⟨rfl,rfl,rfl,yv _,λ_ _=>rfl⟩ ?_ (λvs w J _ _ O=>bf vs w J O);intro i A o ho a w Hb Hd L HL hG hs HK;exact bi i A o ho a w Hb Hd hG hs (AA λv w' J O=>HK.out v w' J (hG.trans ⟨O.os,O.tape,O.output,O.size,λk z=>O.block k (xW z hG.size)⟩) (λj u _ D _ h=>bN j D u w w' O h))
end
def A3(x:AV):List Value:=[.int .i64 x.k,.string x.g,.int .i64 x.r]
theorem A0(x:AV):(A3 x).length=3:=rfl
def AV.val(x:AV):Value:=.agg #[.int .i64 x.k,.string x.g,.int .i64 x.r]
def AU(x:Ad):List Value:=[.int .i64 x.e,.int .i64 x.p,.int .i64 x.f,.bool x.w]
theorem CZ(x:Ad):(AU x).length=4:=rfl
def Ad.val(x:Ad):Value:=.agg #[.int .i64 x.e,.int .i64 x.p,.int .i64 x.f,.bool x.w]
def BD(s:ByteArray):List Value:=[.string s]
theorem Ho(s:ByteArray):(BD s).length=1:=rfl
def GO(v:Value):List Value:=[v]
theorem ER(v:Value):(GO v).length=1:=rfl
def Ep(p:Value×Int):List Value:=[p.1,.int .i64 p.2]
theorem Fm(p:Value×Int):(Ep p).length=2:=rfl
def BK{α:Type}(sz:Nat)(cs:α->List Value)(w:World)(v:Value)(xs:List α):Prop:=Rd w v sz xs.length (Cc cs xs)
def AQ{α:Type}(lo e sz:Nat)(cs:α->List Value)(w:World)(v:Value)(xs:List α):Prop:=w.ownsRow lo e sz v xs.length (Cc cs xs)
section
variable {α:Type} {sz lo e:Nat} {cs:α->List Value} {w w':World} {v:Value} {xs:List α}
theorem BK.below(h:BK sz cs w v xs)(Y:Below w.heap.size w w'):BK sz cs w' v xs:=Rd.below h Y
theorem AQ.rd(h:AQ lo e sz cs w v xs):BK sz cs w v xs:=Rd.of_owns h
theorem AQ.below(h:AQ lo e sz cs w v xs)(Y:Below w.heap.size w w'):AQ lo e sz cs w' v xs:=Bx h Y
theorem AQ.grown{row:Option Nat}(h:AQ lo e sz cs w v xs)(Z:w.grownBy w' row)(a8:v.ownBlock=none∨v.ownBlock≠row):AQ lo e sz cs w' v xs:=Aw h Z a8
theorem AQ.lower(h:AQ lo e sz cs w v xs)(hl:lo'<=lo):AQ lo' e sz cs w v xs:=BU h hl
theorem BK.shape(h:BK sz cs w v xs):∃a V,v=.slice a xs.length V/\xs.length<=V/\V<=maxLen:=Rd.shape h
theorem BK.open(K:∀x,(cs x).length=sz)(db:0<sz)(h:BK sz cs w v xs):∃a V,v=.slice a xs.length V/\xs.length<=V/\V<=maxLen/\TM sz cs w a xs:=by obtain⟨a,V,rfl,J,O⟩:=Rd.shape h;exact⟨a,V,rfl,J,O,TM.of K db h⟩
end
abbrev Bb(w:World)(v:Value)(xs:List AV):Prop:=BK 3 A3 w v xs
abbrev DJ(w:World)(v:Value)(xs:List Ad):Prop:=BK 4 AU w v xs
abbrev BY(w:World)(v:Value)(xs:List ByteArray):Prop:=BK 1 BD w v xs
def Fq{α β:Type}(R:α->β->Prop)(xs:List α)(ys:List β):Prop:=xs.length=ys.length/\∀(i:Nat) x y,xs[i]?=some x->ys[i]?=some y->R x y
theorem Fq.mono{α β:Type}{R S:α->β->Prop}{xs:List α}{ys:List β}(h:Fq R xs ys)(ir:∀x y,R x y->S x y):Fq S xs ys:=⟨h.1,λi x y E hy=>ir _ _ (h.2 i x y E hy)⟩
theorem Fq.nil{α β:Type}{R:α->β->Prop}:Fq R [] []:=⟨rfl,λi x y h=>by simp at h⟩
theorem Fq.snoc{α β:Type}{R:α->β->Prop}{xs:List α}{ys:List β}{x:α}{y:β}(h:Fq R xs ys)(hJ:R x y):Fq R (xs++[x]) (ys++[y]):=by
 refine⟨by simp[h.1],λi a b ha Y=>?_⟩
 by_cases A:i<xs.length
 .rw[wW A] at ha
  rw[wW (by rw[<-h.1];exact A)] at Y;exact h.2 i a b ha Y
 .have J:=(yt.1 ha).1
  simp at J;obtain rfl:i=xs.length:=by omega
  simp at ha;rw[h.1] at Y;simp at Y;subst ha Y;exact hJ
def Bk(w:World)(v:Value)(da:List (List Int)):Prop:=∃vs,BK 1 GO w v vs/\Fq (Ax w) vs da
def L6(w:World)(v:Value)(fi:List (List ByteArray)):Prop:=∃vs,BK 1 GO w v vs/\Fq (BY w) vs fi
def F7(w:World)(v:Value)(es:List Eh):Prop:=∃ps,BK 2 Ep w v ps/\Fq (λp e=>BY w p.1 e.zT/\p.2=e.root) ps es
def Mu(w:World)(m i e c:Value)(k:AO):Prop:=Bk w m k.mem/\Bb w i k.zZ/\F7 w e k.zX/\DJ w c k.zW
section
variable {w w':World} {v:Value}
theorem Bk.below(h:Bk w v da)(Y:Below w.heap.size w w'):Bk w' v da:=by
 obtain⟨vs,J,O⟩:=h;exact⟨vs,J.below Y,O.mono λ_ _ h=>Ax.below h Y⟩
theorem L6.below{fi:List (List ByteArray)}(h:L6 w v fi)(Y:Below w.heap.size w w'):L6 w' v fi:=by
 obtain⟨vs,J,O⟩:=h;exact⟨vs,J.below Y,O.mono λ_ _ h=>BK.below h Y⟩
theorem F7.below{es:List Eh}(h:F7 w v es)(Y:Below w.heap.size w w'):F7 w' v es:=by
 obtain⟨ps,J,O⟩:=h;exact⟨ps,J.below Y,O.mono λ_ _ h=>⟨BK.below h.1 Y,h.2⟩⟩
theorem Mu.below{m i e:Value}{k:AO}(h:Mu w m i e c k)(Y:Below w.heap.size w w'):Mu w' m i e c k:=⟨h.1.below Y,h.2.1.below Y,h.2.2.1.below Y,h.2.2.2.below Y⟩
end
def DP(vs:List Value):Prop:=∀(i j:Nat) u u',i≠j->vs[i]?=some u->vs[j]?=some u'->Fp u u'
theorem DP.nil:DP []:=λi j u u' _ h=>by simp at h
theorem DP.snoc{vs:List Value}{v:Value}(h:DP vs)(hv:∀u∈vs,Fp u v):DP (vs++[v]):=by
 intro i j u u' dZ A D;have J:=(yt.1 A).1;have O:=(yt.1 D).1;simp at J O
 by_cases fn:i<vs.length
 .rw[wW fn] at A
  by_cases dx:j<vs.length
  .rw[wW dx] at D
   exact h i j u u' dZ A D
  .obtain rfl:j=vs.length:=by omega
   simp at D;subst D;exact hv u (yh A)
 .obtain rfl:i=vs.length:=by omega
  simp at A;subst A;rw[wW (by omega)] at D;exact(hv u' (yh D)).symm
def Au(lo:Nat)(w:World)(v:Value)(vs:List Value)(da:List (List Int)):Prop:=AQ lo 29 1 GO w v vs/\Fq (AF lo w) vs da/\DP vs
def DI(lo:Nat)(w:World)(v:Value)(ps:List (Value×Int))(es:List Eh):Prop:=AQ lo 74 2 Ep w v ps/\Fq (λp e=>AQ lo 9 1 BD w p.1 e.zT/\p.2=e.root) ps es/\DP (ps.map (·.1))
theorem Au.rd{lo:Nat}{w:World}{v:Value}(h:Au lo w v vs da):Bk w v da:=⟨vs,h.1.rd,h.2.1.mono λ_ _ h=>AF.rd h⟩
theorem DI.rd{lo:Nat}{w:World}{v:Value}{ps:List (Value×Int)}{es:List Eh}(h:DI lo w v ps es):F7 w v es:=⟨ps,h.1.rd,h.2.1.mono λ_ _ h=>⟨h.1.rd,h.2⟩⟩
theorem Au.below{lo:Nat}{w w':World}{v:Value}(h:Au lo w v vs da)(Y:Below w.heap.size w w'):Au lo w' v vs da:=⟨h.1.below Y,h.2.1.mono λ_ _ h=>AF.below h Y,h.2.2⟩
theorem DI.below{lo:Nat}{w w':World}{v:Value}{ps:List (Value×Int)}{es:List Eh}(h:DI lo w v ps es)(Y:Below w.heap.size w w'):DI lo w' v ps es:=⟨h.1.below Y,h.2.1.mono λ_ _ h=>⟨h.1.below Y,h.2⟩,h.2.2⟩
theorem Au.lower{lo:Nat}{w:World}{v:Value}(h:Au lo w v vs da)(hl:lo'<=lo):Au lo' w v vs da:=⟨h.1.lower hl,h.2.1.mono λ_ _ h=>BU h hl,h.2.2⟩
theorem DI.lower{lo:Nat}{w:World}{v:Value}{ps:List (Value×Int)}{es:List Eh}(h:DI lo w v ps es)(hl:lo'<=lo):DI lo' w v ps es:=⟨h.1.lower hl,h.2.1.mono λ_ _ h=>⟨h.1.lower hl,h.2⟩,h.2.2⟩
theorem CU{α:Type}(cs:α->List Value)(w:World)(e sz:Nat):AQ w.heap.size e sz cs (w.alloc (.cells #[] e)) (.slice (some ⟨w.heap.size,0,none⟩) 0 0) []:=Cu w e sz
def Da(lo:Nat)(w:World)(m i e c:Value)(k:AO):Prop:=
 (∃vs,Au lo w m vs k.mem)/\AQ lo 92 3 A3 w i k.zZ/\(∃ps,DI lo w e ps k.zX)/\AQ lo 112 4 AU w c k.zW
theorem Da.rd{lo:Nat}{w:World}{m i e:Value}{k:AO}(h:Da lo w m i e c k):Mu w m i e c k:=⟨h.1.choose_spec.rd,h.2.1.rd,h.2.2.1.choose_spec.rd,h.2.2.2.rd⟩
theorem Da.below{lo:Nat}{w w':World}{m i e:Value}{k:AO}(h:Da lo w m i e c k)(Y:Below w.heap.size w w'):Da lo w' m i e c k:=
 ⟨⟨_,h.1.choose_spec.below Y⟩,h.2.1.below Y,⟨_,h.2.2.1.choose_spec.below Y⟩,h.2.2.2.below Y⟩
theorem A6{w:World}{lo e sz n:Nat}{v:Value}{xs:List Value}(h:w.ownsRow lo e sz v n xs):∀g,v.ownBlock=some g->∃bD,w.heap[g]?=some (.cells bD e (0,0)):=by
 intro g Z
 rcases h.2 with⟨rfl,_⟩|⟨g',V,bD,rfl,_,hh,_⟩
 .simp[vK] at Z
 .simp[vK] at Z
  subst Z;exact⟨bD,hh⟩
theorem A8{w:World}{lo e e' sz g6 n n':Nat}{v v':Value}{xs g5:List Value}(h:w.ownsRow lo e sz v n xs)(h':w.ownsRow lo' e' g6 v' n' g5)(a8:e≠e'):Fp v v':=by intro g Z dc;obtain⟨c1,J⟩:=A6 h g Z;obtain⟨c2,O⟩:=A6 h' g dc;rw[J] at O;simp at O;exact a8 O.2
theorem AE{w:World}{g:Nat}{m i e:Value}(h:w.heap[g]?=some (.cells #[m,i,e,c] t (0,0))):w.cell? ⟨g,0,none⟩=some m/\w.cell? ⟨g,1,none⟩=some i/\w.cell? ⟨g,2,none⟩=some e/\w.cell? ⟨g,3,none⟩=some c:=
 ⟨ym w g 0 _ _ _ h,ym w g 1 _ _ _ h,ym w g 2 _ _ _ h,ym w g 3 _ _ _ h⟩
theorem AK{w:World}{g:Nat}{cs:Array Value}(h:w.heap[g]?=some (.cells cs t (0,0))):∀j,w.frozen? ⟨g,j,none⟩=false:=λj=>frozen_of_row w g j _ _ h
theorem AW{w:World}{g:Nat}{o:Obj}(h:w.heap[g]?=some o):g<w.heap.size:=(wM.1 h).1
theorem AB{w w':World}{g:Nat}{o:Obj}(h:w.heap[g]?=some o)(Y:Below w.heap.size w w'):w'.heap[g]?=some o:=(Y.block g (AW h)).trans h
theorem Cx{w:World}{g:Nat}{m i e m' i' e' c':Value}(h:w.heap[g]?=some (.cells #[m,i,e,c] t (0,0))):
 ((((w.setCell ⟨g,0,none⟩ m').setCell ⟨g,1,none⟩ i').setCell ⟨g,2,none⟩ e').setCell ⟨g,3,none⟩ c').heap[g]?=some (.cells #[m',i',e',c'] t (0,0)):=by
 have h0:=yq w g 0 _ t m' h;have J:=yq _ g 1 _ t i' h0;have O:=yq _ g 2 _ t e' J;have h3:=yq _ g 3 _ t c' O;simpa using h3
theorem FE{w w':World}{lo e sz n g T:Nat}{v:Value}{xs:List Value}{bD:Array Value}{fr:Nat×Nat}(h:w.ownsRow lo e sz v n xs)(Z:w.grownBy w' (some g))(Y:w.heap[g]?=some (.cells bD T fr))(a8:e≠T:=by decide):w'.ownsRow lo e sz v n xs:=by
 refine Aw h Z ?_;cases hv:v.ownBlock with
 |none=>exact .inl rfl
 |some k=>
  refine .inr λhe=>?_
  simp only[Option.some.injEq] at he;subst he;obtain⟨c1,J⟩:=A6 h k hv;rw[J] at Y;simp at Y;exact a8 Y.2.1
section
variable {w w':World} {lo g T:Nat} {v:Value} {bD:Array Value} {fr:Nat×Nat}
theorem AQ.yL{α:Type}{e sz:Nat}{cs:α->List Value}{xs:List α}(h:AQ lo e sz cs w v xs)(Z:w.grownBy w' (some g))(Y:w.heap[g]?=some (.cells bD T fr))(a8:e≠T:=by decide):AQ lo e sz cs w' v xs:=FE h Z Y a8
theorem Au.yL(h:Au lo w v vs da)(Z:w.grownBy w' (some g))(Y:w.heap[g]?=some (.cells bD T fr))(J:29≠T:=by decide)(O:3≠T:=by decide):Au lo w' v vs da:=
 ⟨h.1.yL Z Y J,h.2.1.mono λ_ _ h=>FE h Z Y O,h.2.2⟩
theorem DI.yL{ps:List (Value×Int)}{es:List Eh}(h:DI lo w v ps es)(Z:w.grownBy w' (some g))(Y:w.heap[g]?=some (.cells bD T fr))(J:74≠T:=by decide)(O:9≠T:=by decide):DI lo w' v ps es:=
 ⟨h.1.yL Z Y J,h.2.1.mono λ_ _ h=>⟨h.1.yL Z Y O,h.2⟩,h.2.2⟩
end
theorem Au.kept{w w':World}{lo e sz n:Nat}{v u:Value}{xs:List Value}(h:Au lo w v vs da)(Z:w.grownBy w' u.ownBlock)(hu:w.ownsRow lo' e sz u n xs)(J:29≠e)(O:3≠e):Au lo w' v vs da:=
 ⟨Aw h.1 Z (A8 h.1 hu J).ne,h.2.1.mono λ_ _ h=>Aw h Z (A8 h hu O).ne,h.2.2⟩
theorem Aq(w:World)(g j:Nat)(u:Value):w.grownBy (w.setCell ⟨g,j,none⟩ u) (some g):=⟨rfl,rfl,rfl,by simp,λk _ z=>heap_setCell_other w ⟨g,j,none⟩ k u (λe=>z (by simp[e]))⟩
theorem An{w:World}{g:Nat}(h:w0.grownBy w (some g))(j:Nat)(u:Value):w0.grownBy (w.setCell ⟨g,j,none⟩ u) (some g):=AP h (Aq w g j u)
section
variable {P:Program}
end
theorem Zz{l:List Oper}{tmps:Array Value}{g d:Nat}(hd:(l[g]?).bind (·.dst)=some d)(hv:tmps[d]?.getD undef=undef):yielded l.toArray tmps g=none:=by
 have h:(l.toArray[g]?).bind (·.dst)=some d:=by simpa using hd
 unfold yielded;rw[h,vJ];cases E:tmps[d]? with
 |none=>rfl
 |some x=>rw[E] at hv;simp at hv;subst hv;rfl
theorem AX.un{P:Program}{l:List Oper}{o:Oper}{a:Act}{w:World}{hs:Act->World->Prop}{Q:Exit->Act->World->Prop}{g d:Nat}{b:Bool}(Z:o.guard=some (g,b))(hd:(l[g]?).bind (·.dst)=some d)(hv:a.tmps[d]?.getD undef=undef)(h:hs (a.put o.dst undef) w):AX P l o a w hs Q:=
 ⟨λhw=>by rw[wY,Z] at hw;simp only[Zz hd hv] at hw;cases b<;>simp at hw,λ_=>h⟩
theorem GL{w w':World}{row:Option Nat}{b o:Nat}(h:w.grownBy w' row)(Y:b<w.heap.size)(a8:row≠some b):w'.cell? ⟨b,o,none⟩=w.cell? ⟨b,o,none⟩:=vX (h.block b Y (λe=>a8 e.symm))
def Cn(l:List Oper)(is:List Nat)(vs:Nat->Value)(b:Array Value):Array Value:=is.foldl (λb i=>match BQ l i with|some d=>b.setIfInBounds d (vs i)|none=>b) b
def XL(l:List Oper)(hf:Nat):Bool:=
 ((yC l.length).all λi=>(yC l.length).all λj=>i==j||(BQ l i).isNone||BQ l i !=BQ l j)&&
 ((yC l.length).all λj=>match l[j]? with|some o=>o.after.all λe=>!ut .any e||decide (e.on<j)|none=>false)&&
 ((yC l.length).all λi=>match BQ l i with|some d=>decide (d<hf)|none=>true)
section
variable {P:Program}
theorem Ux(l:List Oper):∀(is:List Nat)(b c:Array Value),c.size=b.size->(∀t,(∀i,i∈is->BQ l i≠some t)->c[t]?=b[t]?)->c=Cn l is (λi=>EJ l c i) b:=by
 intro is
 induction is with
 |nil=>intro b c K h;exact sS λt=>h t (λi A=>by cases A)
 |cons i is ih=>
  intro b c K h
  show c=Cn l is _ (match BQ l i with|some d=>b.setIfInBounds d (EJ l c i)|none=>b)
  cases hd:BQ l i with
  |none=>
   exact ih b c K λt ht=>h t λj D=>by
    rcases xD.1 D with rfl|D
    .rw[hd];exact(λe=>by cases e)
    .exact ht j D
  |some d=>
   refine ih _ c (by simpa using K) λt ht=>?_
   by_cases ej:d=t
   .subst ej
    have hv:EJ l c i=c[d]?.getD undef:=by unfold EJ;rw[hd]
    show c[d]?=(b.setIfInBounds d (EJ l c i))[d]?
    rw[hv]
    rcases th d c.size with h'|h'
    .have:d<b.size:=by omega
     simp[h',this]
    .have:b.size<=d:=by omega
     simp[h',this]
   .show c[t]?=(b.setIfInBounds d (EJ l c i))[t]?
    rw[wk ej];exact h t λj D=>by
     rcases xD.1 D with rfl|D
     .rw[hd];exact λe=>ej (yF e)
     .exact ht j D
theorem Q3{Q:Exit->Act->World->Prop}{a0:Act}{l:List Oper}(n:Nat)(hm:P.follows .mixedOrders=true)
 (hf:Nat)(hN:a0.tmps.size=hf)(hB:XL l hf=true)(hn:l.length=n)(S:Nat->Bool)(R:(Nat->Bool)->Nat->Value->World->Prop)(G:(Nat->Bool)->World->Prop)
 (hG:G (λ_=>false) {w0 with drawn:=w0.drawn+1})
 (bN:∀j,j<n->∀L i v w w',i<n->S i=false->L i=false->L j=true->Below w.heap.size w w'->R L j v w->R (GU L i) j v w')
 (dz:∀L i w w',i<n->S i=false->L i=false->Below w.heap.size w w'->G L w->G (GU L i) w')
 (bi:∀i,i<n->S i=false->∀o,l[i]?=some o->∀a w,Hid (a.defers=a0.defers/\a.tmps.size=a0.tmps.size/\∀t,(∀i,i<n->BQ l i≠some t)->a.tmps[t]?=a0.tmps[t]?)->
  ∀L:Nat->Bool,Hid (∀j,L j=true->j<n->R L j (EJ l a.tmps j) w)->Hid (L i=false/\(∀j,xV .any l.toArray i j=true->L j=true)/\∀j j',L j=true->xV .any l.toArray j j'=true->L j'=true)->G L w->
  ∀hs:Act->World->Prop,Hid (∀v w',R (GU L i) i (match o.dst with|some _=>v|none=>undef) w'->Below w.heap.size w w'->hs (a.put o.dst v) w')->AX P l o a w hs Q)
 (ds:∀i,i<n->S i=true->∀o,l[i]?=some o->∀a w,Hid (a.defers=a0.defers/\a.tmps.size=a0.tmps.size/\∀t,(∀i,i<n->BQ l i≠some t)->a.tmps[t]?=a0.tmps[t]?)->
  ∀L:Nat->Bool,Hid (∀j,L j=true->j<n->R L j (EJ l a.tmps j) w)->Hid (L i=false/\(∀j,xV .any l.toArray i j=true->L j=true)/\∀j j',L j=true->xV .any l.toArray j j'=true->L j'=true)->G L w->
  ∀hs:Act->World->Prop,Hid (∀v w',R (GU L i) i (match o.dst with|some _=>v|none=>undef) w'->G (GU L i) w'->(∀j,j≠i->j<n->L j=true->R L j (EJ l a.tmps j) w->R (GU L i) j (EJ l a.tmps j) w')->hs (a.put o.dst v) w')->AX P l o a w hs Q)
 (bf:∀(vs:Nat->Value) w,∀L:Nat->Bool,(∀i,i<n->L i=true)->(∀i,i<n->R L i (vs i) w)->G L w->wpList P l.toArray Q [] {a0 with tmps:=Cn l (yC n) vs a0.tmps} w):
 (vO id l.toArray true).wp P Q a0 w0:=by
 subst hn;subst hN;have fe:=hB;simp only[XL,yu] at fe;obtain⟨⟨ez,b6⟩,dy⟩:=fe;refine Lz hm (n:=l.length) (I:=λL vs w=>(∀i,i<l.length->L i=true->R L i (vs i) w)/\G L w) ⟨.inr rfl,λi j A D dZ=>?_,b6,λi A d hd=>?_⟩ (λvs=>⟨λi _ h=>(by cases h),hG⟩) (λi A o ho a w J O h3 L h6 h7 h8 hI hs hK=>?_) (λa w J O h3 L hL hI=>?_)
 .have:=xZ.1 (xZ.1 ez i (xS.2 A)) j (xS.2 D)
  simp only[xE,beq_iff_eq,dZ,false_or,bne_iff_ne,Option.isNone_iff_eq_none] at this;exact this
 .have:=xZ.1 dy i (xS.2 A)
  rw[hd] at this;simpa using this
 .have eM:∀{v w'},R (GU L i) i (match o.dst with|some _=>v|none=>undef) w'->(∀j,j≠i->j<l.length->L j=true->R L j (EJ l a.tmps j) w->R (GU L i) j (EJ l a.tmps j) w')->∀cz:Nat->Value,cz i=(match o.dst with|some _=>v|none=>undef)->(∀j,j<l.length->j≠i->cz j=EJ l a.tmps j)->∀j,j<l.length->GU L i j=true->R (GU L i) j (cz j) w':=by
   intro v w' hR z cz hv ei j D hl
   by_cases e:j=i
   .subst e
    rw[hv];exact hR
   .have bB:L j=true:=by unfold GU at hl;rwa [if_neg e] at hl
    rw[ei j D e];exact z j e D bB (hI.1 j D bB)
  cases hS:S i with
  |false=>exact bi i A hS o ho a w (AA ⟨J,O,h3⟩) L (AA λj D eZ=>hI.1 j eZ D) (AA ⟨h6,λj D=>(h7 j D).1,h8⟩) hI.2 hs (AA λv w' hR Y=>hK v w' λcz hv ei=>⟨eM hR (λj eF eZ eu hu=>bN j eZ L i _ w w' A hS h6 eu Y hu) cz hv ei,dz L i w w' A hS h6 Y hI.2⟩)
  |true=>exact ds i A hS o ho a w (AA ⟨J,O,h3⟩) L (AA λj D eZ=>hI.1 j eZ D) (AA ⟨h6,λj D=>(h7 j D).1,h8⟩) hI.2 hs (AA λv w' hR f8 z=>hK v w' λcz hv ei=>⟨eM hR z cz hv ei,f8⟩)
 .have e:=Ux l (yC l.length) a0.tmps a.tmps O (λt ht=>h3 t λi A=>ht i (xS.2 A))
  have:=bf (λi=>EJ l a.tmps i) w L hL (λi A=>hI.1 i A (hL i A)) hI.2;rw[<-e] at this;rw[List.drop_length];obtain⟨tm,df⟩:=a;dsimp only at J this;subst J;exact this
end
inductive Vx where
 |p (b o:Nat)
 |i (x:Int)
 |s (b n c:Nat)
 |b (x:Bool)
 |t (x:ByteArray)
 |v (x:Value)
 |a (x:Array Value)
 |u
 |z
def Vx.val:Vx->Option Value
 | .p x y=>some (.pointer (some ⟨x,y,none⟩))
 | .i x=>some (.int .i64 x)
 | .s x y k=>some (.slice (some ⟨x,0,none⟩) y k)
 | .b x=>some (.bool x)
 | .t x=>some (.string x)
 | .v x=>some x
 | .a x=>some (.agg x)
 | .u=>some undef
 | .z=>none
def EV(L:List Vx)(i:Nat):Option Value:=(L[i]?).bind Vx.val
def RV(L:List Vx)(R:Nat->Value->World->Prop)(i:Nat)(v:Value)(w:World):Prop:=
 match EV L i with
 |some x=>v=x
 |none=>R i v w
theorem RV.of{L:List Vx}{R:Nat->Value->World->Prop}{i:Nat}{v:Value}{w:World}(h:EV L i=some v):RV L R i v w:=by unfold RV;rw[h]
theorem RV.eq{L:List Vx}{R:Nat->Value->World->Prop}{i:Nat}{v x:Value}{w:World}(h:RV L R i v w)(e:EV L i=some x):v=x:=by unfold RV at h;rw[e] at h;exact h
theorem RV.mono{L:List Vx}{R:Nat->Value->World->Prop}{i:Nat}{v:Value}{w w':World}(hR:R i v w->R i v w')(h:RV L R i v w):RV L R i v w':=by
 unfold RV at h ⊢;cases e:EV L i with
 |some x=>rw[e] at h;exact h
 |none=>rw[e] at h;exact hR h
def UQ(l:List Oper)(n t:Nat):Option Nat:=(yC n).find? λj=>Ah l j==t
def Zj(l:List Oper)(n i:Nat)(L:List Vx)(a0 a:Act):Operand->Value
 | .tmp t=>
  match UQ l n t with
  |some j=>
   match xV .any l.toArray i j with
   |true=>match EV L j with
    |some x=>x
    |none=>a.eval (.tmp t)
   |false=>a.eval (.tmp t)
  |none=>a0.tmps[t]?.getD undef
 |x=>a.eval x
def YU(l:List Oper)(n:Nat)(L:List Vx)(a0:Act):Operand->Value
 | .tmp t=>
  match UQ l n t with
  |some j=>(EV L j).getD undef
  |none=>a0.tmps[t]?.getD undef
 |_=>undef
def LG(l:List Oper)(i:Nat)(L:List Vx)(o:Oper):Option Bool:=
 match o.guard with
 |none=>some true
 |some (g,b)=>
  match xV .any l.toArray i g with
  |true=>
   match(l[g]?).bind (·.dst) with
   |some _=>
    match EV L g with
    |some (.bool c)=>some (c==b)
    |some (.tuple _)=>some false
    |_=>none
   |none=>none
  |false=>none
section
variable {P:Program} {l:List Oper} {n i:Nat} {o o':Oper} {a a0:Act} {w:World} {hs:Act->World->Prop} {Q:Exit->Act->World->Prop} {L:List Vx} {R:Nat->Value->World->Prop} {v:Value}
theorem Qg(Hb:Hid (a.defers=a0.defers/\a.tmps.size=a0.tmps.size/\∀t,(∀i,i<n->Ah l i≠t)->a.tmps[t]?=a0.tmps[t]?))(Hd:Hid (∀j,xV .any l.toArray i j=true->RV L R j (a.tmps[Ah l j]?.getD undef) w)):Zj l n i L a0 a=a.eval:=by
 funext x
 cases x with
 |tmp t=>
  show(match UQ l n t with|some j=>_|none=>_)=_
  cases e:UQ l n t with
  |none=>
   simp only;have h:∀j,j<n->Ah l j≠t:=by intro j D O;have:=sH.1 e j (xS.2 D);simp[O] at this
   exact(Bp (by rw[Hb.out.2.2 t h])).symm
  |some j=>
   simp only;have O:Ah l j=t:=by have:=r9 e;simpa using this
   cases e3:xV .any l.toArray i j with
   |false=>rfl
   |true=>
    simp only;cases e4:EV L j with
    |none=>rfl
    |some y=>simp only;have:=(Hd.out j e3).eq e4;rw[O] at this;exact(Bp this).symm
 |const v=>rfl
 |global g=>rfl
 |func f=>rfl
theorem Kh{c:Bool}(Hd:Hid (∀j,xV .any l.toArray i j=true->RV L R j (a.tmps[Ah l j]?.getD undef) w))(h:LG l i L o=some c):wY o (yielded l.toArray a.tmps)=c:=by
 unfold LG at h;unfold wY;cases e:o.guard with
 |none=>rw[e] at h;simp only at h ⊢;exact yF h
 |some gb=>
  obtain⟨g,b⟩:=gb;rw[e] at h;simp only at h ⊢;cases e1:xV .any l.toArray i g with
  |false=>rw[e1] at h;cases h
  |true=>
   rw[e1] at h;simp only at h;cases e2:(l[g]?).bind (·.dst) with
   |none=>rw[e2] at h;cases h
   |some d=>
    rw[e2] at h;simp only at h;have hd:Ah l g=d:=by unfold Ah;rw[e2];rfl
    have O:(l.toArray[g]?).bind (·.dst)=some d:=by simpa using e2
    cases e3:EV L g with
    |none=>rw[e3] at h;cases h
    |some x=>
     have h3:=(Hd.out g e1).eq e3;rw[hd] at h3;rw[e3] at h;cases x with
     |bool c9=>have hv:=yF h;rw[Np e2 h3,<-hv];cases c9<;>cases b<;>rfl
     |tuple y=>
      have hv:=yF h;rw[<-hv];unfold yielded;rw[O,vJ];cases E:a.tmps[d]? with
      |none=>rfl
      |some y=>rw[E] at h3;simp only[sG] at h3;subst h3;rfl
     |_=>cases h
theorem sP(ho:l[i]?=some o)(HK:Hid (∀v w',RV L R i v w'->Below w.heap.size w w'->hs (a.put o.dst v) w'))(Hb:Hid (a.defers=a0.defers/\a.tmps.size=a0.tmps.size/\∀t,(∀i,i<n->Ah l i≠t)->a.tmps[t]?=a0.tmps[t]?))(Hd:Hid (∀j,xV .any l.toArray i j=true->RV L R j (a.tmps[Ah l j]?.getD undef) w))
 (e:l[i]?=some o':=by rfl)(hv:EV L i=some v:=by rfl)(hw:LG l i L o'=some true:=by kernel_rfl)(hr:(execOp (Zj l n i L a0 a) o').run P w=.ok (.value v) w:=by kernel_rfl):AX P l o a w hs Q:=
 dV ho e (Kh Hd hw) HK (by rw[<-Qg Hb Hd];exact hr) (RV.of hv)
theorem sL{t:Nat}{x:Operand}{p:Value}(ho:l[i]?=some o)(HK:Hid (∀v w',RV L R i v w'->Below w.heap.size w w'->hs (a.put o.dst v) w'))(Hb:Hid (a.defers=a0.defers/\a.tmps.size=a0.tmps.size/\∀t,(∀i,i<n->Ah l i≠t)->a.tmps[t]?=a0.tmps[t]?))(Hd:Hid (∀j,xV .any l.toArray i j=true->RV L R j (a.tmps[Ah l j]?.getD undef) w))
 (e:l[i]?=some o':=by rfl)(dv:o'.op=.load t x:=by rfl)(hp:YU l n L a0 x=p:=by rfl)(hq:Zj l n i L a0 a x=YU l n L a0 x:=by kernel_rfl)(hv:EV L i=some v:=by rfl)(hw:LG l i L o'=some true:=by kernel_rfl)(hl:(xz t p).run P w=.ok v w):AX P l o a w hs Q:=
 dV ho e (Kh Hd hw) HK (by rw[<-Qg Hb Hd];unfold execOp;rw[dv];simp only[hq.trans hp,vq,hl,vY];rfl) (RV.of hv)
theorem sB(ho:l[i]?=some o)(HK:Hid (∀v w',RV L R i v w'->Below w.heap.size w w'->hs (a.put o.dst v) w'))(Hd:Hid (∀j,xV .any l.toArray i j=true->RV L R j (a.tmps[Ah l j]?.getD undef) w))
 (e:l[i]?=some o':=by rfl)(hv:EV L i=some undef:=by rfl)(hw:LG l i L o'=some false:=by kernel_rfl):AX P l o a w hs Q:=by
 obtain rfl:=yF (ho.symm.trans e);exact⟨λh=>absurd ((Kh Hd hw).symm.trans h) (by decide),λ_=>HK.out _ _ (RV.of hv) (yD _ _)⟩
theorem sC{F:FuncId}{vs:Array Value}{Qc:Ending->World->Prop}(ho:l[i]?=some o)(HK:Hid (∀v w',RV L R i v w'->Below w.heap.size w w'->hs (a.put o.dst v) w'))(Hb:Hid (a.defers=a0.defers/\a.tmps.size=a0.tmps.size/\∀t,(∀i,i<n->Ah l i≠t)->a.tmps[t]?=a0.tmps[t]?))(Hd:Hid (∀j,xV .any l.toArray i j=true->RV L R j (a.tmps[Ah l j]?.getD undef) w))
 (H:Calls P F vs w Qc)(hq:∀e w',Qc e w'->∃v,e=.returned v/\RV L R i v w'/\Below w.heap.size w w')
 (e:l[i]?=some o':=by rfl)(hw:LG l i L o'=some true:=by kernel_rfl)(hr:(execOp (Zj l n i L a0 a) o').run P w=.ok (.enter F vs) w:=by kernel_rfl):AX P l o a w hs Q:=by
 obtain rfl:=yF (ho.symm.trans e);refine⟨λ_=>?_,λh=>absurd ((Kh Hd hw).symm.trans h) (by decide)⟩;unfold vj;rw[<-Qg Hb Hd,hr,tG];refine H.mono ?_;intro x w' h;obtain⟨v,rfl,J,O⟩:=hq x w' h;exact HK.out v w' J O
theorem sD{F:FuncId}{vs:Array Value}(ho:l[i]?=some o)(HK:Hid (∀v w',RV L R i v w'->Below w.heap.size w w'->hs (a.put o.dst v) w'))(Hb:Hid (a.defers=a0.defers/\a.tmps.size=a0.tmps.size/\∀t,(∀i,i<n->Ah l i≠t)->a.tmps[t]?=a0.tmps[t]?))(Hd:Hid (∀j,xV .any l.toArray i j=true->RV L R j (a.tmps[Ah l j]?.getD undef) w))
 (H:Calls P F vs w λe w'=>e=.returned v/\Below w.heap.size w w')(e:l[i]?=some o':=by rfl)(hv:EV L i=some v:=by rfl)(hw:LG l i L o'=some true:=by kernel_rfl)(hr:(execOp (Zj l n i L a0 a) o').run P w=.ok (.enter F vs) w:=by kernel_rfl):AX P l o a w hs Q:=
 sC ho HK Hb Hd H (λ_ _ h=>⟨v,h.1,RV.of hv,h.2⟩) e hw hr
theorem sE{F:FuncId}{vs:Array Value}(ho:l[i]?=some o)(HK:Hid (∀v w',RV L R i v w'->Below w.heap.size w w'->hs (a.put o.dst v) w'))(Hb:Hid (a.defers=a0.defers/\a.tmps.size=a0.tmps.size/\∀t,(∀i,i<n->Ah l i≠t)->a.tmps[t]?=a0.tmps[t]?))(Hd:Hid (∀j,xV .any l.toArray i j=true->RV L R j (a.tmps[Ah l j]?.getD undef) w))
 (H:Calls P F vs w λe w'=>e=.returned v/\w=w')(e:l[i]?=some o':=by rfl)(hv:EV L i=some v:=by rfl)(hw:LG l i L o'=some true:=by kernel_rfl)(hr:(execOp (Zj l n i L a0 a) o').run P w=.ok (.enter F vs) w:=by kernel_rfl):AX P l o a w hs Q:=
 sC ho HK Hb Hd H (λ_ _ h=>⟨v,h.1,RV.of hv,h.2▸yD _ _⟩) e hw hr
theorem sI{t b X ln cp:Nat}{x y:Operand}{j:Int}(ho:l[i]?=some o)(HK:Hid (∀v w',RV L R i v w'->Below w.heap.size w w'->hs (a.put o.dst v) w'))(Hb:Hid (a.defers=a0.defers/\a.tmps.size=a0.tmps.size/\∀t,(∀i,i<n->Ah l i≠t)->a.tmps[t]?=a0.tmps[t]?))(Hd:Hid (∀j,xV .any l.toArray i j=true->RV L R j (a.tmps[Ah l j]?.getD undef) w))
 (e:l[i]?=some o':=by rfl)(dv:o'.op=.indexAddr t x y:=by rfl)(hp:YU l n L a0 x=.slice (some ⟨b,X,none⟩) ln cp:=by rfl)(hy:YU l n L a0 y=.int .i64 j:=by rfl)(hU:Zj l n i L a0 a x=YU l n L a0 x:=by kernel_rfl)(g7:Zj l n i L a0 a y=YU l n L a0 y:=by kernel_rfl)(hv:EV L i=some v:=by rfl)(hw:LG l i L o'=some true:=by kernel_rfl)(hr:(Instr.indexAt t (.slice (some ⟨b,X,none⟩) ln cp) (.int .i64 j)).run P w=.ok v w):AX P l o a w hs Q:=
 dV ho e (Kh Hd hw) HK (by rw[<-Qg Hb Hd];unfold execOp;rw[dv];simp only[hU.trans hp,g7.trans hy,vq,hr,vY];rfl) (RV.of hv)
theorem Aa(n hf:Nat)(L:List Vx)(R:Nat->Value->World->Prop)
 (bi:∀i,i<n->∀o,l[i]?=some o->∀a w,Hid (a.defers=a0.defers/\a.tmps.size=a0.tmps.size/\∀t,(∀i,i<n->Ah l i≠t)->a.tmps[t]?=a0.tmps[t]?)->
  Hid (∀j,xV .any l.toArray i j=true->RV L R j (a.tmps[Ah l j]?.getD undef) w)->Below w0.heap.size w0 w->
  ∀hs:Act->World->Prop,Hid (∀v w',RV L R i v w'->Below w.heap.size w w'->hs (a.put o.dst v) w')->AX P l o a w hs Q)
 (bf:∀(vs:Nat->Value) w,(∀i,i<n->RV L R i (vs i) w)->Below w0.heap.size w0 w->wpList P l.toArray Q (l.drop n) {a0 with tmps:=Ak l (yC n) vs a0.tmps} w)
 (hm:P.follows .mixedOrders=true:=by kernel_rfl)(hB:IW l n=true:=by kernel_rfl)(hN:a0.tmps.size=hf:=by rfl)(hD:V7 l n hf=true:=by kernel_rfl)
 (bN:∀i,i<n->∀v w w',Below w.heap.size w w'->R i v w->R i v w':=by exact λ_ _ _ _ _ _ h=>h):(vO id l.toArray true).wp P Q a0 w0:=
 L0 n hm hB hf hN hD (RV L R) (λi A v w w' Y h=>RV.mono (bN i A v w w' Y) h) bi bf
theorem BR(n hf:Nat)(L:List Vx)(R:Nat->Value->World->Prop)
 (bi:∀i,i<n->∀o,l[i]?=some o->∀a w,Hid (a.defers=a0.defers/\a.tmps.size=a0.tmps.size/\∀t,(∀i,i<n->Ah l i≠t)->a.tmps[t]?=a0.tmps[t]?)->
  Hid (∀j,xV .any l.toArray i j=true->RV L R j (a.tmps[Ah l j]?.getD undef) w)->Below w0.heap.size w0 w->
  ∀hs:Act->World->Prop,Hid (∀v w',RV L R i v w'->Below w.heap.size w w'->hs (a.put o.dst v) w')->AX P l o a w hs Q)
 (bN:∀i,i<n->∀v w w',Below w.heap.size w w'->R i v w->R i v w')
 (bf:∀(vs:Nat->Value) w,(∀i,i<n->RV L R i (vs i) w)->Below w0.heap.size w0 w->wpList P l.toArray Q (l.drop n) {a0 with tmps:=Ak l (yC n) vs a0.tmps} w)
 (hm:P.follows .mixedOrders=true:=by kernel_rfl)(hB:IW l n=true:=by kernel_rfl)(hN:a0.tmps.size=hf:=by rfl)(hD:V7 l n hf=true:=by kernel_rfl):(vO id l.toArray true).wp P Q a0 w0:=
 L0 n hm hB hf hN hD (RV L R) (λi A v w w' Y h=>RV.mono (bN i A v w w' Y) h) bi bf
end
def RF(ai:List Vx)(R:(Nat->Bool)->Nat->Value->World->Prop)(L:Nat->Bool)(i:Nat)(v:Value)(w:World):Prop:=
 match EV ai i with
 |some x=>v=x
 |none=>R L i v w
section
variable {P:Program} {l:List Oper} {n i:Nat} {o o':Oper} {a a0:Act} {w:World} {hs:Act->World->Prop} {Q:Exit->Act->World->Prop} {ai:List Vx} {R:(Nat->Bool)->Nat->Value->World->Prop} {L:Nat->Bool} {v:Value}
theorem RF.of(h:EV ai i=some v):RF ai R L i v w:=by unfold RF;rw[h]
theorem RF.eq{x:Value}(h:RF ai R L i v w)(e:EV ai i=some x):v=x:=by unfold RF at h;rw[e] at h;exact h
theorem RF.mono{L':Nat->Bool}{w':World}(hR:R L i v w->R L' i v w')(h:RF ai R L i v w):RF ai R L' i v w':=by
 unfold RF at h ⊢;cases e:EV ai i with
 |some x=>rw[e] at h;exact h
 |none=>rw[e] at h;exact hR h
def XY(l:List Oper)(n t:Nat):Option Nat:=(yC n).find? λj=>BQ l j==some t
def Wn(l:List Oper)(n i:Nat)(ai:List Vx)(a0 a:Act):Operand->Value
 | .tmp t=>
  match XY l n t with
  |some j=>
   match xV .any l.toArray i j with
   |true=>match EV ai j with
    |some x=>x
    |none=>a.eval (.tmp t)
   |false=>a.eval (.tmp t)
  |none=>a0.tmps[t]?.getD undef
 |x=>a.eval x
def cX(l:List Oper)(n:Nat)(ai:List Vx)(a0:Act):Operand->Value
 | .tmp t=>
  match XY l n t with
  |some j=>(EV ai j).getD undef
  |none=>a0.tmps[t]?.getD undef
 |_=>undef
def PD(l:List Oper)(n i:Nat)(ai:List Vx)(o:Oper):Option Bool:=
 match o.guard with
 |none=>some true
 |some (g,b)=>
  match xV .any l.toArray i g&&decide (g<n) with
  |true=>
   match(l[g]?).bind (·.dst) with
   |some _=>
    match EV ai g with
    |some (.bool c)=>some (c==b)
    |some (.tuple _)=>some false
    |_=>none
   |none=>none
  |false=>none
abbrev Yk(l:List Oper)(n:Nat)(a0 a:Act):Prop:=a.defers=a0.defers/\a.tmps.size=a0.tmps.size/\∀t,(∀i,i<n->BQ l i≠some t)->a.tmps[t]?=a0.tmps[t]?
abbrev Xd(l:List Oper)(n:Nat)(ai:List Vx)(R:(Nat->Bool)->Nat->Value->World->Prop)(L:Nat->Bool)(a:Act)(w:World):Prop:=∀j,L j=true->j<n->RF ai R L j (EJ l a.tmps j) w
abbrev XJ(l:List Oper)(i:Nat)(L:Nat->Bool):Prop:=L i=false/\(∀j,xV .any l.toArray i j=true->L j=true)/\∀j j',L j=true->xV .any l.toArray j j'=true->L j'=true
abbrev bQ(ai:List Vx)(R:(Nat->Bool)->Nat->Value->World->Prop)(L:Nat->Bool)(i:Nat)(o:Oper)(a:Act)(w:World)(hs:Act->World->Prop):Prop:=∀v w',RF ai R (GU L i) i (match o.dst with|some _=>v|none=>undef) w'->Below w.heap.size w w'->hs (a.put o.dst v) w'
theorem Pa(Hb:Hid (Yk l n a0 a))(Hd:Hid (Xd l n ai R L a w))(HL:Hid (XJ l i L)):Wn l n i ai a0 a=a.eval:=by
 funext x
 cases x with
 |tmp t=>
  show(match XY l n t with|some j=>_|none=>_)=_
  cases e:XY l n t with
  |none=>
   simp only;have h:∀j,j<n->BQ l j≠some t:=by intro j D O;have:=sH.1 e j (xS.2 D);simp[O] at this
   exact(Bp (by rw[Hb.out.2.2 t h])).symm
  |some j=>
   simp only;have O:BQ l j=some t:=by have:=r9 e;simpa using this
   have D:j<n:=xS.1 (List.mem_of_find?_eq_some e);cases e3:xV .any l.toArray i j with
   |false=>rfl
   |true=>
    simp only;cases e4:EV ai j with
    |none=>rfl
    |some y=>simp only;have:=(Hd.out j (HL.out.2.1 j e3) D).eq e4;unfold EJ at this;rw[O] at this;exact(Bp this).symm
 |const v=>rfl
 |global g=>rfl
 |func f=>rfl
theorem Nm{c:Bool}(Hd:Hid (Xd l n ai R L a w))(HL:Hid (XJ l i L))(h:PD l n i ai o=some c):wY o (yielded l.toArray a.tmps)=c:=by
 unfold PD at h;unfold wY;cases e:o.guard with
 |none=>rw[e] at h;simp only at h ⊢;exact yF h
 |some gb=>
  obtain⟨g,b⟩:=gb;rw[e] at h;simp only at h ⊢;cases e1:(xV .any l.toArray i g&&decide (g<n)) with
  |false=>rw[e1] at h;cases h
  |true=>
   rw[e1] at h;simp only at h;obtain⟨e5,e6⟩:=Bool.and_eq_true_iff.1 e1;have e6:=of_decide_eq_true e6;cases e2:(l[g]?).bind (·.dst) with
   |none=>rw[e2] at h;cases h
   |some d=>
    rw[e2] at h;simp only at h;have O:(l.toArray[g]?).bind (·.dst)=some d:=by simpa using e2
    cases e3:EV ai g with
    |none=>rw[e3] at h;cases h
    |some x=>
     have h3:=(Hd.out g (HL.out.2.1 g e5) e6).eq e3;unfold EJ at h3;rw[show BQ l g=some d from e2] at h3;simp only at h3;rw[e3] at h;cases x with
     |bool c9=>have hv:=yF h;rw[Np e2 h3,<-hv];cases c9<;>cases b<;>rfl
     |tuple y=>
      have hv:=yF h;rw[<-hv];unfold yielded;rw[O,vJ];cases E:a.tmps[d]? with
      |none=>rfl
      |some y=>rw[E] at h3;simp only[sG] at h3;subst h3;rfl
     |_=>cases h
theorem dH(ho:l[i]?=some o)(e:l[i]?=some o')(hw:wY o' (yielded l.toArray a.tmps)=true)(HK:Hid (bQ ai R L i o a w hs))(hv:EV ai i=some v)(hd:o'.dst.isSome=true)(hr:(execOp a.eval o').run P w=.ok (.value v) w):AX P l o a w hs Q:=by
 obtain rfl:=yF (ho.symm.trans e);refine⟨λ_=>?_,λh=>by rw[hw] at h;cases h⟩;unfold vj;rw[hr,Oper.upon_value];obtain⟨d,O⟩:=vl.1 hd;exact HK.out _ _ (by rw[O];exact RF.of hv) (yD _ _)
theorem Rb(ho:l[i]?=some o)(HK:Hid (bQ ai R L i o a w hs))(Hb:Hid (Yk l n a0 a))(Hd:Hid (Xd l n ai R L a w))(HL:Hid (XJ l i L))
 (e:l[i]?=some o':=by rfl)(hd:o'.dst.isSome=true:=by rfl)(hv:EV ai i=some v:=by rfl)(hw:PD l n i ai o'=some true:=by kernel_rfl)(hr:(execOp (Wn l n i ai a0 a) o').run P w=.ok (.value v) w:=by kernel_rfl):AX P l o a w hs Q:=
 dH ho e (Nm Hd HL hw) HK hv hd (by rw[<-Pa Hb Hd HL];exact hr)
theorem JM{x:Operand}{p:Value}(ho:l[i]?=some o)(HK:Hid (bQ ai R L i o a w hs))(Hb:Hid (Yk l n a0 a))(Hd:Hid (Xd l n ai R L a w))(HL:Hid (XJ l i L))
 (e:l[i]?=some o':=by rfl)(hd:o'.dst.isSome=true:=by rfl)(dv:o'.op=.load t x:=by rfl)(hp:cX l n ai a0 x=p:=by rfl)(hq:Wn l n i ai a0 a x=cX l n ai a0 x:=by kernel_rfl)(hv:EV ai i=some v:=by rfl)(hw:PD l n i ai o'=some true:=by kernel_rfl)(hl:(xz t p).run P w=.ok v w):AX P l o a w hs Q:=
 dH ho e (Nm Hd HL hw) HK hv hd (by rw[<-Pa Hb Hd HL];unfold execOp;rw[dv];simp only[hq.trans hp,vq,hl,vY];rfl)
theorem co{F:FuncId}{vs:Array Value}{Qc:Ending->World->Prop}(ho:l[i]?=some o)(HK:Hid (bQ ai R L i o a w hs))(Hb:Hid (Yk l n a0 a))(Hd:Hid (Xd l n ai R L a w))(HL:Hid (XJ l i L))
 (H:Calls P F vs w Qc)(hq:∀e w',Qc e w'->∃v,e=.returned v/\RF ai R (GU L i) i v w'/\Below w.heap.size w w')
 (e:l[i]?=some o':=by rfl)(hd:o'.dst.isSome=true:=by rfl)(hw:PD l n i ai o'=some true:=by kernel_rfl)(hr:(execOp (Wn l n i ai a0 a) o').run P w=.ok (.enter F vs) w:=by kernel_rfl):AX P l o a w hs Q:=by
 obtain rfl:=yF (ho.symm.trans e);refine⟨λ_=>?_,λh=>absurd ((Nm Hd HL hw).symm.trans h) (by decide)⟩;unfold vj;rw[<-Pa Hb Hd HL,hr,tG];refine H.mono ?_;intro x w' h;obtain⟨v,rfl,J,O⟩:=hq x w' h;obtain⟨d,h3⟩:=vl.1 hd;exact HK.out v w' (by rw[h3];exact J) O
theorem ct{F:FuncId}{vs:Array Value}(ho:l[i]?=some o)(HK:Hid (bQ ai R L i o a w hs))(Hb:Hid (Yk l n a0 a))(Hd:Hid (Xd l n ai R L a w))(HL:Hid (XJ l i L))
 (H:Calls P F vs w λe w'=>e=.returned v/\Below w.heap.size w w')(e:l[i]?=some o':=by rfl)(hd:o'.dst.isSome=true:=by rfl)(hv:EV ai i=some v:=by rfl)(hw:PD l n i ai o'=some true:=by kernel_rfl)(hr:(execOp (Wn l n i ai a0 a) o').run P w=.ok (.enter F vs) w:=by kernel_rfl):AX P l o a w hs Q:=
 co ho HK Hb Hd HL H (λ_ _ h=>⟨v,h.1,RF.of hv,h.2⟩) e hd hw hr
theorem A9(hc:Hid (XJ l i L))(k:Nat)(h:xV .any l.toArray k i=true:=by kernel_rfl):L k=false:=by
 cases E:L k with
 |false=>rfl
 |true=>exact absurd (hc.out.2.2 k i E h) (by rw[hc.out.1];decide)
theorem Co(n hf:Nat)(S:Nat->Bool)(ai:List Vx)(R:(Nat->Bool)->Nat->Value->World->Prop)(G:(Nat->Bool)->World->Prop)
 (hG:G (λ_=>false) {w0 with drawn:=w0.drawn+1})
 (bN:∀j,j<n->∀L i v w w',i<n->S i=false->L i=false->L j=true->Below w.heap.size w w'->R L j v w->R (GU L i) j v w')
 (dz:∀L i w w',i<n->S i=false->L i=false->Below w.heap.size w w'->G L w->G (GU L i) w')
 (bi:∀i,i<n->S i=false->∀o,l[i]?=some o->∀a w,Hid (Yk l n a0 a)->∀L:Nat->Bool,Hid (Xd l n ai R L a w)->Hid (XJ l i L)->G L w->∀hs:Act->World->Prop,Hid (bQ ai R L i o a w hs)->AX P l o a w hs Q)
 (ds:∀i,i<n->S i=true->∀o,l[i]?=some o->∀a w,Hid (Yk l n a0 a)->∀L:Nat->Bool,Hid (Xd l n ai R L a w)->Hid (XJ l i L)->G L w->
  ∀hs:Act->World->Prop,Hid (∀v w',RF ai R (GU L i) i (match o.dst with|some _=>v|none=>undef) w'->G (GU L i) w'->(∀j,j≠i->j<n->L j=true->RF ai R L j (EJ l a.tmps j) w->RF ai R (GU L i) j (EJ l a.tmps j) w')->hs (a.put o.dst v) w')->AX P l o a w hs Q)
 (bf:∀(vs:Nat->Value) w,∀L:Nat->Bool,(∀i,i<n->L i=true)->(∀i,i<n->RF ai R L i (vs i) w)->G L w->wpList P l.toArray Q [] {a0 with tmps:=Cn l (yC n) vs a0.tmps} w)
 (hm:P.follows .mixedOrders=true:=by kernel_rfl)(hN:a0.tmps.size=hf:=by rfl)(hB:XL l hf=true:=by kernel_rfl)(hn:l.length=n:=by rfl):(vO id l.toArray true).wp P Q a0 w0:=
 Q3 n hm hf hN hB hn S (RF ai R) G hG (λj D L i v w w' J O h3 h4 Y h=>RF.mono (bN j D L i v w w' J O h3 h4 Y) h) dz bi ds bf
end
section
variable {α:Type}
theorem A2{l:List α}{i:Nat}{d:α}(h:i<l.length):l[i]?=some (l.getD i d):=by simp[h]
theorem DT{l:List α}{i:Nat}{d:α}(h:i<l.length):l.getD i d∈l:=yh (A2 h)
theorem Iv{l:List α}{x d:α}(h:x∈l):∃i,i<l.length/\l.getD i d=x:=by obtain⟨i,A,rfl⟩:=wS h;exact⟨i,A,by simp[A]⟩
theorem Jq{l:List α}{i j:Nat}{x d:α}:(l.set i x).getD j d=if j=i/\i<l.length then x else l.getD j d:=by
 simp only[xO,vV]
 by_cases h:i=j
 .subst h
  by_cases O:i<l.length
  .simp[O]
  .simp[O]
 .have h':¬j=i:=λe=>h e.symm
  simp[h,h']
theorem DF{l:List α}{i:Nat}{f:α->α}:(At l i f).length=l.length:=by
 unfold At
 split<;>simp
theorem Mp{l:List α}{i j:Nat}{f:α->α}{d:α}:(At l i f).getD j d=if j=i/\i<l.length then f (l.getD i d) else l.getD j d:=by
 unfold At
 split
 .rename_i x E
  have A:=(yt.1 E).1;rw[Jq];have:l.getD i d=x:=by simp[E]
  rw[this]
 .rename_i E
  have A:¬i<l.length:=by simpa using E
  simp[A]
theorem Jc{l:List α}{i:Nat}{f:α->α}{d:α}:At l i f=l.set i (f (l.getD i d)):=by
 unfold At
 split
 .rename_i x E
  simp[E]
 .rename_i E
  have A:l.length<=i:=by simpa using E
  rw[List.set_eq_of_length_le A]
theorem MI{n:Nat}{p:Nat->Bool}:(yC n).all p=true↔∀i,i<n->p i=true:=by simp[xZ]
theorem L7{l:List α}{p:α->Bool}:l.any p=true↔∃x∈l,p x=true:=by simp
end
theorem Ke{G:Nat->Nat}{n:Nat}(h:∀t,t<n->F t=G t):((yC n).map F).sum=((yC n).map G).sum:=by
 induction n with
 |zero=>rfl
 |succ n ih=>rw[xt,xC,xC,wI,wI,ih (λt ht=>h t (by omega))];simp[h n (by omega)]
theorem ML{G:Nat->Nat}{n:Nat}(N:f<n)(h:∀t,t<n->t≠f->F t=G t):((yC n).map F).sum+G f=((yC n).map G).sum+F f:=by
 induction n with
 |zero=>omega
 |succ n ih=>
  rw[xt,xC,xC,wI,wI];simp only[vE,uX,uv,uk,xK]
  by_cases hn:f=n
  .subst hn
   rw[Ke (λt ht=>h t (by omega) (by omega))];omega
  .have:=ih (by omega) (λt ht a8=>h t (by omega) a8)
   have:=h n (by omega) (by omega);omega
theorem Lv{n:Nat}:((yC n).map F).sum=0↔∀t,t<n->F t=0:=by
 induction n with
 |zero=>simp
 |succ n ih=>
  rw[xt,xC,wI];simp only[vE,uX,uv,uk,xK];constructor
  .intro h t ht
   by_cases e:t=n
   .subst e;omega
   .exact ih.1 (by omega) t (by omega)
  .intro h
   rw[ih.2 (λt ht=>h t (by omega)),h n (by omega)]
theorem cE{n c:Nat}(h:∀t,t<n->F t<=c):((yC n).map F).sum<=c*n:=by
 induction n with
 |zero=>simp
 |succ n ih=>rw[xt,xC,wI,Nat.mul_succ];simp only[vE,uX,uv,uk,xK];have:=ih (λt ht=>h t (by omega));have:=h n (by omega);omega
theorem XA{n c g:Nat}(Z:g<n)(h:∀t,t<n->F t<=c)(h0:F g=0):((yC n).map F).sum+c<=c*n:=by
 have J:=ML (F:=F) (G:=λt=>if t=g then c else F t) Z (λt ht a8=>by simp[a8]);have O:=cE (F:=λt=>if t=g then c else F t) (n:=n) (c:=c) (λt ht=>by
  by_cases e:t=g
  .simp[e]
  .simp only[e,if_false];exact h t ht)
 simp only[if_true,h0] at J;omega
theorem Ec{w:Int}(h:Bm w=true):BC w<12:=by simp only[Bm,yu,decide_eq_true_eq] at h;unfold BC;omega
theorem FY{r:List Int}{g:Nat}:g∈named r↔∃w∈r,Bm w=true/\BC w=g:=by simp[named,and_assoc]
theorem FW{g:Nat}(h:g∈named r):g<12:=by obtain⟨w,_,hw,rfl⟩:=FY.1 h;exact Ec hw
def Dm(g:Nat)(w:Int):Bool:=Bm w&&decide (BC w=g)
theorem J8{g:Nat}:(named r).count g=r.countP (Dm g):=by
 unfold named
 induction r with
 |nil=>rfl
 |cons w r ih=>
  rw[vN];cases hw:Bm w
  .rw[if_neg (by simp),ih,wZ]
   simp[Dm,hw]
  .rw[if_pos rfl,vE,rZ,ih,wZ]
   by_cases h:BC w=g<;>simp[Dm,hw,h]
theorem FV:(named r).length<=r.length:=by unfold named;rw[uJ];exact xy _ _
def EN(b:Bool):Nat:=if b then 1 else 0
theorem Up{p:Int->Bool}{b:Nat}{w:Int}(Y:b<r.length):(r.set b w).countP p+EN (p (r.getD b 0))=r.countP p+EN (p w):=by
 induction r generalizing b with
 |nil=>simp at Y
 |cons x r ih=>
  cases b with
  |zero=>simp only[sF,wZ,sR,EN];omega
  |succ b=>simp only[sA,wZ,sQ];have:=ih (b:=b) (by simpa using Y);omega
theorem YJ{b g:Nat}{w:Int}(Y:b<r.length):(named (r.set b w)).count g+EN (Dm g (r.getD b 0))=(named r).count g+EN (Dm g w):=by rw[J8,J8];exact Up Y
theorem Rl{b g:Nat}{w:Int}(h:g∈named (r.set b w)):g∈named r∨(Bm w=true/\BC w=g):=by
 obtain⟨x,E,J,O⟩:=FY.1 h
 rcases vk E with E|rfl
 .exact .inl (FY.2 ⟨x,E,J,O⟩)
 .exact .inr ⟨J,O⟩
theorem De{root:Int}:f∈Be m root↔0<=root/\(f=root.toNat∨f∈named (AG m root.toNat)∨∃t,t∈named (AG m root.toNat)/\f∈named (AG m t)):=by
 unfold Be
 split
 .simp;omega
 .simp;omega
theorem Ow{m':List (List Int)}{root:Int}(h0:0<=root->AG m' root.toNat=AG m root.toNat)(J:0<=root->∀t,t∈named (AG m root.toNat)->AG m' t=AG m t)(f:Nat):f∈Be m' root↔f∈Be m root:=by
 rw[De,De]
 by_cases hr:0<=root
 .rw[h0 hr]
  simp only[hr,true_and];refine or_congr Iff.rfl (or_congr Iff.rfl (exists_congr λt=>?_));constructor
  .rintro⟨a,b⟩;exact⟨a,by rw[<-J hr t a];exact b⟩
  .rintro⟨a,b⟩;exact⟨a,by rw[J hr t a];exact b⟩
 .simp[hr]
theorem GG{zZ:List AV}{fs:List Nat}{zT:List ByteArray}:BM zZ fs zT=true↔∀f,f∈fs->By zT (zS zZ f).g=true:=by simp[BM,xZ]
theorem Q0{m':List (List Int)}{root a:Nat}(h0:AG m' root=AG m root)(J:∀t,t∈named (AG m root)->AG m' t=AG m t):Bq m' root a=Bq m root a:=by
 have e0:As m' root (a/16)=As m root (a/16):=by unfold As;rw[h0]
 unfold Bq;rw[e0]
 split
 .rename_i Z
  have hm:BC (As m root (a/16))∈named (AG m root):=by
   refine FY.2 ⟨_,?_,Z,rfl⟩;unfold As at Z ⊢
   by_cases hl:a/16<(AG m root).length
   .exact DT hl
   .have:(AG m root).getD (a/16) 0=0:=by simp at hl;simp[hl]
    rw[this] at Z;simp[Bm] at Z
  have e1:As m' (BC (As m root (a/16))) (a/4%4)=As m (BC (As m root (a/16))) (a/4%4):=by unfold As;unfold As at hm;rw[J _ hm]
  rw[e1]
 .rfl
theorem Jx{i:Nat}(Z:Bm (As m f i)=true):BC (As m f i)∈named (AG m f):=by
 refine FY.2 ⟨_,?_,Z,rfl⟩;unfold As at Z ⊢
 by_cases hl:i<(AG m f).length
 .exact DT hl
 .have:(AG m f).getD i 0=0:=by simp at hl;simp[hl]
  rw[this] at Z;simp[Bm] at Z
theorem A4{r:List Int}:Ds r=true↔r.length=4/\∀w∈r,0<=w/\w<=9999:=by simp only[Ds,yu,xZ,decide_eq_true_eq,Dk,AZ];exact And.comm
theorem Ai:Bu m=true↔m.length=12/\∀f,f<12->Ds (AG m f)=true:=by
 simp only[Bu,yu,xZ,decide_eq_true_eq];constructor
 .rintro⟨J,O⟩
  exact⟨O,λf N=>J _ (DT (by omega))⟩
 .rintro⟨J,O⟩
  refine⟨λr hr=>?_,J⟩;obtain⟨i,A,rfl⟩:=Iv (d:=[]) hr;exact O i (by omega)
theorem Sl(h:Bu m=true)(hr:Ds r=true):Bu (m.set f r)=true:=by
 rw[Ai] at h ⊢;refine⟨by rw[xP];exact h.1,λg Z=>?_⟩;unfold AG;rw[Jq]
 split
 .exact hr
 .exact h.2 g Z
theorem OV{g:Nat}:AG (m.set f r) g=if g=f/\f<m.length then r else AG m g:=by unfold AG;exact Jq
theorem Hj{i g:Nat}{w:Int}:AG (Bz m f i w) g=if g=f/\f<m.length then(AG m f).set i w else AG m g:=by unfold Bz AG;exact Mp
theorem Nd{i:Nat}{w:Int}:Bz m f i w=m.set f ((AG m f).set i w):=Jc
theorem Sz{i:Nat}{w:Int}(h:Ds r=true)(hw:Dk w=true):Ds (r.set i w)=true:=by
 rw[A4] at h ⊢;refine⟨by rw[xP];exact h.1,λx E=>?_⟩
 rcases vk E with E|rfl
 .exact h.2 x E
 .exact AZ.1 hw
theorem XO:∀(x y:List UInt8),wy x y=decide (x<y)
 | [],[]=>by simp[wy]
 |_::_,[]=>by simp[wy]
 | [],_::_=>by simp[wy]
 |a::x,b::y=>by
  rw[wy,XO x y]
  by_cases J:a<b
  .simp[J,uM]
  .by_cases O:a=b
   .subst O;simp[uM]
   .simp[J,O,uM]
def Rk(a b:ByteArray):Bool:=wy a.toList b.toList
theorem ME{a b:ByteArray}:Rk a b=true↔a.toList<b.toList:=by simp[Rk,XO]
theorem P8{a b:ByteArray}:Ud a b=!Rk a b:=rfl
theorem Sj{a b c:ByteArray}(J:Rk a b=true)(O:Rk b c=true):Rk a c=true:=ME.2 (List.lt_trans (ME.1 J) (ME.1 O))
theorem toList_inj{a b:ByteArray}(h:a.toList=b.toList):a=b:=by have ha:a.toList=a.data.toList:=xj a;have Y:b.toList=b.data.toList:=xj b;rw[ha,Y] at h;cases a;cases b;simp at h;rw[h]
theorem Wa{a b:ByteArray}(h:Rk a b=false)(a8:a≠b):Rk b a=true:=by
 rw[ME];have J:¬a.toList<b.toList:=by rw[<-ME];simp[h]
 have O:a.toList≠b.toList:=λe=>a8 (toList_inj e)
 have h3:b.toList<=a.toList:=List.not_lt.1 J
 rcases List.le_iff_lt_or_eq.1 h3 with h|h
 .exact h
 .exact absurd h.symm O
theorem Gb{ss:List ByteArray}:BW ss=true↔(∀s∈ss,BV s=true)/\ss.Pairwise (λa b=>Rk a b=true)/\ss.length<=6:=by
 unfold BW;simp only[yu,decide_eq_true_eq,MI,Cv,xE,P8,Bool.not_not];constructor
 .rintro⟨h,hl⟩
  refine⟨λs K=>?_,?_,hl⟩
  .obtain⟨i,A,rfl⟩:=Iv (d:=⟨#[]⟩) K
   exact(h i A).1
  .rw[vU]
   have dO:∀d i,i+1+d<ss.length->Rk (Di ss i) (Di ss (i+1+d))=true:=by
    intro d
    induction d with
    |zero=>
     intro i A
     rcases(h (i+1) (by omega)).2 with h'|h'
     .omega
     .simpa using h'
    |succ d ih=>
     intro i A;have J:=ih i (by omega)
     rcases(h (i+1+(d+1)) (by omega)).2 with h'|h'
     .omega
     .refine Sj J ?_
      have e:i+1+(d+1) - 1=i+1+d:=by omega
      rw[e] at h';exact h'
   intro i j A D dZ;have:=dO (j - i - 1) i (by omega);have e:i+1+(j - i - 1)=j:=by omega
   rw[e] at this;simpa[Di,A,D] using this
 .rintro⟨J,O,h3⟩
  refine⟨λi A=>⟨J _ (DT A),?_⟩,h3⟩
  by_cases h0:i=0
  .exact .inl h0
  .right
   rw[vU] at O;have:=O (i - 1) i (by omega) A (by omega);simpa[Di,A,show i - 1<ss.length by omega] using this
theorem M5{x:ByteArray}:x∈TY ss s↔x=s∨x∈ss:=by
 unfold TY;have e:=uf (p:=λx=>!Ud x s) (l:=ss);constructor
 .intro h
  rcases wC.1 h with h|h
  .right;rw[<-e];exact sY _ h
  .rcases xD.1 h with h|h
   .exact .inl h
   .right;rw[<-e];exact uL _ h
 .rintro(rfl|h)
  .simp
  .rw[<-e] at h
   rcases wC.1 h with h|h
   .exact sY _ h
   .exact uL _ (vD _ h)
theorem QM{p:ByteArray->Bool}{l:List ByteArray}{x:ByteArray}(h:x∈l.takeWhile p):p x=true:=by
 induction l with
 |nil=>simp at h
 |cons y l ih=>
  rw[List.takeWhile_cons] at h
  split at h
  .rename_i hy
   rcases xD.1 h with rfl|h
   .exact hy
   .exact ih h
  .simp at h
theorem aD(h:BW ss=true)(K:BV s=true)(hn:s∉ss)(hl:ss.length≠6):BW (TY ss s)=true:=by
 rw[Gb] at h ⊢;obtain⟨J,O,h3⟩:=h;have e:=uf (p:=λx=>!Ud x s) (l:=ss);refine⟨λx E=>?_,?_,?_⟩
 .rcases M5.1 E with rfl|E
  .exact K
  .exact J x E
 .unfold TY
  rw[<-e] at O;rw[sX] at O ⊢;obtain⟨p1,p2,p3⟩:=O;have di:∀y∈ss.dropWhile (λx=>!Ud x s),Rk s y=true:=by
   generalize hd:ss.dropWhile (λx=>!Ud x s)=l at p2;cases l with
   |nil=>simp
   |cons y l=>
    have g9:(!Ud y s)=false:=by
     have:=List.head?_dropWhile_not (λx=>!Ud x s) ss;rw[hd] at this;simpa using this
    have g8:y∈ss:=by rw[<-e,hd];exact uL _ (we ..)
    have hy:Rk s y=true:=Wa (by simpa[P8] using g9) (λe=>hn (e▸g8));intro hk hz
    rcases xD.1 hz with rfl|hz
    .exact hy
    .exact Sj hy ((sy.1 p2).1 hk hz)
  refine⟨p1,sy.2 ⟨di,p2⟩,λa ha b Y=>?_⟩;have iq:Rk a s=true:=by simpa[P8] using QM ha
  rcases xD.1 Y with rfl|Y
  .exact iq
  .exact p3 a ha b Y
 .have:(TY ss s).length=ss.length+1:=by
   unfold TY;rw[yj,vT];have:=congrArg List.length e;rw[yj] at this;omega
  omega
theorem Xr{p:ByteArray->Bool}(h:BW ss=true):BW (ss.filter p)=true:=by
 rw[Gb] at h ⊢;exact⟨λs K=>h.1 s (wQ.1 K).1,h.2.1.filter _,yB (xy _ _) h.2.2⟩
theorem IE{zT:List ByteArray}{g:ByteArray}:By zT g=true↔∃s∈zT,LZ s g=true:=by simp[By]
theorem YH{r r':List ByteArray}{g:ByteArray}(h:∀s∈r,s∈r')(hm:By r g=true):By r' g=true:=by obtain⟨s,K,H⟩:=IE.1 hm;exact IE.2 ⟨s,h s K,H⟩
theorem ZU(g:ByteArray):By [⟨#[]⟩] g=true:=by refine IE.2 ⟨_,we ..,?_⟩;simp[LZ]
theorem Yv(h:BW ss=true)(K:BV s=true):BW (Cs ss s).1=true:=by
 unfold Cs
 split
 .exact h
 .rename_i hn
  split
  .exact h
  .rename_i hl
   exact aD h K (λhm=>hn (L7.2 ⟨s,hm,by simp⟩)) hl
theorem Yu{x:ByteArray}(E:x∈ss):x∈(Cs ss s).1:=by
 unfold Cs
 split
 .exact E
 .split
  .exact E
  .exact M5.2 (.inr E)
theorem Eg{c:List Ad}:BT c=true↔(∀x∈c,Bl x=true)/\c.Pairwise (λx y=>BB y.e y.p x=false)/\c.length<=4:=by
 unfold BT;simp only[yu,decide_eq_true_eq,MI,Cy,uj,ul];constructor
 .rintro⟨h,hl⟩
  refine⟨λx E=>?_,?_,hl⟩
  .obtain⟨i,A,rfl⟩:=Iv (d:=⟨0,0,0,false⟩) E
   exact(h i A).1
  .rw[vU]
   intro i j A D dZ;have O:=(h j D).2 c[i] (tF.2 ⟨i,by omega,rfl⟩);have e:AT c j=c[j]:=by simp[AT,D]
   rw[e] at O;simpa using O
 .rintro⟨J,O,h3⟩
  refine⟨λi A=>⟨J _ (DT A),λx E=>?_⟩,h3⟩;obtain⟨j,D,rfl⟩:=tF.1 E;rw[vU] at O;have:=O j i (by omega) A (by omega);have e:AT c i=c[i]:=by simp[AT,A]
  rw[e];simp[this]
theorem Us{c:List Ad}{e:Int}(h:BT c=true):BT (GJ c e)=true:=by
 rw[Eg] at h ⊢;unfold GJ;exact⟨λs K=>h.1 s (wQ.1 K).1,h.2.1.filter _,yB (xy _ _) h.2.2⟩
theorem SS{c:List Ad}{e:Int}{x:Ad}:x∈GJ c e↔x∈c/\x.e≠e:=by simp[GJ]
theorem Ut{c:List Ad}{es:List Nat}(h:BT c=true):BT (es.foldl (λc e=>GJ c (e:Nat)) c)=true:=by
 induction es generalizing c with
 |nil=>exact h
 |cons e es ih=>exact ih (Us h)
theorem Xq{c:List Ad}{es:List Nat}{x:Ad}:x∈es.foldl (λc e=>GJ c (e:Nat)) c↔x∈c/\∀e∈es,x.e≠(e:Int):=by
 induction es generalizing c with
 |nil=>simp
 |cons e es ih=>rw[yz,ih,SS];simp[and_assoc]
theorem VT{c:List Ad}{x y:Ad}(h:y∈Ga c x):y=x∨y∈c:=by
 unfold Ga at h
 rcases wC.1 h with h|h
 .right
  split at h
  .exact(wQ.1 (uI h)).1
  .exact(wQ.1 h).1
 .left;simpa using h
theorem XU{c:List Ad}{x:Ad}(h:BT c=true)(E:Bl x=true):BT (Ga c x)=true:=by
 have hm:=λy=>VT (c:=c) (x:=x) (y:=y)
 rw[Eg] at h ⊢;obtain⟨J,O,h3⟩:=h;refine⟨λy hy=>?_,?_,?_⟩
 .rcases hm y hy with rfl|hy
  .exact E
  .exact J y hy
 .unfold Ga
  rw[sX];refine⟨?_,by simp,λa ha b Y=>?_⟩
  .split
   .exact(O.filter _).drop
   .exact O.filter _
  .obtain rfl:b=x:=by simpa using Y
   have f7:a∈c.filter λy=>!BB b.e b.p y:=by
    split at ha
    .exact uI ha
    .exact ha
   simpa using(wQ.1 f7).2
 .unfold Ga
  have hl:=xy (λy=>!BB x.e x.p y) c
  split
  .rw[yj,wT];simp;omega
  .rw[yj];simp;omega
theorem V9{c:List Ad}{e p:Int}(h:¬GC c e p<0):∃i,i<c.length/\GC c e p=(i:Int)/\BB e p (AT c i)=true:=by
 unfold GC at h ⊢
 split
 .rename_i ha
  obtain⟨x,E,K⟩:=L7.1 ha;have hl:c.findIdx (BB e p)<c.length:=vM.2 ⟨x,E,K⟩;refine⟨_,hl,rfl,?_⟩;have:=vC (w:=hl);simpa[AT,hl] using this
 .rename_i ha
  rw[if_neg ha] at h;omega
def Ab(k:AO)(e:Nat):Int:=(AJ k.zX e).root
def A7(k:AO)(e:Nat):List ByteArray:=(AJ k.zX e).zT
def Ay(k:AO)(f:Nat):Int:=(zS k.zZ f).k
def TR(x:AV):Prop:=(x.k=0/\x.g=⟨#[]⟩)∨(1<=x.k/\x.k<=3/\BV x.g=true)
def L8(m:List (List Int))(zZ:List AV)(g t:Nat):Nat:=if Bh (zS zZ t).k then(named (AG m t)).count g else 0
theorem Ei{zZ:List AV}{g:Nat}:countP m zZ g=((yC 12).map (L8 m zZ g)).sum:=rfl
theorem II{k:Int}:Bh k=true↔k=2∨k=3:=by simp[Bh]
structure DQ(k:AO):Prop where
 mem:Bu k.mem=true
 len:k.zZ.length=12
 inf:∀f,f<12->TR (zS k.zZ f)
 zW:BT k.zW=true
 zN:k.zX.length=3
 zT:∀e,e<3->BW (A7 k e)=true
 roots:∀e,e<3->Ab k e= -1∨(0<=Ab k e/\Ab k e<=11/\Ay k (Ab k e).toNat=3)
 allow:∀e,e<3->∀f,f∈Be k.mem (Ab k e)->By (A7 k e) (zS k.zZ f).g=true
 tabs:∀f,f<12->Bh (Ay k f)=true->∀w∈AG k.mem f,(Bm w=true/\BC w≠f/\Ay k (BC w)=Ay k f - 1)∨w=0
 refs:∀f,f<12->(zS k.zZ f).r=(countP k.mem k.zZ f:Int)+(Ee k.zX f:Int)
 trans:∀x∈k.zW,Ct k x=true
theorem Hh{zX:List Eh}(h:zX.length=3)(g:Nat):Ee zX g=EN (decide ((AJ zX 0).root=(g:Int)))+EN (decide ((AJ zX 1).root=(g:Int)))+EN (decide ((AJ zX 2).root=(g:Int))):=by
 match zX,h with
 | [a,b,c],_=>simp only[Ee,wZ,List.countP_nil,AJ,EN];simp;omega
section
variable {k:AO} (h:DQ k)
include h
theorem DQ.row(N:f<12):(AG k.mem f).length=4:=(A4.1 ((Ai.1 h.mem).2 f N)).1
theorem DQ.word{i:Nat}(N:f<12)(A:i<4):0<=As k.mem f i/\As k.mem f i<=9999:=(A4.1 ((Ai.1 h.mem).2 f N)).2 _ (DT (by rw[h.row N];exact A))
theorem DQ.named{g:Nat}(N:f<12)(ht:Bh (Ay k f)=true)(Z:g∈named (AG k.mem f)):g<12/\g≠f/\Ay k g=Ay k f - 1:=by
 obtain⟨w,hw,J,rfl⟩:=FY.1 Z
 rcases h.tabs f N ht w hw with⟨_,a,b⟩|rfl
 .exact⟨Ec J,a,b⟩
 .simp[Bm] at J
theorem DQ.zy{e:Nat}(he:e<3)(hr:0<=Ab k e):(Ab k e).toNat<12/\Ay k (Ab k e).toNat=3:=by
 rcases h.roots e he with a|⟨a,b,c⟩
 .omega
 .exact⟨by omega,c⟩
theorem DQ.zK{e:Nat}(he:e<3)(hr:0<=Ab k e)(ht:t∈Go.Proofs.YtpdjjjdkhedibaaGreatDoor.named (AG k.mem (Ab k e).toNat)):t<12/\Ay k t=2:=by obtain⟨a,b⟩:=h.zy he hr;have:=h.named a (by rw[b];rfl) ht;exact⟨this.1,by omega⟩
theorem DQ.zi{e:Nat}(he:e<3)(hr:0<=Ab k e)(ht:t∈Go.Proofs.YtpdjjjdkhedibaaGreatDoor.named (AG k.mem (Ab k e).toNat))(N:f∈Go.Proofs.YtpdjjjdkhedibaaGreatDoor.named (AG k.mem t)):f<12/\Ay k f=1:=by obtain⟨a,b⟩:=h.zK he hr ht;have:=h.named a (by rw[b];rfl) N;exact⟨this.1,by omega⟩
theorem DQ.zw{e:Nat}(he:e<3)(N:f∈Be k.mem (Ab k e)):f<12/\1<=Ay k f:=by
 obtain⟨hr,J⟩:=De.1 N
 rcases J with rfl|J|⟨t,ht,J⟩
 .have:=h.zy he hr;exact⟨this.1,by omega⟩
 .have:=h.zK he hr J;exact⟨this.1,by omega⟩
 .have:=h.zi he hr ht J;exact⟨this.1,by omega⟩
theorem DQ.cnt_zero{g:Nat}(Z:g<12):L8 k.mem k.zZ g g=0:=by
 unfold L8
 split
 .rename_i ht
  rw[ur];intro hm;exact(h.named Z ht hm).2.1 rfl
 .rfl
theorem DQ.yO{g:Nat}(ht:t<12):L8 k.mem k.zZ g t<=4:=by
 unfold L8
 split
 .have J:(Go.Proofs.YtpdjjjdkhedibaaGreatDoor.named (AG k.mem t)).count g<=_:=List.count_le_length
  have O:=FV (r:=AG k.mem t);rw[h.row ht] at O;omega
 .omega
theorem DQ.count_le{g:Nat}(Z:g<12):countP k.mem k.zZ g<=44:=by
 have:((yC 12).map (L8 k.mem k.zZ g)).sum+4<=4*12:=XA Z (λt ht=>h.yO (g:=g) ht) (h.cnt_zero Z);rw[Ei];omega
theorem DQ.yP(N:f<12):0<=(zS k.zZ f).r/\(zS k.zZ f).r<=47:=by
 have J:=h.count_le N;have O:Ee k.zX f<=3:=by
  have:=vW (p:=λe:Eh=>decide (e.root=(f:Int))) (l:=k.zX);rw[h.zN] at this;exact this
 rw[h.refs f N];omega
theorem DQ.unused(N:f<12)(h0:(zS k.zZ f).r=0):(∀t,t<12->Bh (Ay k t)=true->f∉Go.Proofs.YtpdjjjdkhedibaaGreatDoor.named (AG k.mem t))/\∀e,e<3->Ab k e≠(f:Int):=by
 have J:=h.refs f N;have O:countP k.mem k.zZ f=0:=by omega
 have h3:Ee k.zX f=0:=by omega
 rw[Ei,Lv] at O;constructor
 .intro t ht dn hm
  have:=O t ht;unfold L8 Ay at*;rw[if_pos dn,ur] at this;exact this hm
 .intro e he
  rw[Hh h.zN] at h3;unfold EN at h3;have:e=0∨e=1∨e=2:=by omega
  intro hr;unfold Ab at hr
  rcases this with rfl|rfl|rfl<;>simp[hr] at h3
theorem DQ.zr(N:f<12)(h0:Ay k f=0):(zS k.zZ f).r=0:=by
 rw[h.refs f N];have O:countP k.mem k.zZ f=0:=by
  rw[Ei,Lv];intro t ht;unfold L8
  split
  .rename_i dn
   rw[ur];intro hm;have:=(h.named ht dn hm).2.2;have:Ay k t=2∨Ay k t=3:=II.1 dn;omega
  .rfl
 have h3:Ee k.zX f=0:=by
  rw[Hh h.zN];have dO:∀e,e<3->EN (decide ((AJ k.zX e).root=(f:Int)))=0:=by
   intro e he;unfold EN
   by_cases hr:(AJ k.zX e).root=(f:Int)
   .exfalso
    have:Ab k e=(f:Int):=hr;have:=h.zy he (by omega);rw[‹Ab k e=(f:Int)›] at this;simp at this;omega
   .simp[hr]
  rw[dO 0 (by omega),dO 1 (by omega),dO 2 (by omega)]
 omega
theorem DQ.yQ{e a:Nat}(he:e<3)(hr:0<=Ab k e)(hw:(Bq k.mem (Ab k e).toNat a).1=0):(Bq k.mem (Ab k e).toNat a).2.1<12/\Ay k (Bq k.mem (Ab k e).toNat a).2.1=1/\(Bq k.mem (Ab k e).toNat a).2.1∈Be k.mem (Ab k e):=by
 unfold Bq at hw ⊢
 split at hw
 .rename_i J
  split at hw
  .rename_i O
   rw[if_pos J,if_pos O];have m1:=Jx J;have m2:=Jx O;have:=h.zi he hr m1 m2;exact⟨this.1,this.2,De.2 ⟨hr,.inr (.inr ⟨_,m1,m2⟩)⟩⟩
  .simp at hw
 .simp at hw
end
theorem X3{x:AV}(h:TR x)(h0:0<=x.r)(J:x.r<=50)(hz:x.k=0->x.r=0):DU x=true:=by
 rcases h with⟨a,b⟩|⟨a,b,c⟩
 .have:x=AV.zero:=by
   obtain⟨k,g,r⟩:=x;simp at a b hz;subst a b;simp[AV.zero,hz rfl]
  simp[DU,this]
 .simp[DU,BZ,a,b,c,h0,J]
theorem X2{x:AV}(h:DU x=true):TR x:=by
 unfold DU at h;simp only[xE,decide_eq_true_eq,yu,AZ] at h
 rcases h with rfl|⟨⟨⟨a,b⟩,c⟩,_⟩
 .exact .inl ⟨rfl,rfl⟩
 .exact .inr ⟨a,b,c⟩
theorem A1{l:List AV}:BP l=true↔l.length=12/\∀f,f<12->DU (zS l f)=true:=by
 simp only[BP,yu,xZ,decide_eq_true_eq];constructor
 .rintro⟨J,O⟩
  exact⟨O,λf N=>J _ (DT (by omega))⟩
 .rintro⟨J,O⟩
  refine⟨λr hr=>?_,J⟩;obtain⟨i,A,rfl⟩:=Iv (d:=AV.zero) hr;exact O i (by omega)
theorem MC{zZ:List AV}{kind:Int}{zT:List ByteArray}{w:Int}:Fc zZ f kind zT w=true↔(Bm w=true/\BC w≠f/\(zS zZ (BC w)).k=kind - 1/\By zT (zS zZ (BC w)).g=true)∨(Bm w=false/\w=0):=by unfold Fc;cases h:Bm w<;>simp[and_assoc]
theorem MB{m:List (List Int)}{zZ:List AV}{f:Nat}{kind:Int}{zT:List ByteArray}:JN m zZ f kind zT=true↔∀w∈AG m f,Fc zZ f kind zT w=true:=by simp[JN,xZ]
theorem SV{zX:List Eh}(h:zX.length=3){p:Eh->Bool}:zX.all p=true↔∀e,e<3->p (AJ zX e)=true:=by
 rw[xZ];constructor
 .intro hp e he
  exact hp _ (DT (by omega))
 .intro hp x E
  obtain⟨i,A,rfl⟩:=Iv (d:=⟨[],0⟩) E;exact hp i (by omega)
theorem El{k:AO}:Cr k=true↔DQ k:=by
 unfold Cr;simp only[yu,MI];constructor
 .rintro⟨⟨⟨⟨⟨⟨J,O⟩,h3⟩,h4⟩,h5⟩,h6⟩,h7⟩
  unfold JH at h4;simp only[yu,decide_eq_true_eq] at h4;obtain⟨h4,hl⟩:=h4;rw[SV hl] at h4;rw[A1] at O;have hE:∀e,e<3->BW (A7 k e)=true/\(Ab k e= -1∨(0<=Ab k e/\Ab k e<=11)/\Ay k (Ab k e).toNat=3)/\BM k.zZ (Be k.mem (Ab k e)) (A7 k e)=true:=by intro e he;have:=h4 e he;unfold ED at this;simp only[yu,xE,decide_eq_true_eq,AZ] at this;exact⟨this.1.1,this.1.2,this.2⟩
  refine⟨J,O.1,λf N=>X2 (O.2 f N),h3,hl,λe he=>(hE e he).1,λe he=>?_,λe he=>GG.1 (hE e he).2.2,λf N ht w hw=>?_,λf N=>?_,λx E=>xZ.1 h7 x E⟩
  .rcases(hE e he).2.1 with a|⟨⟨a,b⟩,c⟩
   .exact .inl a
   .exact .inr ⟨a,b,c⟩
  .have:=h5 f N
   unfold Dh at this;unfold Ay at ht;rw[ht,Bool.not_true,Bool.false_or,MB] at this
   rcases MC.1 (this w hw) with⟨a,b,c,_⟩|⟨_,a⟩
   .exact .inl ⟨a,b,c⟩
   .exact .inr a
  .have:=h6 f N
   simpa[HZ] using this
 .intro h
  refine⟨⟨⟨⟨⟨⟨h.mem,?_⟩,h.zW⟩,?_⟩,λf N=>?_⟩,λf N=>?_⟩,xZ.2 h.trans⟩
  .rw[A1]
   refine⟨h.len,λf N=>X3 (h.inf f N) (h.yP N).1 (by have:=(h.yP N).2;omega) (λh0=>h.zr N h0)⟩
  .unfold JH
   simp only[yu,decide_eq_true_eq];refine⟨?_,h.zN⟩;rw[SV h.zN];intro e he;unfold ED;simp only[yu,xE,decide_eq_true_eq,AZ];refine⟨⟨h.zT e he,?_⟩,GG.2 (h.allow e he)⟩
   rcases h.roots e he with a|⟨a,b,c⟩
   .exact .inl a
   .exact .inr ⟨⟨a,b⟩,c⟩
  .unfold Dh
   simp only[xE,uj];cases ht:Bh (zS k.zZ f).k
   .exact .inl rfl
   .right
    rw[MB];intro w hw;rw[MC]
    rcases h.tabs f N ht w hw with⟨a,b,c⟩|rfl
    .exact .inl ⟨a,b,c,ZU _⟩
    .exact .inr ⟨rfl,rfl⟩
  .simp[HZ,h.refs f N]
theorem Gu{l:List AV}{g:Nat}{x:AV}:zS (l.set f x) g=if g=f/\f<l.length then x else zS l g:=Jq
theorem Fi{l:List AV}{g:Nat}{u:AV->AV}:zS (At l f u) g=if g=f/\f<l.length then u (zS l f) else zS l g:=Mp
theorem GX{l:List Eh}{g:Nat}{u:Eh->Eh}:AJ (At l f u) g=if g=f/\f<l.length then u (AJ l f) else AJ l g:=Mp
theorem DQ.data{k:AO}(h:DQ k){f:Nat}(N:f<12)(z:Ay k f=0∨Ay k f=1){row:List Int}(dg:Ds row=true){x:AV}(E:TR x)(gr:x.k=0∨x.k=1)(hr:x.r=(zS k.zZ f).r)
 (eS:(x.k=Ay k f/\x.g=(zS k.zZ f).g)∨(zS k.zZ f).r=0){zW:List Ad}(H:BT zW=true)(ht:∀y∈zW,Ct k y=true):DQ ⟨k.mem.set f row,k.zZ.set f x,k.zX,zW⟩:=by
 have fl:=(Ai.1 h.mem).1;have cl:∀g,g≠f->AG (k.mem.set f row) g=AG k.mem g:=λg Z=>by rw[OV,if_neg (by rintro⟨a,_⟩;exact Z a)]
 have b5:∀g,g≠f->zS (k.zZ.set f x) g=zS k.zZ g:=λg Z=>by rw[Gu,if_neg (by rintro⟨a,_⟩;exact Z a)]
 have c6:zS (k.zZ.set f x) f=x:=by rw[Gu,if_pos ⟨rfl,by rw[h.len];exact N⟩]
 have dn:∀t,Bh (zS (k.zZ.set f x) t).k=true->t≠f/\Bh (Ay k t)=true:=by
  intro t ht
  by_cases e:t=f
  .subst e
   rw[c6,II] at ht;omega
  .rw[b5 t e] at ht
   exact⟨e,ht⟩
 have gE:∀t,Bh (Ay k t)=true->t≠f:=by intro t ht e;subst e;rw[II] at ht;omega
 have c5:∀t g,t<12->Bh (Ay k t)=true->g∈Go.Proofs.YtpdjjjdkhedibaaGreatDoor.named (AG k.mem t)->(zS (k.zZ.set f x) g).k=Ay k g/\(zS (k.zZ.set f x) g).g=(zS k.zZ g).g:=by
  intro t g ht cy Z
  by_cases e:g=f
  .subst e
   rw[c6]
   rcases eS with K|h0
   .exact K
   .exact absurd Z ((h.unused N h0).1 t ht cy)
  .rw[b5 g e];exact⟨rfl,rfl⟩
 have b4:∀e,e<3->0<=Ab k e->(Ab k e).toNat≠f:=λe he h0=>gE _ (by rw[(h.zy he h0).2];rfl)
 have eW:∀e,e<3->0<=Ab k e->∀t,t∈Go.Proofs.YtpdjjjdkhedibaaGreatDoor.named (AG k.mem (Ab k e).toNat)->t≠f:=λe he h0 t ht=>gE _ (by rw[(h.zK he h0 ht).2];rfl)
 have em:∀e,e<3->∀g,g∈Be (k.mem.set f row) (Ab k e)↔g∈Be k.mem (Ab k e):=λe he=>Ow (λh0=>cl _ (b4 e he h0)) (λh0 t ht=>cl _ (eW e he h0 t ht))
 refine⟨Sl h.mem dg,by simp[h.len],λg Z=>?_,H,h.zN,h.zT,λe he=>?_,λe he g Z=>?_,λt ht cy w hw=>?_,λg Z=>?_,λy hy=>?_⟩
 .by_cases e:g=f
  .subst e;rw[c6];exact E
  .rw[b5 g e];exact h.inf g Z
 .rcases h.roots e he with a|⟨a,b,c⟩
  .exact .inl a
  .refine .inr ⟨a,b,?_⟩
   show(zS (k.zZ.set f x) (Ab k e).toNat).k=3
   rw[b5 _ (b4 e he a)];exact c
 .have dc:=(em e he g).1 Z
  have hm:=h.allow e he g dc
  show By (A7 k e) (zS (k.zZ.set f x) g).g=true
  obtain⟨h0,J⟩:=De.1 dc;have eT:=h.zy he h0;have e:(zS (k.zZ.set f x) g).g=(zS k.zZ g).g:=by
   rcases J with rfl|J|⟨t,J,O⟩
   .rw[b5 _ (b4 e he h0)]
   .exact(c5 _ g eT.1 (by rw[eT.2];rfl) J).2
   .have fm:=h.zK he h0 J
    exact(c5 _ g fm.1 (by rw[fm.2];rfl) O).2
  rw[e];exact hm
 .obtain⟨a8,dU⟩:=dn t cy
  rw[show AG (k.mem.set f row) t=AG k.mem t from cl t a8] at hw
  rcases h.tabs t ht dU w hw with⟨a,b,c⟩|rfl
  .refine .inl ⟨a,b,?_⟩
   have:=(c5 t (BC w) ht dU (FY.2 ⟨w,hw,a,rfl⟩)).1
   show(zS (k.zZ.set f x) (BC w)).k=(zS (k.zZ.set f x) t).k - 1
   rw[this,b5 t a8];exact c
  .exact .inr rfl
 .have dj:countP (k.mem.set f row) (k.zZ.set f x) g=countP k.mem k.zZ g:=by
   rw[Ei,Ei];refine Ke λt ht=>?_
   unfold L8
   by_cases e:t=f
   .subst e
    rw[c6,if_neg (by rw[II];omega),if_neg (by rw[II];unfold Ay at z;omega)]
   .rw[b5 t e,cl t e]
  show(zS (k.zZ.set f x) g).r=(countP (k.mem.set f row) (k.zZ.set f x) g:Int)+(Ee k.zX g:Int)
  rw[dj,<-h.refs g Z]
  by_cases e:g=f
  .subst e;rw[c6,hr]
  .rw[b5 g e]
 .have J:=ht y hy
  have d6:=(Eg.1 H).1 y hy;unfold Bl at d6;simp only[yu,AZ] at d6;have he:y.e.toNat<3:=by omega
  unfold Ct at J ⊢;simp only[yu,decide_eq_true_eq] at J ⊢;refine⟨J.1,?_⟩;have hw:=Q0 (m:=k.mem) (m':=k.mem.set f row) (root:=(Ab k y.e.toNat).toNat) (a:=4*y.p.toNat) (cl _ (b4 _ he J.1)) (λt ht=>cl _ (eW _ he J.1 t ht));exact hw.trans J.2
theorem OS{zZ:List AV}{fs:List Nat}{n:Int}:(Bn zZ fs n).length=zZ.length:=by
 unfold Bn
 induction fs generalizing zZ with
 |nil=>rfl
 |cons f fs ih=>rw[yz,ih,DF]
theorem NZ{zZ:List AV}{fs:List Nat}{n:Int}{g:Nat}(Z:g<zZ.length):zS (Bn zZ fs n) g= {zS zZ g with r:=(zS zZ g).r+n*(fs.count g:Int)}:=by
 unfold Bn
 induction fs generalizing zZ with
 |nil=>simp
 |cons f fs ih=>
  rw[yz,ih (by rw[DF];exact Z),Fi,rZ]
  by_cases e:g=f
  .subst e
   rw[if_pos ⟨rfl,Z⟩];simp[Jk];rw[Int.mul_add];omega
  .rw[if_neg (by rintro⟨a,_⟩;exact e a)]
   have e':¬f=g:=λa=>e a.symm
   simp[e']
theorem DQ.retype{k:AO}(h:DQ k){f:Nat}(N:f<12)(h0:(zS k.zZ f).r=0){kind n:Int}(fQ:1<=kind)(ii:kind<=3)(ij:Ay k f≠0)
 (hn:(n=1/\Bh (Ay k f)=false/\Bh kind=true)∨(n= -1/\Bh (Ay k f)=true/\Bh kind=false))
 (ec:Bh kind=true->∀w∈AG k.mem f,(Bm w=true/\BC w≠f/\Ay k (BC w)=kind - 1)∨w=0):
 DQ {k with zZ:=At (Bn k.zZ (Go.Proofs.YtpdjjjdkhedibaaGreatDoor.named (AG k.mem f)) n) f (Ef kind)}:=by
 obtain⟨u1,u2⟩:=h.unused N h0;have hl:(Bn k.zZ (Go.Proofs.YtpdjjjdkhedibaaGreatDoor.named (AG k.mem f)) n).length=12:=by rw[OS,h.len]
 have bC:∀g,g<12->zS (At (Bn k.zZ (Go.Proofs.YtpdjjjdkhedibaaGreatDoor.named (AG k.mem f)) n) f (Ef kind)) g= {(zS k.zZ g) with k:=if g=f then kind else Ay k g,r:=(zS k.zZ g).r+n*((Go.Proofs.YtpdjjjdkhedibaaGreatDoor.named (AG k.mem f)).count g:Int)}:=by
  intro g Z;rw[Fi,hl]
  by_cases e:g=f
  .subst e
   rw[if_pos ⟨rfl,N⟩,NZ (by rw[h.len];exact Z)];simp[Ef]
  .rw[if_neg (by rintro⟨a,_⟩;exact e a),NZ (by rw[h.len];exact Z)]
   simp[e,Ay]
 have gx:f∉Go.Proofs.YtpdjjjdkhedibaaGreatDoor.named (AG k.mem f):=by
  intro hm
  rcases hn with⟨_,_,c⟩|⟨_,b,_⟩
  .obtain⟨w,hw,J,O⟩:=FY.1 hm
   rcases ec c w hw with⟨_,a,_⟩|rfl
   .exact a O
   .simp[Bm] at J
  .exact u1 f N b hm
 refine⟨h.mem,by rw[DF];exact hl,λg Z=>?_,h.zW,h.zN,h.zT,λe he=>?_,λe he g Z=>?_,λt ht cy w hw=>?_,λg Z=>?_,h.trans⟩
 .show TR (zS (At _ f (Ef kind)) g)
  rw[bC g Z]
  by_cases e:g=f
  .subst e
   rcases h.inf g Z with⟨a,b⟩|⟨a,b,c⟩
   .exact absurd a ij
   .right;simp;exact⟨fQ,ii,c⟩
  .simp only[e,if_false]
   exact h.inf g Z
 .rcases h.roots e he with a|⟨a,b,c⟩
  .exact .inl a
  .refine .inr ⟨a,b,?_⟩
   show(zS (At _ f (Ef kind)) (Ab k e).toNat).k=3
   rw[bC _ (by omega)];have:(Ab k e).toNat≠f:=λe'=>u2 e he (by omega)
   simp only[this,if_false];exact c
 .show By (A7 k e) (zS (At _ f (Ef kind)) g).g=true
  have:=h.allow e he g Z;rw[bC _ (h.zw he Z).1];exact this
 .have b0:Bh (zS (At (Bn k.zZ (Go.Proofs.YtpdjjjdkhedibaaGreatDoor.named (AG k.mem f)) n) f (Ef kind)) t).k=true:=cy
  rw[bC t ht] at b0
  show(Bm w=true/\BC w≠t/\(zS (At (Bn k.zZ (Go.Proofs.YtpdjjjdkhedibaaGreatDoor.named (AG k.mem f)) n) f (Ef kind)) (BC w)).k=(zS (At (Bn k.zZ (Go.Proofs.YtpdjjjdkhedibaaGreatDoor.named (AG k.mem f)) n) f (Ef kind)) t).k - 1)∨w=0
  rw[bC t ht]
  by_cases e:t=f
  .subst e
   simp only[if_true] at b0
   rcases ec b0 w hw with⟨a,b,c⟩|rfl
   .refine .inl ⟨a,b,?_⟩
    rw[bC _ (Ec a)];simp only[if_true,b,if_false];exact c
   .exact .inr rfl
  .simp only[e,if_false] at b0
   rcases h.tabs t ht b0 w hw with⟨a,b,c⟩|rfl
   .refine .inl ⟨a,b,?_⟩
    rw[bC _ (Ec a)];have:BC w≠f:=λe'=>u1 t ht b0 (FY.2 ⟨w,hw,a,e'⟩)
    simp only[this,if_false,e];exact c
   .exact .inr rfl
 .show(zS (At (Bn k.zZ (Go.Proofs.YtpdjjjdkhedibaaGreatDoor.named (AG k.mem f)) n) f (Ef kind)) g).r=(countP k.mem (At (Bn k.zZ (Go.Proofs.YtpdjjjdkhedibaaGreatDoor.named (AG k.mem f)) n) f (Ef kind)) g:Int)+(Ee k.zX g:Int)
  rw[bC g Z];have cw:=ML (F:=L8 k.mem (At (Bn k.zZ (Go.Proofs.YtpdjjjdkhedibaaGreatDoor.named (AG k.mem f)) n) f (Ef kind)) g) (G:=L8 k.mem k.zZ g) N (λt ht a8=>by unfold L8;rw[bC t ht];simp only[a8,if_false];rfl)
  rw[<-Ei,<-Ei] at cw;have c1:L8 k.mem (At (Bn k.zZ (Go.Proofs.YtpdjjjdkhedibaaGreatDoor.named (AG k.mem f)) n) f (Ef kind)) g f=if Bh kind then(Go.Proofs.YtpdjjjdkhedibaaGreatDoor.named (AG k.mem f)).count g else 0:=by unfold L8;rw[bC f N];simp
  have c2:L8 k.mem k.zZ g f=if Bh (Ay k f) then(Go.Proofs.YtpdjjjdkhedibaaGreatDoor.named (AG k.mem f)).count g else 0:=rfl
  rw[c1,c2] at cw;have:=h.refs g Z
  rcases hn with⟨rfl,a,b⟩|⟨rfl,a,b⟩
  .rw[a,b] at cw
   simp at cw ⊢;omega
  .rw[a,b] at cw
   simp at cw ⊢;omega
theorem Fg{zZ:List AV}(h:¬Am zZ<0):(Am zZ).toNat<zZ.length/\(zS zZ (Am zZ).toNat).k=0/\0<=Am zZ:=by
 unfold Am at h ⊢
 split
 .rename_i ha
  obtain⟨x,E,K⟩:=L7.1 ha;have hl:zZ.findIdx (λx=>decide (x.k=0))<zZ.length:=vM.2 ⟨x,E,K⟩;refine⟨by simpa using hl,?_,by omega⟩;have:=vC (w:=hl);simpa[zS,hl] using this
 .rename_i ha
  rw[if_neg ha] at h;omega
theorem Nf{α:Type}{l:List α}{i:Nat}{d:α}:l.set i (l.getD i d)=l:=by
 apply sq;intro j;rw[vV]
 by_cases h:i=j
 .subst h
  by_cases O:i<l.length
  .simp[O]
  .simp[O]
 .simp[h]
theorem Zt{k:AO}(h:DQ k){c:Ac}:DQ (JO k c).1:=by
 unfold JO
 split
 .exact h
 .rename_i hn
  split
  .exact h
  .split
   .exact h
   .rename_i N
    obtain⟨a,b,_⟩:=Fg N;rw[h.len] at a;have hr:=h.zr a b;refine h.data (x:=⟨1,c.nm,0⟩) a (.inl b) (by decide) (.inr ⟨by show(1:Int)<=1;omega,by show(1:Int)<=3;omega,by simpa using hn⟩) (.inr rfl) hr.symm (.inr hr) h.zW h.trans
theorem ZB{k:AO}(h:DQ k){c:Ac}(ha:c.a.toNat<12):DQ (KR k c).1:=by
 unfold KR
 split
 .exact h
 .rename_i z
  split
  .exact h
  .rename_i hr
   have hr:(zS k.zZ c.a.toNat).r=0:=by omega
   have:=h.data (x:=AV.zero) ha (.inr (by unfold Ay;omega)) ((Ai.1 h.mem).2 _ ha) (.inl ⟨rfl,rfl⟩) (.inl rfl) hr.symm (.inr hr) h.zW h.trans;rw[show k.mem.set c.a.toNat (AG k.mem c.a.toNat)=k.mem from Nf] at this;exact this
theorem XS{k:AO}(h:DQ k){f i:Nat}{w:Int}(N:f<12)(z:Ay k f=1)(hw:Dk w=true){zW:List Ad}(H:BT zW=true)(ht:∀y∈zW,Ct k y=true):DQ {k with mem:=Bz k.mem f i w,zW:=zW}:=by have:=h.data (x:=zS k.zZ f) N (.inr z) (Sz (i:=i) (w:=w) ((Ai.1 h.mem).2 _ N) hw) (h.inf f N) (.inr z) rfl (.inl ⟨rfl,rfl⟩) H ht;rw[show k.zZ.set f (zS k.zZ f)=k.zZ from Nf] at this;rw[Nd];exact this
theorem Zg{k:AO}(h:DQ k){c:Ac}(ha:c.a.toNat<12):DQ (Kb k c).1:=by
 unfold Kb
 split
 .exact h
 .rename_i hn
  simp only[not_or] at hn;obtain⟨J,O,h3⟩:=hn;exact XS h ha (by unfold Ay;omega) (by simpa using h3) h.zW h.trans
theorem Ss{k:AO}(h:DQ k){r:List AV×Int}(hr:r.2=0->DQ {k with zZ:=r.1}):DQ (ET k r).1:=by
 unfold ET
 split
 .exact hr ‹_›
 .exact h
theorem aX{k:AO}(h:DQ k){f:Nat}(N:f<12){kind:Int}{zT:List ByteArray}(z:Bh kind=true):(IF k.mem k.zZ f kind zT).2=0->DQ {k with zZ:=(IF k.mem k.zZ f kind zT).1}:=by
 unfold IF
 split
 .intro h;simp at h
 .rename_i hn
  simp only[not_or,uB] at hn
  split
  .intro h;simp at h
  .rename_i Z
   have Z:JN k.mem k.zZ f kind zT=true:=by simpa using Z
   split
   .intro _
    have ie:=II.1 z;refine h.retype N hn.2 (by omega) (by omega) (by unfold Ay;omega) (.inl ⟨rfl,?_,z⟩) (λ_ w hw=>?_)
    .unfold Ay;rw[hn.1];rfl
    .rcases MC.1 (MB.1 Z w hw) with⟨a,b,c,_⟩|⟨_,a⟩
     .exact .inl ⟨a,b,c⟩
     .exact .inr a
   .intro h;simp at h
theorem Ye{k:AO}(h:DQ k){f:Nat}(N:f<12):(Dz k.mem k.zZ f).2=0->DQ {k with zZ:=(Dz k.mem k.zZ f).1}:=by
 unfold Dz
 split
 .intro h;simp at h
 .rename_i hn
  simp only[not_or,uB,wL] at hn
  split
  .intro _
   have ie:=II.1 hn.1;exact h.retype N hn.2 (by omega) (by omega) (by unfold Ay;omega) (.inr ⟨rfl,hn.1,rfl⟩) (λhh=>by simp[Bh] at hh)
  .intro h;simp at h
theorem Cl{zZ:List AV}{w n:Int}:(A5 zZ w n).length=zZ.length:=by
 unfold A5
 split
 .exact DF
 .rfl
theorem Fa{zZ:List AV}{w n:Int}{g:Nat}(hl:zZ.length=12):zS (A5 zZ w n) g= {zS zZ g with r:=(zS zZ g).r+n*(EN (Dm g w):Int)}:=by
 unfold A5
 split
 .rename_i Z
  rw[Fi]
  by_cases e:g=BC w
  .subst e
   rw[if_pos ⟨rfl,by rw[hl];exact Ec Z⟩];simp[Jk,Dm,Z,EN]
  .have e':¬BC w=g:=λx=>e x.symm
   rw[if_neg (by rintro⟨a,_⟩;exact e a)];simp[Dm,Z,EN,e']
 .rename_i Z
  simp[Dm,Z,EN]
theorem OZ{k:AO}{a e:Nat}:e∈Fo k a↔e<3/\a∈Be k.mem (Ab k e):=by simp[Fo,Ab]
theorem af{k:AO}(h:DQ k){c:Ac}(ha:c.a.toNat<12)(iD:0<=c.c->c.c<=9999∨Bm c.c=true∨c.c=0->Dk c.c=true):DQ (H7 k c).1:=by
 unfold H7
 split
 .exact h
 rename_i hn
 simp only[not_or,wL] at hn;obtain⟨J,O,h3⟩:=hn;unfold Dt at h3
 split
 .exact h
 rename_i bY
 have bY:((Fo k c.a.toNat).all λe=>BM k.zZ (DY k c.c) (AJ k.zX e).zT)=true:=by simpa using bY
 split
 .exact h
 rename_i hmay
 generalize hfd:c.a.toNat=f at*;have Y:c.b.toNat<4:=by have:=AZ.1 O;omega
 generalize eH:c.b.toNat=b at*;generalize hwd:c.c=w at*;have hl:=h.len;have fl:=(Ai.1 h.mem).1;have fI:=h.row ha;have fE:Bm w=true->Ay k (BC w)=Ay k f - 1:=by intro Z;rw[if_pos Z] at h3;simpa[Ay] using h3
 have gu:Bm w=false->w=0:=by intro Z;rw[if_neg (by simp[Z])] at h3;simpa using h3
 have iI:=II.1 J;have eO:Dk w=true:=by
  cases Z:Bm w
  .rw[gu Z];rfl
  .have dc:=Z
   simp only[Bm,yu,decide_eq_true_eq] at dc;refine AZ.2 ⟨by omega,by omega⟩
 have fD:Bm w=true->BC w≠f:=by intro Z e;have:=fE Z;rw[e] at this;omega
 have bC:∀g,zS (A5 (A5 k.zZ (As k.mem f b) (-1)) w 1) g= {zS k.zZ g with r:=(zS k.zZ g).r+(-1)*(EN (Dm g (As k.mem f b)):Int)+1*(EN (Dm g w):Int)}:=by intro g;rw[Fa (by rw[Cl];exact hl),Fa hl]
 have cn:∀g,(zS (A5 (A5 k.zZ (As k.mem f b) (-1)) w 1) g).k=Ay k g:=λg=>by rw[bC];rfl
 have ew:∀g,(zS (A5 (A5 k.zZ (As k.mem f b) (-1)) w 1) g).g=(zS k.zZ g).g:=λg=>by rw[bC]
 have du:AG (Bz k.mem f b w) f=(AG k.mem f).set b w:=by rw[Hj,if_pos ⟨rfl,by omega⟩]
 have dg:∀g,g≠f->AG (Bz k.mem f b w) g=AG k.mem g:=λg Z=>by rw[Hj,if_neg (by rintro⟨a,_⟩;exact Z a)]
 have dh:∀t g,g∈Go.Proofs.YtpdjjjdkhedibaaGreatDoor.named (AG (Bz k.mem f b w) t)->g∈Go.Proofs.YtpdjjjdkhedibaaGreatDoor.named (AG k.mem t)∨(t=f/\Bm w=true/\BC w=g):=by
  intro t g Z
  by_cases e:t=f
  .subst e
   rw[du] at Z
   rcases Rl Z with a|a
   .exact .inl a
   .exact .inr ⟨rfl,a⟩
  .rw[dg t e] at Z
   exact .inl Z
 have gD:∀e,e<3->f∉Be k.mem (Ab k e)->(0<=Ab k e->AG (Bz k.mem f b w) (Ab k e).toNat=AG k.mem (Ab k e).toNat)/\(0<=Ab k e->∀t,t∈Go.Proofs.YtpdjjjdkhedibaaGreatDoor.named (AG k.mem (Ab k e).toNat)->AG (Bz k.mem f b w) t=AG k.mem t):=by
  intro e he en;rw[De] at en;refine⟨λh0=>dg _ (λe'=>en ⟨h0,.inl e'.symm⟩),λh0 t ht=>dg _ (λe'=>en ⟨h0,.inr (.inl (e'▸ht))⟩)⟩
 refine⟨?_,by rw[Cl,Cl];exact hl,λg Z=>?_,Ut h.zW,h.zN,h.zT,λe he=>?_,λe he g Z=>?_,λt ht cy x E=>?_,λg Z=>?_,λy hy=>?_⟩
 .show Bu (Bz k.mem f b w)=true
  rw[Nd];exact Sl h.mem (Sz ((Ai.1 h.mem).2 f ha) eO)
 .show TR (zS (A5 (A5 k.zZ (As k.mem f b) (-1)) w 1) g)
  rw[bC];exact h.inf g Z
 .rcases h.roots e he with x|⟨x,y,hk⟩
  .exact .inl x
  .exact .inr ⟨x,y,by show(zS (A5 (A5 k.zZ (As k.mem f b) (-1)) w 1) (Ab k e).toNat).k=3;rw[cn];exact hk⟩
 .show By (A7 k e) (zS (A5 (A5 k.zZ (As k.mem f b) (-1)) w 1) g).g=true
  rw[ew]
  by_cases hr:f∈Be k.mem (Ab k e)
  .have hu:∀g,g∈DY k w->By (A7 k e) (zS k.zZ g).g=true:=GG.1 (xZ.1 bY e (OZ.2 ⟨he,hr⟩))
   have cm:∀g,Bm w=true->(BC w=g∨(Bh (Ay k (BC w))=true/\g∈Go.Proofs.YtpdjjjdkhedibaaGreatDoor.named (AG k.mem (BC w))))->g∈DY k w:=by
    intro g Z hh;unfold DY;rw[if_pos Z]
    rcases hh with rfl|⟨J,O⟩
    .exact we ..
    .unfold Ay at J
     rw[if_pos J];exact vD _ O
   obtain⟨h0,dc⟩:=De.1 Z
   change 0<=Ab k e at h0
   have old:∀g,(g=(Ab k e).toNat∨g∈Go.Proofs.YtpdjjjdkhedibaaGreatDoor.named (AG k.mem (Ab k e).toNat)∨∃t,t∈Go.Proofs.YtpdjjjdkhedibaaGreatDoor.named (AG k.mem (Ab k e).toNat)/\g∈Go.Proofs.YtpdjjjdkhedibaaGreatDoor.named (AG k.mem t))->By (A7 k e) (zS k.zZ g).g=true:=λg hh=>h.allow e he g (De.2 ⟨h0,hh⟩)
   rcases dc with dc|dc|⟨t,ht,dc⟩
   .exact old g (.inl dc)
   .rcases dh _ _ dc with a|⟨_,a,b⟩
    .exact old g (.inr (.inl a))
    .exact hu g (cm g a (.inl b))
   .rcases dh _ _ dc with a|⟨_,a,b⟩
    .rcases dh _ _ ht with a'|⟨er,a',b'⟩
     .exact old g (.inr (.inr ⟨t,a',a⟩))
     .have eT:=(h.zy he h0).2
      change (Ab k e).toNat=f at er
      rw[er] at eT;refine hu g (cm g a' (.inr ⟨?_,by rw[b'];exact a⟩));rw[fE a',eT];rfl
    .exact hu g (cm g a (.inl b))
  .obtain⟨r0,r1⟩:=gD e he hr
   exact h.allow e he g ((Ow r0 r1 g).1 Z)
 .have b0:Bh (zS (A5 (A5 k.zZ (As k.mem f b) (-1)) w 1) t).k=true:=cy
  rw[cn] at b0
  show(Bm x=true/\BC x≠t/\(zS (A5 (A5 k.zZ (As k.mem f b) (-1)) w 1) (BC x)).k=(zS (A5 (A5 k.zZ (As k.mem f b) (-1)) w 1) t).k - 1)∨x=0
  rw[cn,cn];have d7:x∈AG (Bz k.mem f b w) t:=E
  by_cases e:t=f
  .subst e
   rw[du] at d7
   rcases vk d7 with d7|rfl
   .exact h.tabs t ht b0 x d7
   .cases Z:Bm x
    .exact .inr (gu Z)
    .exact .inl ⟨rfl,fD Z,fE Z⟩
  .rw[dg t e] at d7
   exact h.tabs t ht b0 x d7
 .show(zS (A5 (A5 k.zZ (As k.mem f b) (-1)) w 1) g).r=(countP (Bz k.mem f b w) (A5 (A5 k.zZ (As k.mem f b) (-1)) w 1) g:Int)+(Ee k.zX g:Int)
  have cw:=ML (F:=L8 (Bz k.mem f b w) (A5 (A5 k.zZ (As k.mem f b) (-1)) w 1) g) (G:=L8 k.mem k.zZ g) ha (λt ht a8=>by unfold L8;rw[cn,dg t a8];rfl)
  rw[<-Ei,<-Ei] at cw;have c1:L8 (Bz k.mem f b w) (A5 (A5 k.zZ (As k.mem f b) (-1)) w 1) g f=(Go.Proofs.YtpdjjjdkhedibaaGreatDoor.named ((AG k.mem f).set b w)).count g:=by unfold L8;rw[cn,du];exact if_pos J
  have c2:L8 k.mem k.zZ g f=(Go.Proofs.YtpdjjjdkhedibaaGreatDoor.named (AG k.mem f)).count g:=if_pos J;have c3:(Go.Proofs.YtpdjjjdkhedibaaGreatDoor.named ((AG k.mem f).set b w)).count g+EN (Dm g (As k.mem f b))=(Go.Proofs.YtpdjjjdkhedibaaGreatDoor.named (AG k.mem f)).count g+EN (Dm g w):=YJ (show b<(AG k.mem f).length by omega);rw[c1,c2] at cw;have:=h.refs g Z;rw[bC];simp only;omega
 .obtain⟨eN,gq⟩:=Xq.1 hy
  have h4:=h.trans y eN;have d6:=(Eg.1 h.zW).1 y eN;unfold Bl at d6;simp only[yu,AZ] at d6;have he:y.e.toNat<3:=by omega
  have en:f∉Be k.mem (Ab k y.e.toNat):=λhr=>gq y.e.toNat (OZ.2 ⟨he,hr⟩) (by omega)
  obtain⟨r0,r1⟩:=gD _ he en;unfold Ct at h4 ⊢;simp only[yu,decide_eq_true_eq] at h4 ⊢;exact⟨h4.1,(Q0 (a:=4*y.p.toNat) (r0 h4.1) (r1 h4.1)).trans h4.2⟩
def GQ(zZ:List AV)(old new:Int):List AV:=
 if 0<=new then At (if 0<=old then At zZ old.toNat (Jk (-1)) else zZ) new.toNat (Jk 1) else(if 0<=old then At zZ old.toNat (Jk (-1)) else zZ)
theorem Wp{zZ:List AV}{old new:Int}:(GQ zZ old new).length=zZ.length:=by
 unfold GQ
 split<;>split<;>simp[DF]
theorem Sy{zZ:List AV}{old new:Int}{g:Nat}(hl:zZ.length=12)(Z:g<12):zS (GQ zZ old new) g= {zS zZ g with r:=(zS zZ g).r - (EN (decide (old=(g:Int))):Int)+(EN (decide (new=(g:Int))):Int)}:=by
 have J:zS (if 0<=old then At zZ old.toNat (Jk (-1)) else zZ) g= {zS zZ g with r:=(zS zZ g).r - (EN (decide (old=(g:Int))):Int)}:=by
  split
  .rw[Fi]
   by_cases e:g=old.toNat
   .rw[if_pos ⟨e,by omega⟩,<-e]
    have:old=(g:Int):=by omega
    simp[Jk,EN,this];omega
   .rw[if_neg (by rintro⟨a,_⟩;exact e a)]
    have:¬old=(g:Int):=by omega
    simp[EN,this]
  .have:¬old=(g:Int):=by omega
   simp[EN,this]
 have O:(if 0<=old then At zZ old.toNat (Jk (-1)) else zZ).length=12:=by split<;>simp[DF,hl]
 unfold GQ
 split
 .rw[Fi,O]
  by_cases e:g=new.toNat
  .rw[if_pos ⟨e,by omega⟩,<-e,J]
   have:new=(g:Int):=by omega
   simp[Jk,EN,this]
  .rw[if_neg (by rintro⟨a,_⟩;exact e a),J]
   have:¬new=(g:Int):=by omega
   simp[EN,this]
 .rw[J]
  have:¬new=(g:Int):=by omega
  simp[EN,this]
theorem YW{zX:List Eh}(hl:zX.length=3){e g:Nat}(he:e<3){n:Int}:Ee (At zX e (D5 n)) g+EN (decide ((AJ zX e).root=(g:Int)))=Ee zX g+EN (decide (n=(g:Int))):=by
 rw[Hh (by rw[DF];exact hl),Hh hl];simp only[GX,hl];have:e=0∨e=1∨e=2:=by omega
 rcases this with rfl|rfl|rfl<;>simp[D5]<;>omega
theorem Wq{zX:List Eh}(hl:zX.length=3){e g:Nat}{ss:List ByteArray}:Ee (At zX e (Bc ss)) g=Ee zX g:=by
 rw[Hh (by rw[DF];exact hl),Hh hl];simp only[GX]
 by_cases h0:0=e/\e<zX.length<;>by_cases J:1=e/\e<zX.length<;>by_cases O:2=e/\e<zX.length<;>simp only[h0,J,O,if_true,if_false,Bc]<;>(try (obtain⟨rfl,_⟩:=h0))<;>(try (obtain⟨rfl,_⟩:=J))<;>(try (obtain⟨rfl,_⟩:=O))<;>simp
theorem Zl{k:AO}(h:DQ k){c:Ac}(he:0<=c.e/\c.e<=2):DQ (PA k c).1:=by
 unfold PA
 split
 .exact h
 rename_i J
 split
 .exact h
 rename_i O
 have O:BM k.zZ (Be k.mem c.a) (A7 k c.e.toNat)=true:=by simpa[A7] using O
 rw[GG] at O;have fa:c.e.toNat<3:=by omega
 generalize hed:c.e.toNat=e at*;generalize c.a=n at*;have J:n= -1∨(0<=n/\n<=11/\Ay k n.toNat=3):=by
  by_cases hn:n= -1
  .exact .inl hn
  .right
   have J:¬(BZ n 0 11=false∨(zS k.zZ n.toNat).k≠3):=λhh=>J ⟨hn,hh⟩
   simp only[not_or,wL,uB] at J;have:=AZ.1 J.1;exact⟨this.1,this.2,J.2⟩
 show DQ ⟨k.mem,GQ k.zZ (Ab k e) n,At k.zX e (D5 n),GJ k.zW c.e⟩
 have bC:=λg (Z:g<12)=>Sy (zZ:=k.zZ) (old:=Ab k e) (new:=n) (g:=g) h.len Z
 have c8:∀j,AJ (At k.zX e (D5 n)) j=if j=e then⟨A7 k e,n⟩ else AJ k.zX j:=by
  intro j;rw[GX,h.zN]
  by_cases D:j=e
  .rw[if_pos ⟨D,fa⟩,if_pos D];rfl
  .rw[if_neg (by rintro⟨a,_⟩;exact D a),if_neg D]
 refine⟨h.mem,by rw[Wp];exact h.len,λg Z=>?_,Us h.zW,by rw[DF];exact h.zN,λj D=>?_,λj D=>?_,λj D g Z=>?_,λt ht cy x E=>?_,λg Z=>?_,λy hy=>?_⟩
 .show TR (zS (GQ _ _ _) g)
  rw[bC g Z];exact h.inf g Z
 .show BW (AJ (At k.zX e (D5 n)) j).zT=true
  rw[c8]
  split
  .exact h.zT e fa
  .exact h.zT j D
 .show(AJ (At k.zX e (D5 n)) j).root= -1∨(0<=(AJ (At k.zX e (D5 n)) j).root/\(AJ (At k.zX e (D5 n)) j).root<=11/\(zS (GQ k.zZ (Ab k e) n) (AJ (At k.zX e (D5 n)) j).root.toNat).k=3)
  rw[c8]
  split
  .rcases J with J|⟨a,b,d⟩
   .exact .inl J
   .refine .inr ⟨a,b,?_⟩
    rw[bC _ (by simp;omega)];exact d
  .rcases h.roots j D with x|⟨x,y,hk⟩
   .exact .inl x
   .refine .inr ⟨x,y,?_⟩
    have E:(AJ k.zX j).root=Ab k j:=rfl;rw[E,bC _ (by omega)];exact hk
 .have b9:g∈Be k.mem (AJ (At k.zX e (D5 n)) j).root:=Z
  show By (AJ (At k.zX e (D5 n)) j).zT (zS (GQ k.zZ (Ab k e) n) g).g=true
  rw[c8] at b9 ⊢
  by_cases dx:j=e
  .simp only[dx,if_true] at b9 ⊢
   have fW:g<12:=by
    obtain⟨h0,hh⟩:=De.1 b9
    rcases hh with rfl|hh|⟨t,_,hh⟩
    .rcases J with J|J<;>omega
    .exact FW hh
    .exact FW hh
   rw[bC g fW];exact O g b9
  .simp only[dx,if_false] at b9 ⊢
   rw[bC g (h.zw D b9).1];exact h.allow j D g b9
 .have b0:Bh (zS (GQ k.zZ (Ab k e) n) t).k=true:=cy
  rw[bC t ht] at b0
  show(Bm x=true/\BC x≠t/\(zS (GQ k.zZ (Ab k e) n) (BC x)).k=(zS (GQ k.zZ (Ab k e) n) t).k - 1)∨x=0
  rcases h.tabs t ht b0 x E with⟨a,b,d⟩|rfl
  .refine .inl ⟨a,b,?_⟩
   rw[bC t ht,bC _ (Ec a)];exact d
  .exact .inr rfl
 .show(zS (GQ k.zZ (Ab k e) n) g).r=(countP k.mem (GQ k.zZ (Ab k e) n) g:Int)+(Ee (At k.zX e (D5 n)) g:Int)
  have H:countP k.mem (GQ k.zZ (Ab k e) n) g=countP k.mem k.zZ g:=by
   rw[Ei,Ei];refine Ke λt ht=>?_
   unfold L8;rw[bC t ht]
  have hr:=YW (g:=g) h.zN fa (n:=n);have:=h.refs g Z;rw[H,bC g Z];have e':(AJ k.zX e).root=Ab k e:=rfl;rw[e'] at hr;simp only;omega
 .obtain⟨eN,gq⟩:=SS.1 hy
  have h4:=h.trans y eN;have d6:=(Eg.1 h.zW).1 y eN;unfold Bl at d6;simp only[yu,AZ] at d6;have a8:y.e.toNat≠e:=by omega
  unfold Ct at h4 ⊢;rw[show AJ (AO.zX ⟨k.mem,GQ k.zZ (Ab k e) n,At k.zX e (D5 n),GJ k.zW c.e⟩) y.e.toNat=AJ k.zX y.e.toNat from by show AJ (At k.zX e (D5 n)) y.e.toNat=_;rw[c8,if_neg a8]];exact h4
theorem DQ.zh{k:AO}(h:DQ k){e:Nat}(he:e<3){ss:List ByteArray}(K:BW ss=true)(ha:∀f,f∈Be k.mem (Ab k e)->By ss (zS k.zZ f).g=true):DQ {k with zX:=At k.zX e (Bc ss)}:=by
 have c8:∀j,AJ (At k.zX e (Bc ss)) j=if j=e then⟨ss,Ab k e⟩ else AJ k.zX j:=by
  intro j;rw[GX,h.zN]
  by_cases D:j=e
  .rw[if_pos ⟨D,he⟩,if_pos D];rfl
  .rw[if_neg (by rintro⟨a,_⟩;exact D a),if_neg D]
 have b4:∀j,(AJ (At k.zX e (Bc ss)) j).root=Ab k j:=by
  intro j;rw[c8]
  split
  .rename_i D;rw[D]
  .rfl
 refine⟨h.mem,h.len,h.inf,h.zW,by rw[DF];exact h.zN,λj D=>?_,λj D=>?_,λj D g Z=>?_,h.tabs,λg Z=>?_,λy hy=>?_⟩
 .show BW (AJ (At k.zX e (Bc ss)) j).zT=true
  rw[c8]
  split
  .exact K
  .exact h.zT j D
 .show(AJ (At k.zX e (Bc ss)) j).root= -1∨(0<=(AJ (At k.zX e (Bc ss)) j).root/\(AJ (At k.zX e (Bc ss)) j).root<=11/\(zS k.zZ (AJ (At k.zX e (Bc ss)) j).root.toNat).k=3)
  rw[b4];exact h.roots j D
 .have b9:g∈Be k.mem (AJ (At k.zX e (Bc ss)) j).root:=Z
  show By (AJ (At k.zX e (Bc ss)) j).zT (zS k.zZ g).g=true
  rw[b4] at b9;rw[c8]
  split
  .rename_i dx
   rw[dx] at b9;exact ha g b9
  .exact h.allow j D g b9
 .show(zS k.zZ g).r=(countP k.mem k.zZ g:Int)+(Ee (At k.zX e (Bc ss)) g:Int)
  rw[Wq h.zN];exact h.refs g Z
 .have h4:=h.trans y hy
  unfold Ct at h4 ⊢;rw[show(AJ (AO.zX {k with zX:=At k.zX e (Bc ss)}) y.e.toNat).root=(AJ k.zX y.e.toNat).root from b4 _];exact h4
theorem X1{k:AO}(h:DQ k){c:Ac}:DQ (Lc k c).1:=by
 unfold Lc
 split
 .exact h
 rename_i J
 simp only[not_or,wL] at J;have:=AZ.1 J.1
 split
 .exact h
 split
 .exact h
 exact h.zh (by omega) (Yv (h.zT _ (by omega)) J.2) (λf N=>YH (λs K=>Yu K) (h.allow _ (by omega) f N))
theorem Wm{k:AO}(h:DQ k){c:Ac}:DQ (KB k c).1:=by
 unfold KB
 split
 .exact h
 rename_i J
 simp only[not_or,wL] at J;have:=AZ.1 J.1
 split
 .exact h
 split
 .exact h
 rename_i h3
 have h3:=GG.1 (show BM k.zZ (Be k.mem (Ab k c.a.toNat)) (DK (AJ k.zX c.a.toNat).zT c.nm)=true by simpa[Ab] using h3);exact h.zh (by omega) (Xr (h.zT _ (by omega))) h3
theorem aj{k:AO}(h:DQ k){c:Ac}(he:0<=c.e/\c.e<=2):DQ (Iz k c).1:=by
 unfold Iz;simp only
 split
 .exact h
 rename_i J
 simp only[not_or,wL] at J;obtain⟨ha,hr,Y⟩:=J
 split
 .exact h
 rename_i hw
 split
 .exact h
 have fa:c.e.toNat<3:=by omega
 have hr:0<=Ab k c.e.toNat:=by unfold Ab;omega
 have hw:(Bq k.mem (Ab k c.e.toNat).toNat c.a.toNat).1=0:=by simpa[Ab] using hw
 obtain⟨N,z,_⟩:=h.yQ fa hr hw;have ha:=AZ.1 ha;have hC:BT (if GC k.zW c.e (c.a/4)<0 then Ga k.zW ⟨c.e,c.a/4,((Bq k.mem (Ab k c.e.toNat).toNat c.a.toNat).2.1:Nat),(Bq k.mem (Ab k c.e.toNat).toNat c.a.toNat).2.2⟩ else k.zW)=true:=by
  split
  .refine XU h.zW ?_
   simp only[Bl,yu,AZ];omega
  .exact h.zW
 have hT:∀y∈(if GC k.zW c.e (c.a/4)<0 then Ga k.zW ⟨c.e,c.a/4,((Bq k.mem (Ab k c.e.toNat).toNat c.a.toNat).2.1:Nat),(Bq k.mem (Ab k c.e.toNat).toNat c.a.toNat).2.2⟩ else k.zW),Ct k y=true:=by
  intro y hy
  split at hy
  .rcases VT hy with rfl|hy
   .unfold Ct
    simp only[yu,decide_eq_true_eq];refine⟨hr,?_⟩;have e1:4*(c.a/4).toNat/16=c.a.toNat/16:=by omega
    have e2:4*(c.a/4).toNat/4%4=c.a.toNat/4%4:=by omega
    have e3:Bq k.mem (AJ k.zX c.e.toNat).root.toNat (4*(c.a/4).toNat)=Bq k.mem (Ab k c.e.toNat).toNat c.a.toNat:=by unfold Bq;rw[e1,e2];rfl
    rw[e3,yd];exact Prod.ext hw rfl
   .exact h.trans y hy
  .exact h.trans y hy
 split
 .rename_i h11
  refine XS h N z ?_ hC hT;simp only[not_and,wL] at Y;exact Y h11
 .have:=h.data (x:=zS k.zZ (Bq k.mem (Ab k c.e.toNat).toNat c.a.toNat).2.1) N (.inr z) ((Ai.1 h.mem).2 _ N) (h.inf _ N) (.inr z) rfl (.inl ⟨rfl,rfl⟩) hC hT
  rw[show k.zZ.set _ (zS k.zZ (Bq k.mem (Ab k c.e.toNat).toNat c.a.toNat).2.1)=k.zZ from Nf,show k.mem.set _ (AG k.mem (Bq k.mem (Ab k c.e.toNat).toNat c.a.toNat).2.1)=k.mem from Nf] at this;exact this
theorem Xv{k:AO}(h:DQ k){c:Ac}:DQ (Gt k c).1:=by
 unfold Gt
 split
 .exact h
 rename_i J
 simp only[not_or,wL,not_and] at J;have ha:=AZ.1 J.1;have fc:c.a.toNat<12:=by omega
 split
 .exact h
 split
 .exact ZB h fc
 split
 .exact Zg h fc
 split
 .rename_i h4
  exact Ss h (aX h fc (J.2.2 h4))
 split
 .exact Ss h (Ye h fc)
 exact af h fc (λh0 hh=>by
  rcases hh with hh|hh|hh
  .exact AZ.2 ⟨h0,hh⟩
  .simp only[Bm,yu,decide_eq_true_eq] at hh
   exact AZ.2 ⟨by omega,by omega⟩
  .rw[hh];rfl)
theorem M8{k:AO}(h:DQ k){c:Ac}(he:0<=c.e/\c.e<=2):DQ (Ae k c).1:=by
 unfold Ae
 split
 .exact Zt h
 split
 .exact Xv h
 split
 .exact Zl h he
 split
 .exact X1 h
 split
 .exact Wm h
 split
 .exact aj h he
 .exact h
structure Bo where
 w:Int
 a:Int
 u:Bool
 deriving DecidableEq
structure AR where
 zV:AO
 swap:List (List Int)
 low:List Int
 zY:List Bo
 zR:Int
 zU:Int
 deriving DecidableEq
def gA:ByteArray:=⟨#[97]⟩
def AC(l:List Bo)(n:Nat):Bo:=l.getD n ⟨0,0,false⟩
def BO(l:List Int)(n:Nat):Int:=l.getD n 0
def FM(s:List (List Int)):Bool:=s.all (λr=>r.isEmpty||Ds r)&&decide (s.length=16)
def IB(f:Int):Int:=4*f+3
def F3(zZ:List AV)(f:Nat):Bool:=decide ((zS zZ f).g=gA)&&decide ((zS zZ f).r=1)
def Fk(p:AR)(i:Nat):Bool:=BZ (BO p.low i) 0 11&&decide (As p.zV.mem (Ab p.zV 0).toNat i=IB (BO p.low i))&&F3 p.zV.zZ (BO p.low i).toNat
def Bv(p:AR):Bool:=decide (0<=Ab p.zV 0)&&decide (p.low.length=4)&&F3 p.zV.zZ (Ab p.zV 0).toNat&&(yC 4).all (Fk p)
def Bt(p:AR)(n:Nat):Int:=As p.zV.mem (BO p.low (n/4)).toNat (n%4)
def GZ(p:AR)(n:Nat):Bool:=
 if(AC p.zY n).w=0 then decide ((AC p.zY n).a=0)&&!(AC p.zY n).u&&decide (Bt p n=0)
 else if(AC p.zY n).w=1 then BZ (AC p.zY n).a 0 11&&decide (Bt p n=IB (AC p.zY n).a)&&F3 p.zV.zZ (AC p.zY n).a.toNat
 else if(AC p.zY n).w=2 then BZ (AC p.zY n).a 0 15&&!(AG p.swap (AC p.zY n).a.toNat).isEmpty&&!(AC p.zY n).u&&decide (Bt p n=0)
 else false
def Cz(s:Nat)(x:Bo):Bool:=decide (x.w=2)&&decide (x.a=(s:Int))
def Cb(zY:List Bo)(s:Nat):Nat:=zY.countP (Cz s)
def D6(p:AR)(s:Nat):Bool:=decide (Cb p.zY s=if(AG p.swap s).isEmpty then 0 else 1)
def Gm(k:AO):Bool:=By (A7 k 0) gA&&!By (A7 k 1) gA&&!By (A7 k 2) gA
def OK(w:Int)(x:Bo):Bool:=decide (x.w=w)
def Aj(zY:List Bo)(w:Int):Nat:=zY.countP (OK w)
def BI(p:AR):Bool:=
 Cr p.zV&&FM p.swap&&Gm p.zV&&Bv p&&decide (p.zY.length=16)&&(yC 16).all (D6 p)&&(yC 16).all (GZ p)&&BZ p.zR 0 15&&BZ p.zU 1 6&&decide ((Aj p.zY 1:Int)<=p.zU)
def Ag(kind a b c:Int):Ac:=⟨kind,0,a,b,c,gA⟩
def Ig(p:AR)(n:Nat)(w:Int):Ac:=Ag 6 (BO p.low (n/4)) ((n%4:Nat):Int) w
def Em(h:Int):Int:=(h+1)%16
def Nk(x:Bo):Bo:= {x with u:=false}
def Cd:Nat->List Bo->Int->List Bo×Int×Option Nat
 |0,zY,zR=>(zY,zR,none)
 |n+1,zY,zR=>
  if(AC zY zR.toNat).w=1/\(AC zY zR.toNat).u=false then(zY,Em zR,some zR.toNat)
  else Cd n (zY.set zR.toNat (Nk (AC zY zR.toNat))) (Em zR)
def Bd(s:List (List Int)):Int:=if s.any ui then(s.findIdx ui:Nat) else -1
def Ea(p:AR)(n:Nat):AR:=
 {p with zV:=(Ae (Ae p.zV (Ig p n 0)).1 (Ag 2 (AC p.zY n).a 0 0)).1,swap:=p.swap.set (Bd p.swap).toNat (AG p.zV.mem (AC p.zY n).a.toNat),zY:=p.zY.set n ⟨2,Bd p.swap,false⟩}
def VS(k:AO)(f:Int)(ws:List Int):AO:=(yC 4).foldl (λk i=>(Ae k (Ag 3 f (i:Nat) (ws.getD i 0))).1) k
def PL(p:AR)(n:Nat):AR×Bool:=
 let r:=Ae p.zV (Ag 1 0 0 0)
 if r.2.2≠0 then(p,false)
 else
  let x:=AC p.zY n
  let k2:=if x.w=2 then VS r.1 r.2.1 (AG p.swap x.a.toNat) else r.1
  ({p with zV:=(Ae k2 (Ig p n (IB r.2.1))).1,swap:=if x.w=2 then p.swap.set x.a.toNat [] else p.swap,zY:=p.zY.set n ⟨1,r.2.1,true⟩},true)
def FO(zY:List Bo)(n:Nat):List Bo:=zY.set n {AC zY n with u:=true}
def Ir(p:AR):Bool:=decide (Am p.zV.zZ<0)||decide ((Aj p.zY 1:Int)=p.zU)
def BN(p:AR)(n:Nat):AR×Bool:=
 if(AC p.zY n).w=1 then({p with zY:=FO p.zY n},true)
 else if Am p.zV.zZ<0/\Aj p.zY 1=0 then(p,false)
 else if Ir p then
  match Cd 32 p.zY p.zR with
  |(zY,zR,some m)=>PL (Ea {p with zY:=zY,zR:=zR} m) n
  |(_,_,none)=>(p,false)
 else PL p n
def IN(p:AR)(a:Nat):AR×Int×Bool:=
 let t:=BN p (a/4)
 if t.2 then({t.1 with zV:=(Ae t.1.zV (Ag 10 (a:Int) 0 0)).1},(Ae t.1.zV (Ag 10 (a:Int) 0 0)).2.1,true) else(t.1,0,false)
def GR(p:AR)(a:Nat)(w:Int):AR×Bool:=
 let t:=BN p (a/4)
 if t.2 then({t.1 with zV:=(Ae t.1.zV (Ag 11 (a:Int) w 0)).1},true) else(t.1,false)
def OP(p:AR)(c:Ac):AR×Int:=({p with zV:=(Ae p.zV c).1},(Ae p.zV c).2.2)
def Dx(p:AR)(a:Nat):Int:=
 if(AC p.zY (a/4)).w=1 then As p.zV.mem (AC p.zY (a/4)).a.toNat (a%4)
 else if(AC p.zY (a/4)).w=2 then As p.swap (AC p.zY (a/4)).a.toNat (a%4) else 0
def LI(zZ:List AV)(f:Nat):Prop:=(zS zZ f).g=gA/\(zS zZ f).r=1
theorem Sm{zZ:List AV}:F3 zZ f=true↔LI zZ f:=by simp[F3,LI]
def Kl(p:AR)(n:Nat):Prop:=
 ((AC p.zY n).w=0/\(AC p.zY n).a=0/\(AC p.zY n).u=false/\Bt p n=0)∨
 ((AC p.zY n).w=1/\(0<=(AC p.zY n).a/\(AC p.zY n).a<=11)/\Bt p n=IB (AC p.zY n).a/\LI p.zV.zZ (AC p.zY n).a.toNat)∨
 ((AC p.zY n).w=2/\(0<=(AC p.zY n).a/\(AC p.zY n).a<=15)/\AG p.swap (AC p.zY n).a.toNat≠[]/\(AC p.zY n).u=false/\Bt p n=0)
theorem JS{α:Type}{l:List α}:l.isEmpty=true↔l=[]:=tR
theorem Wj{p:AR}{n:Nat}:GZ p n=true↔Kl p n:=by
 unfold GZ Kl
 by_cases h0:(AC p.zY n).w=0
 .simp[h0,and_assoc]
 .by_cases J:(AC p.zY n).w=1
  .simp[J,and_assoc,AZ,Sm]
  .by_cases O:(AC p.zY n).w=2
   .simp[O,and_assoc,AZ]
   .simp[h0,J,O]
structure Du(p:AR):Prop where
 k:DQ p.zV
 zD:p.swap.length=16
 zv:∀s,s<16->AG p.swap s=[]∨Ds (AG p.swap s)=true
 may:By (A7 p.zV 0) gA=true
 alone:∀e,1<=e->e<3->By (A7 p.zV e) gA=false
 root:0<=Ab p.zV 0
 zt:p.low.length=4
 yM:LI p.zV.zZ (Ab p.zV 0).toNat
 lows:∀i,i<4->0<=BO p.low i/\BO p.low i<=11/\As p.zV.mem (Ab p.zV 0).toNat i=IB (BO p.low i)/\LI p.zV.zZ (BO p.low i).toNat
 zO:p.zY.length=16
 slots:∀s,s<16->Cb p.zY s=if(AG p.swap s).isEmpty then 0 else 1
 zY:∀n,n<16->Kl p n
 zR:0<=p.zR/\p.zR<=15
 zU:1<=p.zU/\p.zU<=6
 count:(Aj p.zY 1:Int)<=p.zU
theorem GT{s:List (List Int)}:FM s=true↔s.length=16/\∀i,i<16->AG s i=[]∨Ds (AG s i)=true:=by
 simp only[FM,yu,xZ,decide_eq_true_eq,xE,JS];constructor
 .rintro⟨J,O⟩
  exact⟨O,λf N=>J _ (DT (by omega))⟩
 .rintro⟨J,O⟩
  refine⟨λr hr=>?_,J⟩;obtain⟨i,A,rfl⟩:=Iv (d:=[]) hr;exact O i (by omega)
theorem Ca{p:AR}:BI p=true↔Du p:=by
 unfold BI Bv Gm;simp only[yu,MI,Wj,AZ,decide_eq_true_eq,El,GT,D6,Fk,Sm,uj];constructor
 .rintro⟨⟨⟨⟨⟨⟨⟨⟨⟨J,O⟩,h3⟩,h4⟩,h5⟩,h6⟩,h7⟩,h8⟩,h9⟩,h10⟩
  obtain⟨⟨⟨a,b⟩,c⟩,d⟩:=h4;refine⟨J,O.1,O.2,h3.1.1,λe he gS=>?_,a,b,c,λi A=>?_,h5,h6,h7,h8,h9,h10⟩
  .have:e=1∨e=2:=by omega
   rcases this with rfl|rfl
   .exact h3.1.2
   .exact h3.2
  .obtain⟨⟨x,y⟩,hk⟩:=d i A
   exact⟨x.1,x.2,y,hk⟩
 .intro h
  exact⟨⟨⟨⟨⟨⟨⟨⟨⟨h.k,h.zD,h.zv⟩,⟨h.may,h.alone 1 (by omega) (by omega)⟩,h.alone 2 (by omega) (by omega)⟩,⟨⟨h.root,h.zt⟩,h.yM⟩,λi A=>by obtain⟨x,y,hk,u⟩:=h.lows i A;exact⟨⟨⟨x,y⟩,hk⟩,u⟩⟩,h.zO⟩,h.slots⟩,h.zY⟩,h.zR⟩,h.zU⟩,h.count⟩
theorem Gz{f:Int}(h0:0<=f)(J:f<=11):Bm (IB f)=true/\BC (IB f)=f.toNat/\Ko (IB f)=true:=by unfold Bm BC Ko IB;simp only[yu,decide_eq_true_eq];refine⟨⟨⟨?_,?_⟩,?_⟩,?_,?_⟩<;>omega
theorem XC{n a b:Nat}(ha:a<n)(Y:b<n)(a8:a≠b)(J:1<=F a)(O:1<=F b):2<=((yC n).map F).sum:=by
 have e1:=ML (F:=F) (G:=λt=>if t=a then 0 else F t) ha (λt _ a8=>by simp[a8]);have e2:=ML (F:=λt=>if t=a then 0 else F t) (G:=λt=>if t=b then 0 else if t=a then 0 else F t) Y (λt _ a8=>by simp[a8]);have d4:¬b=a:=λe=>a8 e.symm
 simp only[if_true,d4,if_false] at e1 e2;omega
theorem QS{n a:Nat}(ha:a<n):F a<=((yC n).map F).sum:=by
 have e1:=ML (F:=F) (G:=λt=>if t=a then 0 else F t) ha (λt _ a8=>by simp[a8]);simp only[if_true] at e1;omega
theorem Xp{p:Int->Bool}{i j:Nat}(A:i<r.length)(D:j<r.length)(a8:i≠j)(J:p (r.getD i 0)=true)(O:p (r.getD j 0)=true):2<=r.countP p:=by
 induction r generalizing i j with
 |nil=>simp at A
 |cons x r ih=>
  rw[wZ];cases i with
  |zero=>
   cases j with
   |zero=>omega
   |succ j=>simp at J O D;have:0<r.countP p:=uy.2 ⟨_,DT (d:=0) D,by simpa using O⟩;rw[if_pos (by simpa using J)];omega
  |succ i=>
   cases j with
   |zero=>simp at J O A;have:0<r.countP p:=uy.2 ⟨_,DT (d:=0) A,by simpa using J⟩;rw[if_pos (by simpa using O)];omega
   |succ j=>have:=ih (i:=i) (j:=j) (by simpa using A) (by simpa using D) (by omega) (by simpa using J) (by simpa using O);omega
section
variable {k:AO} (h:DQ k)
include h
theorem DQ.yN{i:Nat}(ht:t<12)(cy:Bh (Ay k t)=true)(A:i<4)(hn:Dm f (As k.mem t i)=true):1<=L8 k.mem k.zZ f t:=by unfold L8;unfold Ay at cy;rw[if_pos cy,J8];exact uy.2 ⟨_,DT (d:=0) (by rw[h.row ht];exact A),hn⟩
theorem DQ.once{i t' i':Nat}(N:f<12)(J:(zS k.zZ f).r=1)(ht:t<12)(cy:Bh (Ay k t)=true)(A:i<4)(hn:Dm f (As k.mem t i)=true)
 (gw:t'<12)(dU:Bh (Ay k t')=true)(fn:i'<4)(gF:Dm f (As k.mem t' i')=true):t=t'/\i=i':=by
 have hr:=h.refs f N;have H:countP k.mem k.zZ f<=1:=by omega
 rw[Ei] at H
 by_cases e:t=t'
 .subst e
  refine⟨rfl,?_⟩
  by_cases e:i=i'
  .exact e
  .exfalso
   have O:2<=L8 k.mem k.zZ f t:=by unfold L8;unfold Ay at cy;rw[if_pos cy,J8];exact Xp (by rw[h.row ht];exact A) (by rw[h.row ht];exact fn) e hn gF
   have:=QS (F:=L8 k.mem k.zZ f) ht;omega
 .exfalso
  have:=XC (F:=L8 k.mem k.zZ f) ht gw e (h.yN ht cy A hn) (h.yN gw dU fn gF);omega
theorem DQ.zb{i e:Nat}(N:f<12)(J:(zS k.zZ f).r=1)(ht:t<12)(cy:Bh (Ay k t)=true)(A:i<4)(hn:Dm f (As k.mem t i)=true)(he:e<3):Ab k e≠(f:Int):=by
 intro hr;have eU:=h.refs f N;have O:=QS (F:=L8 k.mem k.zZ f) ht;have h3:=h.yN ht cy A hn;rw[<-Ei] at O;rw[Hh h.zN] at eU;unfold Ab at hr;have:e=0∨e=1∨e=2:=by omega
 unfold EN at eU
 rcases this with rfl|rfl|rfl<;>simp[hr] at eU<;>split at eU<;>(try split at eU)<;>omega
theorem DQ.named_at{g:Nat}(ht:t<12)(Z:g∈Go.Proofs.YtpdjjjdkhedibaaGreatDoor.named (AG k.mem t)):∃i,i<4/\Dm g (As k.mem t i)=true:=by obtain⟨w,hw,J,O⟩:=FY.1 Z;obtain⟨i,A,rfl⟩:=Iv (d:=0) hw;rw[h.row ht] at A;exact⟨i,A,by simp only[Dm,As,yu];exact⟨J,decide_eq_true O⟩⟩
end
section
variable {p:AR} (h:Du p)
include h
theorem Du.zA:(Ab p.zV 0).toNat<12/\Ay p.zV (Ab p.zV 0).toNat=3:=h.k.zy (by omega) h.root
theorem Du.zk{i:Nat}(A:i<4):Dm (BO p.low i).toNat (As p.zV.mem (Ab p.zV 0).toNat i)=true:=by obtain⟨a,b,c,_⟩:=h.lows i A;obtain⟨x,y,_⟩:=Gz a b;rw[c];simp[Dm,x,y]
theorem Du.zK{i:Nat}(A:i<4):(BO p.low i).toNat<12/\Ay p.zV (BO p.low i).toNat=2:=by obtain⟨a,b,c,_⟩:=h.lows i A;obtain⟨x,y,_⟩:=Gz a b;have hm:=Jx (m:=p.zV.mem) (f:=(Ab p.zV 0).toNat) (i:=i) (by rw[c];exact x);rw[c,y] at hm;exact h.k.zK (by omega) h.root hm
theorem Du.yS{i j:Nat}(A:i<4)(D:j<4)(e:(BO p.low i).toNat=(BO p.low j).toNat):i=j:=by have hr:=h.zA;have hl:=h.zK A;have J:=h.zk A;have O:=h.zk D;rw[<-e] at O;exact(h.k.once hl.1 (h.lows i A).2.2.2.2 hr.1 (by rw[hr.2];rfl) A J hr.1 (by rw[hr.2];rfl) D O).2
theorem Du.zG{n:Nat}(hn:n<16)(hw:(AC p.zY n).w=1):Dm (AC p.zY n).a.toNat (Bt p n)=true/\(0<=(AC p.zY n).a/\(AC p.zY n).a<=11)/\LI p.zV.zZ (AC p.zY n).a.toNat:=by
 rcases h.zY n hn with⟨a,_⟩|⟨_,b,c,d⟩|⟨a,_⟩
 .omega
 .obtain⟨x,y,_⟩:=Gz b.1 b.2
  refine⟨?_,b,d⟩;rw[c];simp[Dm,x,y]
 .omega
theorem Du.zH{n:Nat}(hn:n<16)(hw:(AC p.zY n).w=1):(AC p.zY n).a.toNat<12/\Ay p.zV (AC p.zY n).a.toNat=1:=by
 obtain⟨a,b,_⟩:=h.zG hn hw;have hl:=h.zK (i:=n/4) (by omega);have ha:Bm (Bt p n)=true/\BC (Bt p n)=(AC p.zY n).a.toNat:=by simpa[Dm] using a
 have hm:=Jx (m:=p.zV.mem) (f:=(BO p.low (n/4)).toNat) (i:=n%4) ha.1;have:=h.k.named hl.1 (by rw[hl.2];rfl) hm;have e:BC (As p.zV.mem (BO p.low (n/4)).toNat (n%4))=(AC p.zY n).a.toNat:=ha.2;rw[e] at this;exact⟨this.1,by omega⟩
theorem Du.yZ{n m:Nat}(hn:n<16)(hm:m<16)(hw:(AC p.zY n).w=1)(hM:(AC p.zY m).w=1)(e:(AC p.zY n).a.toNat=(AC p.zY m).a.toNat):n=m:=by obtain⟨a,b,c⟩:=h.zG hn hw;obtain⟨a',_,_⟩:=h.zG hm hM;rw[<-e] at a';have hl:=h.zK (i:=n/4) (by omega);have bB:=h.zK (i:=m/4) (by omega);have z:=h.zH hn hw;have:=h.k.once z.1 c.2 hl.1 (by rw[hl.2];rfl) (i:=n%4) (by omega) a bB.1 (by rw[bB.2];rfl) (i':=m%4) (by omega) a';have:=h.yS (by omega) (by omega) this.1;omega
end
theorem bh{k:AO}(h:By (A7 k 0) gA=true){g:ByteArray}(Z:g=gA):Fl k 0 g=true:=by subst Z;exact h
theorem Mk{k:AO}{kind a b c:Int}(J:2<=kind)(h6:kind<=6)(eC:0<=a)(ha:a<=11)(z:Ay k a.toNat≠0)(h4:kind≠4)(hm:By (A7 k 0) gA=true)(Z:(zS k.zZ a.toNat).g=gA):
 Ae k (Ag kind a b c)=if kind=2 then KR k (Ag kind a b c) else if kind=3 then Kb k (Ag kind a b c) else if kind=5 then ET k (Dz k.mem k.zZ a.toNat) else H7 k (Ag kind a b c):=by
 have e1:¬(Ag kind a b c).k=1:=by show ¬kind=1;omega
 have e2:BZ (Ag kind a b c).k 2 6=true:=AZ.2 ⟨J,h6⟩;have e3:¬(BZ (Ag kind a b c).a 0 11=false∨(zS k.zZ (Ag kind a b c).a.toNat).k=0∨((Ag kind a b c).k=4/\Bh (Ag kind a b c).b=false)):=by
  rintro(x|x|x)
  .rw[show BZ (Ag kind a b c).a 0 11=true from AZ.2 ⟨eC,ha⟩] at x;cases x
  .exact z x
  .exact h4 x.1
 have e4:¬Fl k (Ag kind a b c).e (zS k.zZ (Ag kind a b c).a.toNat).g=false:=by rw[show Fl k (Ag kind a b c).e (zS k.zZ (Ag kind a b c).a.toNat).g=true from bh hm Z];simp
 unfold Ae Gt;rw[if_neg e1,if_pos e2,if_neg e3,if_neg e4]
 show(if kind=2 then _ else if kind=3 then _ else if kind=4 then _ else if kind=5 then _ else _)=_
 rw[if_neg h4];rfl
def Ic(k:AO)(t b:Nat)(w:Int):AO:= {k with mem:=Bz k.mem t b w,zZ:=A5 (A5 k.zZ (As k.mem t b) (-1)) w 1,zW:=(Fo k t).foldl (λc e=>GJ c (e:Nat)) k.zW}
theorem VX{k:AO}(h:DQ k)(hm:By (A7 k 0) gA=true)(fd:∀e,1<=e->e<3->By (A7 k e) gA=false){a:Int}(eC:0<=a)(ha:a<=11)(fH:Ay k a.toNat=2)(Z:(zS k.zZ a.toNat).g=gA){b:Nat}(Y:b<4){w:Int}
 (hw:w=0∨∃f,0<=f/\f<=11/\w=IB f/\Ay k f.toNat=1/\(zS k.zZ f.toNat).g=gA):Ae k (Ag 6 a b w)=(Ic k a.toNat b w,0,0):=by
 rw[Mk (by omega) (by omega) eC ha (by omega) (by omega) hm Z,if_neg (by omega),if_neg (by omega),if_neg (by omega)];have N:Dt k (Ag 6 a b w)=true:=by
  unfold Dt
  show(if Bm w then decide ((zS k.zZ (BC w)).k=(zS k.zZ a.toNat).k - 1) else decide (w=0))=true
  rcases hw with rfl|⟨f,f0,f1,rfl,fk,fg⟩
  .simp[Bm]
  .obtain⟨x,y,_⟩:=Gz f0 f1
   rw[if_pos x,y];unfold Ay at fk fH;rw[fk,fH];rfl
 have e1:¬(Bh (zS k.zZ (Ag 6 a b w).a.toNat).k=false∨BZ (Ag 6 a b w).b 0 3=false∨Dt k (Ag 6 a b w)=false):=by
  rintro(x|x|x)
  .have:Bh (zS k.zZ (Ag 6 a b w).a.toNat).k=true:=II.2 (.inl fH)
   rw[this] at x;cases x
  .rw[show BZ (Ag 6 a b w).b 0 3=true from AZ.2 ⟨by show(0:Int)<=(b:Int);omega,by show(b:Int)<=3;omega⟩] at x;cases x
  .rw[N] at x;cases x
 have cm:∀g,g∈DY k w->(zS k.zZ g).g=gA:=by
  intro g Z
  rcases hw with rfl|⟨f,f0,f1,rfl,fk,fg⟩
  .simp[DY,Bm] at Z
  .obtain⟨x,y,_⟩:=Gz f0 f1
   unfold DY at Z;rw[if_pos x,y] at Z;unfold Ay at fk;rw[if_neg (by rw[fk];decide)] at Z;simp at Z;rw[Z];exact fg
 have e2:¬(Fo k (Ag 6 a b w).a.toNat).all (λe=>BM k.zZ (DY k (Ag 6 a b w).c) (AJ k.zX e).zT)=false:=by
  rw[wL,xZ];intro e he;rw[GG];intro g dc;obtain⟨u1,u2⟩:=OZ.1 he;rw[cm g dc]
  rcases wj e with h0|h0
  .rw[h0];exact hm
  .have:=h.allow e u1 _ u2
   rw[show(zS k.zZ (Ag 6 a b w).a.toNat).g=gA from Z,fd e h0 u1] at this;cases this
 have e3:¬(Bm (Ag 6 a b w).c=true/\Fl k (Ag 6 a b w).e (zS k.zZ (BC (Ag 6 a b w).c)).g=false):=by rintro⟨x,y⟩;have x':Bm w=true:=x;have y':Fl k 0 (zS k.zZ (BC w)).g=false:=y;rw[bh hm (cm (BC w) (by unfold DY;rw[if_pos x'];exact we ..))] at y';cases y'
 unfold H7;rw[if_neg e1,if_neg e2,if_neg e3];rfl
theorem Xy{k:AO}(hm:By (A7 k 0) gA=true){a b c:Int}(eC:0<=a)(ha:a<=11)(z:Ay k a.toNat=1)(Z:(zS k.zZ a.toNat).g=gA)(hr:(zS k.zZ a.toNat).r=0):
 Ae k (Ag 2 a b c)=({k with zZ:=k.zZ.set a.toNat AV.zero},0,0):=by
 rw[Mk (by omega) (by omega) eC ha (by omega) (by omega) hm Z,if_pos rfl];unfold KR;rw[if_neg (by show ¬(zS k.zZ a.toNat).k≠1;unfold Ay at z;omega),if_neg (by show ¬(zS k.zZ a.toNat).r≠0;omega)];rfl
theorem YQ{k:AO}(hm:By (A7 k 0) gA=true){a w:Int}(eC:0<=a)(ha:a<=11)(z:Ay k a.toNat=1)(Z:(zS k.zZ a.toNat).g=gA){i:Nat}(A:i<4)(hw:Dk w=true):
 Ae k (Ag 3 a i w)=({k with mem:=Bz k.mem a.toNat i w},0,0):=by
 rw[Mk (by omega) (by omega) eC ha (by omega) (by omega) hm Z,if_neg (by omega),if_pos rfl];unfold Kb;rw[if_neg]
 .rfl
 .rintro(x|x|x)
  .exact x z
  .rw[show BZ (Ag 3 a i w).b 0 3=true from AZ.2 ⟨by show(0:Int)<=(i:Int);omega,by show(i:Int)<=3;omega⟩] at x;cases x
  .rw[show Dk (Ag 3 a i w).c=true from hw] at x;cases x
theorem MM{k:AO}(hm:By (A7 k 0) gA=true)(N:0<=Am k.zZ){a b c:Int}:
 Ae k (Ag 1 a b c)=({k with zZ:=k.zZ.set (Am k.zZ).toNat ⟨1,gA,0⟩,mem:=k.mem.set (Am k.zZ).toNat [0,0,0,0]},Am k.zZ,0):=by
 unfold Ae;rw[if_pos (show(Ag 1 a b c).k=1 from rfl)];unfold JO;rw[if_neg,if_neg,if_neg]
 .rfl
 .omega
 .rw[show Fl k (Ag 1 a b c).e (Ag 1 a b c).nm=true from bh hm rfl];simp
 .rw[show BV (Ag 1 a b c).nm=true from(by decide:BV gA=true)];simp
theorem Oe{α:Type}{q:α->Bool}{l:List α}{n:Nat}{y d:α}(hn:n<l.length):(l.set n y).countP q+EN (q (l.getD n d))=l.countP q+EN (q y):=by
 induction l generalizing n with
 |nil=>simp at hn
 |cons x r ih=>
  cases n with
  |zero=>simp only[sF,wZ,sR,EN];omega
  |succ n=>simp only[sA,wZ,sQ];have:=ih (n:=n) (by simpa using hn);omega
theorem Dp{l:List Bo}{n m:Nat}{x:Bo}:AC (l.set n x) m=if m=n/\n<l.length then x else AC l m:=Jq
theorem OH{l:List Bo}{n:Nat}{y:Bo}{w:Int}(hn:n<l.length):Aj (l.set n y) w+EN (OK w (AC l n))=Aj l w+EN (OK w y):=Oe hn
theorem Ng{l:List Bo}{n s:Nat}{y:Bo}(hn:n<l.length):Cb (l.set n y) s+EN (Cz s (AC l n))=Cb l s+EN (Cz s y):=Oe hn
theorem YZ(m:Nat)(x:Bo):((yC m).map λs=>EN (Cz s x)).sum<=EN (OK 2 x):=by
 by_cases hw:x.w=2
 .have J:EN (OK 2 x)=1:=by simp[OK,hw,EN]
  rw[J]
  induction m with
  |zero=>simp
  |succ m ih=>
   rw[xt,xC,wI];simp only[vE,uX,uv,uk,xK]
   by_cases ha:x.a=(m:Int)
   .have h0:((yC m).map λs=>EN (Cz s x)).sum=0:=by
     rw[Lv];intro t ht;have:¬x.a=(t:Int):=by omega
     simp[Cz,this,EN]
    rw[h0];unfold EN;split<;>omega
   .have:EN (Cz m x)=0:=by simp[Cz,ha,EN]
    omega
 .have h0:((yC m).map λs=>EN (Cz s x)).sum=0:=by
   rw[Lv];intro t ht;simp[Cz,hw,EN]
  omega
theorem ag{G:Nat->Nat}{n:Nat}:((yC n).map λt=>F t+G t).sum=((yC n).map F).sum+((yC n).map G).sum:=by
 induction n with
 |zero=>rfl
 |succ n ih=>rw[xt,xC,xC,xC,wI,wI,wI,ih];simp;omega
theorem YY(m:Nat)(l:List Bo):((yC m).map λs=>Cb l s).sum<=Aj l 2:=by
 induction l with
 |nil=>
  have:((yC m).map λs=>Cb [] s).sum=0:=by rw[Lv];intro t _;rfl
  omega
 |cons x l ih=>
  have e:∀s,s<m->Cb (x::l) s=Cb l s+EN (Cz s x):=λs _=>by unfold Cb EN;rw[wZ]
  rw[Ke e,ag];have e2:Aj (x::l) 2=Aj l 2+EN (OK 2 x):=by unfold Aj EN;rw[wZ]
  have:=YZ m x;have iA:((yC m).map (Cb l)).sum<=Aj l 2:=ih;omega
theorem count_le{l:List Bo}{n:Nat}(hn:n<l.length){w:Int}(hw:(AC l n).w≠w):Aj l w+1<=l.length:=by
 have J:=OH (y:=⟨w,0,false⟩) (w:=w) hn;have O:Aj (l.set n ⟨w,0,false⟩) w<=(l.set n ⟨w,0,false⟩).length:=vW;rw[xP] at O;have h3:EN (OK w (AC l n))=0:=by simp[OK,hw,EN]
 have h4:EN (OK w ⟨w,0,false⟩)=1:=by simp[OK,EN]
 omega
theorem Ra{s:List (List Int)}(h:∃i,i<s.length/\AG s i=[]):0<=Bd s/\(Bd s).toNat<s.length/\AG s (Bd s).toNat=[]:=by obtain⟨i,A,he⟩:=h;have ha:s.any ui=true:=L7.2 ⟨_,DT (d:=[]) A,by unfold AG at he;rw[he];rfl⟩;unfold Bd;rw[if_pos ha];have hl:s.findIdx ui<s.length:=vM.2 (L7.1 ha);refine⟨by omega,by simpa using hl,?_⟩;have:=vC (w:=hl);unfold AG;simpa[hl] using this
theorem Du.slot{p:AR}(h:Du p){n:Nat}(hn:n<16)(hw:(AC p.zY n).w≠2):0<=Bd p.swap/\(Bd p.swap).toNat<16/\AG p.swap (Bd p.swap).toNat=[]:=by
 rw[<-h.zD];refine Ra (Classical.byContradiction λhX=>?_);have J:∀s,s<16->Cb p.zY s=1:=by
  intro s K;have:=h.slots s K;rw[if_neg] at this
  .exact this
  .intro he
   exact hX ⟨s,by rw[h.zD];exact K,JS.1 he⟩
 have O:=YY 16 p.zY;rw[Ke J] at O;have h3:=count_le (l:=p.zY) (n:=n) (by rw[h.zO];exact hn) hw;rw[h.zO] at h3;have h4:((yC 16).map λ_=>1).sum=16:=by decide
 omega
theorem OQ{p:AR}(h:Du p){n:Nat}(hn:n<16)(hw:(AC p.zY n).w=1):
 (Ea p n).zV= {Ic p.zV (BO p.low (n/4)).toNat (n%4) 0 with zZ:=(Ic p.zV (BO p.low (n/4)).toNat (n%4) 0).zZ.set (AC p.zY n).a.toNat AV.zero}:=by
 have hl:=h.lows (n/4) (by omega);have fm:=h.zK (i:=n/4) (by omega);obtain⟨f1,f2,f3⟩:=h.zG hn hw;have fk:=h.zH hn hw;unfold Ea Ig;rw[VX h.k h.may h.alone hl.1 hl.2.1 fm.2 hl.2.2.2.1 (by omega) (.inl rfl)];have hZ:Dm (AC p.zY n).a.toNat (As p.zV.mem (BO p.low (n/4)).toNat (n%4))=true:=f1;have bC:zS (Ic p.zV (BO p.low (n/4)).toNat (n%4) 0).zZ (AC p.zY n).a.toNat= {zS p.zV.zZ (AC p.zY n).a.toNat with r:=0}:=by
  unfold Ic
  show zS (A5 (A5 p.zV.zZ (As p.zV.mem (BO p.low (n/4)).toNat (n%4)) (-1)) 0 1) _=_
  rw[Fa (by rw[Cl];exact h.k.len),Fa h.k.len,hZ,f3.2];simp[Dm,Bm,EN]
 rw[Xy (k:=Ic p.zV (BO p.low (n/4)).toNat (n%4) 0) h.may f2.1 f2.2]
 .show(zS (Ic p.zV (BO p.low (n/4)).toNat (n%4) 0).zZ (AC p.zY n).a.toNat).k=1
  rw[bC];exact fk.2
 .rw[bC];exact f3.1
 .rw[bC]
theorem Qo{b i:Nat}{w:Int}(ht:t<m.length)(Y:b<(AG m t).length):As (Bz m t b w) f i=if f=t/\i=b then w else As m f i:=by
 unfold As;rw[Hj]
 by_cases e:f=t
 .subst e
  rw[if_pos ⟨rfl,ht⟩,Jq]
  by_cases e2:i=b
  .simp[e2,Y]
  .simp[e2]
 .simp[e]
theorem Uh{P:Program}{f:FuncId}{al:Array Value}{v:Value}(h:∀w',Below w1.heap.size w1 w'->Calls P f al w' λe cx=>e=.returned v/\Below w'.heap.size w' cx):
 ∀d os,Calls P f al (vp (redrawn w1 d) os) λe cx=>e=.returned v/\∃p:Regrown,cx=vp (redrawn w1 p.d) p.os:=λd os=>Calls.regrown_of (h _ (below_regrown w1 d os))
theorem Xg{P:Program}{f:FuncId}{al:Array Value}{v:Value}(h:∀w',Calls P f al w' λe cx=>e=.returned v/\w'=cx):
 ∀d os,Calls P f al (vp (redrawn w1 d) os) λe cx=>e=.returned v/\∃p:Regrown,cx=vp (redrawn w1 p.d) p.os:=Uh λw' _=>(h w').mono λe cx ⟨he,hw⟩=>⟨he,hw▸yD _ _⟩
theorem BJ{P:Program}{f:FuncId}{al:Array Value}{w:World}{v:Value}(h:Calls P f al w λe w'=>e=.returned v/\w=w'):Calls P f al w λe w'=>e=.returned v/\Below w.heap.size w w':=h.mono λe cx ⟨he,hw⟩=>⟨he,hw▸yD _ _⟩
theorem UG{P:Program}{f:FuncId}{al:Array Value}{w:World}{v:Value}(h:Calls P f al w λe w'=>e=.returned v/\∃n,w'=w.drewN n):Calls P f al w λe w'=>e=.returned v/\Below w.heap.size w w':=
 h.mono λe cx ⟨he,n,hw⟩=>⟨he,hw▸Av (yD _ _) n⟩
theorem OT{a b:Value}(h:a=b):Ending.returned a=.returned b:=by rw[h]
section
variable {w:World} {a:Option Addr}
theorem TM.zP{xs:List AV}(h:TM 3 A3 w a xs){k:Nat}(z:k<xs.length):∃b X,a=some ⟨b,X,none⟩/\b<w.heap.size/\w.cell? ⟨b,X+k*3,none⟩=some (.int .i64 (zS xs k).k)/\w.cell? ⟨b,X+k*3+1,none⟩=some (.string (zS xs k).g)/\w.cell? ⟨b,X+k*3+2,none⟩=some (.int .i64 (zS xs k).r):=by obtain⟨b,X,rfl,am,H⟩:=h k (zS xs k) (by simp[zS,z]);exact⟨b,X,rfl,am,H 0 _ rfl,H 1 _ rfl,H 2 _ rfl⟩
theorem TM.zL{xs:List Ad}(h:TM 4 AU w a xs){k:Nat}(z:k<xs.length):∃b X,a=some ⟨b,X,none⟩/\b<w.heap.size/\w.cell? ⟨b,X+k*4,none⟩=some (.int .i64 (AT xs k).e)/\w.cell? ⟨b,X+k*4+1,none⟩=some (.int .i64 (AT xs k).p)/\w.cell? ⟨b,X+k*4+2,none⟩=some (.int .i64 (AT xs k).f)/\w.cell? ⟨b,X+k*4+3,none⟩=some (.bool (AT xs k).w):=by obtain⟨b,X,rfl,am,H⟩:=h k (AT xs k) (by simp[AT,z]);exact⟨b,X,rfl,am,H 0 _ rfl,H 1 _ rfl,H 2 _ rfl,H 3 _ rfl⟩
end
theorem JD.cellAt{w:World}{a:Option Addr}{xs:List Int}(h:JD w a xs){k:Nat}(z:k<xs.length):∃b X,a=some ⟨b,X,none⟩/\b<w.heap.size/\w.cell? ⟨b,X+k,none⟩=some (.int .i64 (nth xs k)):=by obtain⟨b,X,rfl,H⟩:=h.at z;exact⟨b,X,rfl,yA w _ H,H⟩
def LM(w:World)(a:Option Addr)(m:List (List Int)):Prop:=∀f,f<m.length->∃b X u,a=some ⟨b,X,none⟩/\b<w.heap.size/\w.cell? ⟨b,X+f,none⟩=some u/\Ax w u (AG m f)
theorem Bk.open{w:World}{v:Value}(h:Bk w v m):∃a V,v=.slice a m.length V/\m.length<=V/\V<=maxLen/\LM w a m:=by
 obtain⟨vs,J,O⟩:=h;obtain⟨a,V,rfl,H,aq,hc⟩:=BK.open ER (by decide) J;refine⟨a,V,by rw[O.1],by rw[<-O.1];exact H,aq,λf N=>?_⟩;have hv:f<vs.length:=by rw[O.1];exact N
 obtain⟨b,X,rfl,am,ax⟩:=hc f _ (yw hv);refine⟨b,X,vs[f],rfl,am,by simpa using ax 0 _ rfl,O.2 f _ _ (yw hv) ?_⟩;unfold AG;exact A2 N
theorem LM.below{w w':World}{a:Option Addr}(h:LM w a m)(Y:Below w.heap.size w w'):LM w' a m:=by intro f N;obtain⟨b,X,u,rfl,am,H,hr⟩:=h f N;exact⟨b,X,u,rfl,xW am Y.size,(Y.cell (p:=⟨b,X+f,none⟩) am).trans H,hr.below Y⟩
theorem Bj{Q:Exit->Act->World->Prop}{a:Act}{w:World}{l:List Oper}
 (h:wpQuiet prog l.toArray (λw'=>∃p:Regrown,w'=vp (redrawn w p.d) p.os) (λa'=>∀w',(∃p:Regrown,w'=vp (redrawn w p.d) p.os)->Q .normal a' w') l a)(hB:Region.lexB .any l.toArray=true:=by kernel_rfl):(vO id l.toArray true).wp prog Q a w:=
 wp_region_quiet_below mixed hB h
theorem Bi{P:Program}{ops:Array Oper}{w:World}{Q:Act->World->Prop}{a:Act}(h:∀wq,Below w.heap.size w wq->Q a wq):wpQuiet P ops (λw'=>∃p:Regrown,w'=vp (redrawn w p.d) p.os) (λa'=>∀w',(∃p:Regrown,w'=vp (redrawn w p.d) p.os)->Q a' w') [] a:=by refine wpQuiet_nil ?_;rintro w' ⟨⟨d,os⟩,rfl⟩;exact h _ (below_regrown w d os)
def TI(w:World)(a:Option Addr)(bs:List Int):Prop:=
 ∀k,k<bs.length->∃b X,a=some ⟨b,X,none⟩/\∀j,j<bs.length->w.cell? ⟨b,X+j,none⟩=some (.int .u8 (nth bs j))/\0<=nth bs j/\nth bs j<256
theorem EP.open{w:World}{v:Value}{xs:List Int}(h:EP w v xs):
 ∃a V,v=.slice a xs.length V/\xs.length<=V/\V<=maxLen/\TI w a xs:=by
 obtain⟨⟨a,V,rfl,bK,aq,hl,_,H⟩,f5⟩:=h;refine⟨a,V,rfl,bK,aq,λk z=>?_⟩;obtain⟨b,X,rfl,ax⟩:=H (by omega);refine⟨b,X,rfl,λj D=>⟨?_,?_⟩⟩
 .rw[ax j (by omega),xm,QR D]
  rfl
 .rw[Mq D]
  exact f5 _ (ud D)
theorem TI.at{w:World}{a:Option Addr}{xs:List Int}(h:TI w a xs){k:Nat}(z:k<xs.length):
 ∃b X,a=some ⟨b,X,none⟩/\w.cell? ⟨b,X+k,none⟩=some (.int .u8 (nth xs k))/\0<=nth xs k/\nth xs k<256:=by
 obtain⟨b,X,rfl,H⟩:=h k z;exact⟨b,X,rfl,H k z⟩
def Ex(w0 w:World)(R:Value)(hf:Nat):Prop:=
 ∃g cu bs,∃p:Nat,R=.pointer (some ⟨g,0,none⟩)/\w0.heap.size<=g/\w.heap[g]?=some (.cells #[cu,.int .i64 p] 101 (0,0))/\EP w0 cu bs/\bs.length<=2000/\p<=hf
theorem XI{ab:Int}(h0:0<=ab)(J:ab<=1000000000):0<=bits .xor .i64 ab (ab/64):=by
 obtain⟨x,rfl⟩:=Int.eq_ofNat_of_zero_le h0;have e:((x:Int)/64)=((x/64:Nat):Int):=by omega
 have ha:x<2 ^ 40:=by omega
 have Y:x/64<2 ^ 40:=by omega
 have f7:x%2 ^ wR.bits=x:=rY (xW ha (by decide));have ef:x/64%2 ^ wR.bits=x/64:=rY (xW Y (by decide));have E:x ^^^ (x/64)<2 ^ 40:=Nat.xor_lt_two_pow ha Y;rw[e];simp only[bits,BitVec.ofInt_natCast,BitVec.toNat_xor,BitVec.toNat_ofNat,f7,ef];rw[xA _ (by omega)];omega
def Vr(w0 w:World)(R:Value)(hf:Nat)(n:Int)(e:Ending)(w':World):Prop:=
 ∃x:Int,e=.returned (.int .i64 x)/\(0<=x/\(0<n->x<n)/\(n<=0->x=0))/\Ex w0 w' R (hf+1)/\Below w0.heap.size w0 w'/\∃g,R=.pointer (some ⟨g,0,none⟩)/\w.grownBy w' (some g)
theorem Ex.stored{w:World}{g p:Nat}{cu:Value}{bs:List Int}{n:Int}(Z:w0.heap.size<=g)(bx:w.heap[g]?=some (.cells #[cu,.int .i64 p] 101 (0,0)))(hr:EP w0 cu bs)(bw:bs.length<=2000)(hp:p<=hf)(Y:Below w0.heap.size w0 w):
 ∀(k:Nat)(x:Int),0<=x->(0<n->x<n)->(n<=0->x=0)->Vr w0 w (.pointer (some ⟨g,0,none⟩)) hf n (.returned (.int .i64 x)) ((w.setCell ⟨g,1,none⟩ (.int .i64 (p+1))).drewN k):=by
 intro k x J O h3;refine⟨x,rfl,⟨J,O,h3⟩,⟨g,cu,bs,p+1,rfl,Z,?_,hr,bw,by omega⟩,Av (Y.setCell Z _) k,g,rfl,?_⟩
 .have:=yq w g 1 #[cu,.int .i64 p] 101 (.int .i64 (p+1)) bx
  simpa using this
 .refine⟨rfl,rfl,rfl,by simp[World.drewN],λb ef a8=>?_⟩
  exact heap_setCell_other w ⟨g,1,none⟩ b _ (λe=>a8 (by simp[e]))
theorem Zf(w0:World)(R:Value)(hf:Nat)(n:Int)(w:World)(h:Ex w0 w R hf)(Y:Below w0.heap.size w0 w)(hN:hf<=1000000)(hn:n<=1000000):
 Calls prog 48 #[R,.int .i64 n] w (Vr w0 w R hf n):=by
 obtain⟨g,cu,bs,p,rfl,Z,bx,hR,bw,hp⟩:=h;have S:=AA (Ex.stored (n:=n) Z bx hR bw hp Y);have c0:w.cell? ⟨g,0,none⟩=some cu:=ym w g 0 _ _ _ bx;have c1:w.cell? ⟨g,1,none⟩=some (.int .i64 p):=ym w g 1 _ _ _ bx;have f1:w.frozen? ⟨g,1,none⟩=false:=frozen_of_row w g 1 _ _ bx;clear bx
 by_cases J:n<1
 .go_in
  go_wp2;go_ret;exact S.out 0 0 (by omega) (by omega) (by omega)
 obtain⟨a,c,hv,H,aq,hA⟩:=hR.open;subst hv;unfold maxLen at aq
 by_cases O:bs.length=0
 .have it:((bs.length:Int)==0)=true:=by simp[O]
  clear O;go_in;go_wp2;go_ret;exact S.out 0 0 (by omega) (by omega) (by omega)
 have it:((bs.length:Int)==0)=false:=by simp[O]
 have ff:0<bs.length:=by omega
 clear O
 by_cases h3:p<bs.length
 .obtain⟨b,X,rfl,D0,ip,bu⟩:=hA.at h3
  have bA:=yA w0 _ D0;have hj:w.cell? ⟨b,X+p,none⟩=some (.int .u8 (nth bs p)):=(Y.cell bA).trans D0;clear D0 hA;have a8:b≠g:=by rintro rfl;simp at bA;omega
  clear bA;go_in;go_wp2;go_ret;exact S.out 0 _ (tQ _ (by omega)) (λ_=>vo _ (by omega)) (by omega)
 .have m1:(p:Int).tmod bs.length=(p:Int)%bs.length:=vS (by omega)
  have m2:0<=(p:Int)%bs.length:=tQ _ (by omega);have m3:(p:Int)%bs.length<bs.length:=vo _ (by omega);have m4:((p:Int)%bs.length).toNat=p%bs.length:=by rw[show(p:Int)%bs.length=((p%bs.length:Nat):Int) from rfl,yd]
  have q1:0<=(p:Int)/bs.length:=Int.ediv_nonneg (by omega) (by omega);have q2:(p:Int)/bs.length<=p:=Int.ediv_le_self _ (by omega);have s1:wR.wrap ((p:Int)*7)=p*7:=xA _ (by omega);have s2:wR.wrap ((p:Int)*7+3)=p*7+3:=xA _ (by omega);have k1:((p:Int)*7+3).tmod bs.length=((p:Int)*7+3)%bs.length:=vS (by omega);have k2:0<=((p:Int)*7+3)%bs.length:=tQ _ (by omega);have k3:((p:Int)*7+3)%bs.length<bs.length:=vo _ (by omega);have k4:(((p:Int)*7+3)%bs.length).toNat=(p*7+3)%bs.length:=by rw[show((p:Int)*7+3)%bs.length=(((p*7+3)%bs.length:Nat):Int) by push_cast;rfl,yd]
  have gJ:p%bs.length<bs.length:=sp _ ff;have gI:(p*7+3)%bs.length<bs.length:=sp _ ff;obtain⟨b,X,rfl,D0,ip,bu⟩:=hA.at gJ;obtain⟨b',de,ee,E0,cq,gU⟩:=hA.at gI;obtain⟨rfl,rfl⟩:b=b'/\X=de:=by simpa using ee
  clear ee hA;have bA:=yA w0 _ D0;have hj:w.cell? ⟨b,X+p%bs.length,none⟩=some (.int .u8 (nth bs (p%bs.length))):=(Y.cell bA).trans D0;have hx:w.cell? ⟨b,X+(p*7+3)%bs.length,none⟩=some (.int .u8 (nth bs ((p*7+3)%bs.length))):=(Y.cell (p:=⟨b,X+(p*7+3)%bs.length,none⟩) bA).trans E0;clear D0 E0;have a8:b≠g:=by rintro rfl;simp at bA;omega
  clear bA;go_in;go_wp2;go_quiet (fail);have x0:0<=nth bs (p%bs.length)*131+nth bs ((p*7+3)%bs.length)*1117+(p:Int)*29+(p:Int)/bs.length*53:=by omega
  have x1:nth bs (p%bs.length)*131+nth bs ((p*7+3)%bs.length)*1117+(p:Int)*29+(p:Int)/bs.length*53<=1000000000:=by omega
  generalize nth bs (p%bs.length)*131+nth bs ((p*7+3)%bs.length)*1117+(p:Int)*29+(p:Int)/bs.length*53=ab at x0 x1 ⊢;go_wp2;go_ret;have y0:=XI x0 (by omega:ab<=1000000000);exact S.out _ _ (Int.tmod_nonneg _ y0) (λia=>by rw[vS y0];exact vo _ ia) (by omega)
def Yq(w:World)(e:Ending)(w':World):Prop:=∃R,e=.returned R/\Ex w w' R 0/\Below w.heap.size w w'
theorem EP.take{w:World}{a:Option Addr}{c:Nat}{bs:List Int}(h:EP w (.slice a bs.length c) bs)(k:Nat)(z:k<=bs.length):EP w (.slice a k c) (bs.take k):=by
 obtain⟨⟨a',V,hv,bK,aq,hl,a6,H⟩,f5⟩:=h;simp only[Value.slice.injEq,true_and] at hv;obtain⟨rfl,rfl⟩:=hv;have e:(bs.take k).length=k:=by rw[xT];omega
 refine⟨⟨a,c,by rw[e],by omega,aq,by simp,a6,λhn=>?_⟩,λb Y=>f5 b (uK Y)⟩;rw[e] at hn ⊢;obtain⟨b,X,rfl,ax⟩:=H (by omega);refine⟨b,X,rfl,λj D=>?_⟩;rw[ax j (by omega),List.map_take,ve,if_pos (by omega)]
theorem Ex.opened{w:World}{cu:Value}{bs:List Int}(h:EP w cu bs)(hl:bs.length<=2000):Yq w (.returned (.pointer (some ⟨w.heap.size,0,none⟩))) (w.alloc (.cells #[cu,.int .i64 0] 101)):=
 ⟨_,rfl,⟨_,cu,bs,0,rfl,yv _,yi w _,h,hl,yv _⟩,(yD _ _).alloc (yv _) _⟩
theorem QH(v:Value)(bs:List Int)(w:World)(h:EP w v bs):
 Calls prog 46 #[v] w (Yq w):=by
 obtain⟨a,c,hv,H,aq,hA⟩:=h.open;subst hv;unfold maxLen at aq
 by_cases hl:bs.length<=2000
 .have S:=AA (Ex.opened h hl)
  have bB:¬(2000<bs.length):=by omega
  clear hl hA;go_in;go_wp2;go_ret;exact S.out
 .have S:=AA (Ex.opened (h.take 2000 (by omega)) (by rw[xT];omega))
  have bB:2000<bs.length:=by omega
  have gI:2000<=c:=by omega
  obtain⟨b,X,rfl,_⟩:=hA.at (k:=0) (by omega);clear hl hA;go_in;go_wp2;go_ret;exact S.out
theorem Ex.lt{w:World}{R:Value}(h:Ex w0 w R hf):∃g,R=.pointer (some ⟨g,0,none⟩)/\g<w.heap.size:=by obtain⟨g,cu,bs,p,rfl,Z,bx,_⟩:=h;exact⟨g,rfl,(wM.1 bx).1⟩
theorem Ex.keep{w w':World}{R:Value}(h:Ex w0 w R hf)(Y:Below w.heap.size w w'):Ex w0 w' R hf:=by obtain⟨g,cu,bs,p,rfl,Z,bx,hr⟩:=h;exact⟨g,cu,bs,p,rfl,Z,(Y.block g (wM.1 bx).1).trans bx,hr⟩
theorem Ex.kept{w w':World}{R:Value}{lo:Nat}(h:Ex w0 w R hf){g:Nat}(hR:R=.pointer (some ⟨g,0,none⟩))(am:g<lo)(Y:Below lo w w'):Ex w0 w' R hf:=by
 obtain⟨g',cu,bs,p,rfl,Z,bx,hr⟩:=h;obtain rfl:g'=g:=by simpa using hR
 exact⟨g',cu,bs,p,rfl,Z,(Y.block g' am).trans bx,hr⟩
theorem Ex.mono{w:World}{R:Value}{M:Nat}(h:Ex w0 w R hf)(hm:hf<=M):Ex w0 w R M:=by obtain⟨g,cu,bs,p,e1,Z,bx,hr,hl,hp⟩:=h;exact⟨g,cu,bs,p,e1,Z,bx,hr,hl,yB hp hm⟩
theorem UF{lo:Nat}{w w':World}{v:Value}{e sz n:Nat}{xs:List Value}{g:Nat}(h:w.ownsRow lo e sz v n xs)(Z:w.grownBy w' (some g))(am:g<lo):w'.ownsRow lo e sz v n xs:=by
 refine vI h Z ?_;cases hv:v.ownBlock with
 |none=>exact .inl rfl
 |some k=>
  have:=(h.lt k hv).1;refine .inr λe=>?_
  simp at e;omega
def Et(w0:World)(lo g hf:Nat)(o:Value)(xs:List Int)(w:World):Prop:=
 g<lo/\lo<=w.heap.size/\w0.heap.size<=lo/\Ex w0 w (.pointer (some ⟨g,0,none⟩)) hf/\Below w0.heap.size w0 w/\AF lo w o xs
theorem Et.pick{w w':World}{lo g:Nat}{o:Value}{xs:List Int}{n:Int}{e:Ending}(h:Et w0 lo g hf o xs w)(hp:Vr w0 w (.pointer (some ⟨g,0,none⟩)) hf n e w'):
 ∃x:Int,e=.returned (.int .i64 x)/\0<=x/\(0<n->x<n)/\Et w0 lo g (hf+1) o xs w'/\w.grownBy w' (some g):=by
 obtain⟨J,O,h3,h4,h5,h6⟩:=h;obtain⟨x,rfl,⟨gr,d7,iC⟩,hr,bu,g1,c7,ea⟩:=hp;obtain rfl:g=g1:=by simpa using c7
 exact⟨x,rfl,gr,d7,⟨J,yB O ea.size,h3,hr,bu,UF h6 ea J⟩,ea⟩
theorem Et.append{w w':World}{lo g:Nat}{o o':Value}{xs:List Int}{x:Int}(h:Et w0 lo g hf o xs w)(Y:Below lo w w')(ho:w'.ownsRow lo 3 1 o' (xs.length+1) (xs.map (xY .i64)++[.int .i64 x])):Et w0 lo g hf o' (xs++[x]) w':=by obtain⟨J,O,h3,h4,h5,h6⟩:=h;refine⟨J,yB O Y.size,h3,h4.kept rfl J Y,h5.trans (Y.mono h3),?_⟩;simpa[AF] using ho
theorem Et.step{w w':World}{lo g:Nat}{o:Value}{xs:List Int}(h:Et w0 lo g hf o xs w)(Y:Below w.heap.size w w'):Et w0 lo g hf o xs w':=by obtain⟨J,O,h3,h4,h5,h6⟩:=h;exact⟨J,yB O Y.size,h3,h4.keep Y,h5.trans (Y.mono (yB h3 O)),h6.below Y⟩
theorem Et.alloc{w:World}{lo g:Nat}{o:Value}{xs:List Int}(h:Et w0 lo g hf o xs w)(ob:Obj):Et w0 lo g hf o xs (w.alloc ob):=h.step ((yD _ _).alloc (yv _) _)
theorem Et.set{w:World}{lo g:Nat}{q V a:Nat}{xs:List Int}{x:Int}(h:Et w0 lo g hf (.slice (some ⟨q,0,none⟩) xs.length V) xs w):Et w0 lo g hf (.slice (some ⟨q,0,none⟩) xs.length V) (xs.set a x) (w.setCell ⟨q,a,none⟩ (.int .i64 x)):=by obtain⟨J,O,h3,h4,h5,h6⟩:=h;have hq:=(h6.lt q rfl).1;have S:=wJ h6 a (.int .i64 x);have Y:Below lo w (w.setCell ⟨q,a,none⟩ (.int .i64 x)):=(yD _ _).setCell hq _;exact⟨J,yB O Y.size,h3,h4.kept rfl J Y,h5.trans (Y.mono h3),aV S.1⟩
theorem Et.mono{w:World}{lo g M:Nat}{o:Value}{xs:List Int}(h:Et w0 lo g hf o xs w)(hm:hf<=M):Et w0 lo g M o xs w:=by obtain⟨J,O,h3,h4,h5,h6⟩:=h;exact⟨J,O,h3,h4.mono hm,h5,h6⟩
theorem Mr{lo:Nat}{w:World}{v:Value}{xs:List Int}(h:AF lo w v xs)(hl:lo'<=lo):AF lo' w v xs:=by
 refine⟨h.1,?_⟩
 rcases h.2 with h'|⟨g,V,bD,rfl,Y,rest⟩
 .exact .inl h'
 .exact .inr ⟨g,V,bD,rfl,yB hl Y,rest⟩
def LD(xs:List Int):Bool:=xs.length==4&&xs.all (BZ · 0 9999)
theorem IU(n:Int)(w:World):
 Calls prog 61 #[.int .i64 n] w λe w'=>e=.returned (.bool (BZ n 0 9999))/\w=w':=by
 go_in;go_wp2_with (go_at_call 56;refine(EC _ _ _ _).mono ?_;rintro e w' ⟨rfl,rfl⟩);go_ret;exact⟨rfl,rfl⟩
theorem Tm(n:Int)(w:World):
 Calls prog 161 #[.int .i64 n] w λe w'=>e=.returned (.bool (!BZ n 0 9999))/\w=w':=by
 go_in;go_wp2_with (go_at_call 61;refine(IU _ _).mono ?_;rintro e w' ⟨rfl,rfl⟩);go_ret;exact⟨rfl,rfl⟩
theorem Vi(xs:List Int):(!xs.any λx=>!BZ x 0 9999)=xs.all (BZ · 0 9999):=by simp[tA]
theorem Oi(v:Value)(xs:List Int)(w:World)(h:Ax w v xs):
 Calls prog 107 #[v] w λe w'=>e=.returned (.bool (LD xs))/\w=w':=by
 obtain⟨a,c,rfl,H,aq,H0⟩:=h.open;unfold maxLen at aq
 by_cases h4:xs.length=4
 .have e1:LD xs=xs.all (BZ · 0 9999):=by simp[LD,h4]
  have Y:((xs.length:Int)==4)=true:=by simp[h4]
  have hc:=AA e1;clear e1;clear h4;go_in;go_wp2_with (go_at_call 152;refine(Nu 161 #[] (λx=>!BZ x 0 9999) _ xs _ h (λ_ _=>by kernel_rfl) (λx w=>Tm x w)).mono ?_;rintro e w' ⟨rfl,rfl⟩);go_ret;exact⟨AH (by rw[hc.out,Vi]),rfl⟩
 .have e1:LD xs=false:=by simp[LD,h4]
  have Y:((xs.length:Int)==4)=false:=by simp;omega
  have hc:=AA e1;clear e1;clear h4;go_in;go_wp2_with fail;go_ret;exact⟨AH hc.out.symm,rfl⟩
structure SJ where
 k:Int
 a:Int
 x:Int
 ck:Int
 ce:Int
 ca:Int
 cb:Int
 cc:Int
 nm:ByteArray
def SJ.cells(s:SJ):Array Value:= #[.int .i64 s.k,.int .i64 s.a,.int .i64 s.x,.int .i64 s.ck,.int .i64 s.ce,.int .i64 s.ca,.int .i64 s.cb,.int .i64 s.cc,.string s.nm]
def SJ.val(s:SJ):Value:=.agg s.cells
def SJ.ok(s:SJ):Bool:=if s.k=1 then BZ s.a 0 63 else if s.k=2 then BZ s.a 0 63&&BZ s.x 0 9999 else if s.k=3 then BZ s.ce 1 2 else false
theorem FJ(n:Int)(w:World):
 Calls prog 28 #[.int .i64 n] w λe w'=>e=.returned (.bool (BZ n 0 63))/\w=w':=by
 go_in;go_wp2_with (go_at_call 56;refine(EC _ _ _ _).mono ?_;rintro e w' ⟨rfl,rfl⟩);go_ret;exact⟨rfl,rfl⟩
theorem Gf(n:Int)(w:World):
 Calls prog 31 #[.int .i64 n] w λe w'=>e=.returned (.bool (BZ n 0 63))/\w=w':=by
 go_in;go_wp2_with (go_at_call 42;refine(C8 _ _ _ _).mono ?_;rintro e w' ⟨rfl,rfl⟩);go_ret;exact⟨rfl,rfl⟩
theorem FD(n:Int)(w:World):Calls prog 99 #[.int .i64 n] w λe w'=>e=.returned (.bool (BZ n 0 11))/\w=w':=by go_in;go_wp2_with (go_at_call 56;refine(EC _ _ _ _).mono ?_;rintro e w' ⟨rfl,rfl⟩);go_ret;exact⟨rfl,rfl⟩
theorem Oh(n:Int)(w:World):Calls prog 207 #[.int .i64 n] w λe w'=>e=.returned (.bool (BZ n 0 3))/\w=w':=by go_in;go_wp2_with (go_at_call 56;refine(EC _ _ _ _).mono ?_;rintro e w' ⟨rfl,rfl⟩);go_ret;exact⟨rfl,rfl⟩
theorem Mn(n:Int)(w:World):Calls prog 44 #[.int .i64 n] w λe w'=>e=.returned (.bool (BZ n 0 15))/\w=w':=by go_in;go_wp2_with (go_at_call 56;refine(EC _ _ _ _).mono ?_;rintro e w' ⟨rfl,rfl⟩);go_ret;exact⟨rfl,rfl⟩
theorem JP(f:Int)(w:World)(h0:0<=f)(J:f<=11):Calls prog 85 #[.int .i64 f,.bool true] w λe w'=>e=.returned (.tuple #[.int .i64 (IB f),.bool true])/\w=w':=by have hc:=AA (show BZ f 0 11=true from AZ.2 ⟨h0,J⟩);go_in;go_wp2_with (go_at_call 99;refine(FD _ _).mono ?_;rintro e w' ⟨rfl,rfl⟩;rw[hc.out]);go_ret2;exact⟨rfl,rfl⟩
theorem Oa(f:Int)(b:Bool)(w:World)(h:BZ f 0 11=false):Calls prog 85 #[.int .i64 f,.bool b] w λe w'=>e=.returned (.tuple #[.int .i64 0,.bool false])/\w=w':=by have hc:=AA h;clear h;go_in;go_wp2_with (go_at_call 99;refine(FD _ _).mono ?_;rintro e w' ⟨rfl,rfl⟩;rw[hc.out]);go_ret2;exact⟨rfl,rfl⟩
theorem Uv{x:Int}(h:Bm x=true):0<x/\x<48/\x%2=1:=by simp only[Bm,yu,decide_eq_true_eq] at h;omega
theorem Uu{x:Int}(h:Bm x=true):((BC x:Nat):Int)=x/4:=by have:=Uv h;unfold BC;omega
def Tg(x:Int):Value:=.tuple #[.int .i64 (if Bm x then((BC x:Nat):Int) else 0),.bool (Bm x&&Ko x),.bool (Bm x)]
theorem Ej{x:Int}(h:Bm x=true):Tg x=.tuple #[.int .i64 ((BC x:Nat):Int),.bool (Ko x),.bool true]:=by simp[Tg,h]
theorem Eu{x:Int}(h:Bm x=false):Tg x=.tuple #[.int .i64 0,.bool false,.bool false]:=by simp[Tg,h]
theorem Ff(x:Int)(w:World)(E:x<=9223372036854775807):Calls prog 150 #[.int .i64 x] w λe w'=>e=.returned (Tg x)/\w=w':=by
 by_cases h0:x<0
 .have hx:=AA (Eu (x:=x) (by simp[Bm];omega))
  go_in;go_wp2_with fail;go_ret3;exact⟨OT hx.out.symm,rfl⟩
 .have iR:0<=x:=by omega
  by_cases J:x%2=0
  .have hx:=AA (Eu (x:=x) (by simp[Bm];omega))
   have t:(x%2==0)=true:=by simp[J]
   clear J;go_in;go_wp2_with fail;go_ret3;exact⟨OT hx.out.symm,rfl⟩
  .have t:(x%2==0)=false:=by simp;omega
   cases Y:BZ (x/4) 0 11
   focus
    have hx:=AA (Eu (x:=x) (by have:=WK.1 Y;simp[Bm];omega))
    have hc:=AA Y;clear Y J
   rotate_left
   focus
    have Z:Bm x=true:=by have:=AZ.1 Y;simp[Bm];omega
    have W:Ko x=(x%4==3):=by cases h:(x%4==3)<;>simp_all[Ko]
    have hx:=AA (show Tg x=.tuple #[.int .i64 (x/4),.bool (x%4==3),.bool true] by rw[Ej Z,Uu Z,W]);clear W;have hc:=AA Y;clear Y J Z
   rotate_left
   all_goals
    go_in;go_wp2_with (go_at_call 99;refine(FD _ _).mono ?_;rintro e w' ⟨rfl,rfl⟩;rw[hc.out]);go_ret3;exact⟨OT hx.out.symm,rfl⟩
theorem Pc(a:Nat)(w:World)(h:a<64):Calls prog 159 #[.int .i64 a] w λe w'=>e=.returned (.tuple #[.int .i64 ((a/16:Nat):Int),.int .i64 ((a/4%4:Nat):Int),.int .i64 ((a%4:Nat):Int),.bool true])/\w=w':=by
 have hc:=AA (show BZ (a:Int) 0 63=true from AZ.2 (by omega));have e1:(a:Int)/16=((a/16:Nat):Int):=by omega
 have e2:(a:Int)/4%4=((a/4%4:Nat):Int):=by omega
 have e3:(a:Int)%4=((a%4:Nat):Int):=by omega
 have hx:=AA (And.intro e1 (And.intro e2 e3));clear e1 e2 e3;go_in;go_wp2_with (go_at_call 28;refine(FJ _ _).mono ?_;rintro e w' ⟨rfl,rfl⟩;rw[hc.out]);refine yr (v:=.tuple #[.int .i64 ((a:Int)/16),.int .i64 ((a:Int)/4%4),.int .i64 ((a:Int)%4),.bool true]) (by simp[results,Tryz.results159,go_sem]) rfl ⟨?_,rfl⟩;rw[hx.out.1,hx.out.2.1,hx.out.2.2]
theorem LS(k:Int)(w:World):Calls prog 158 #[.int .i64 k] w λe w'=>e=.returned (.int .i64 (VO k))/\w=w':=by
 by_cases h3:k=3
 .subst h3
  go_in;go_wp2_with fail;go_ret;exact⟨rfl,rfl⟩
 .have t3:(k==3)=false:=by simp[h3]
  by_cases O:k=2
  .subst O
   go_in;go_wp2_with fail;go_ret;exact⟨rfl,rfl⟩
  .have t2:(k==2)=false:=by simp[O]
   have hx:=AA (show VO k=0 by simp[VO,Bh,O,h3]);clear O h3;go_in;go_wp2_with fail;go_ret;exact⟨Ch hx.out.symm,rfl⟩
theorem Is(k:Int)(w:World):Calls prog 102 #[.int .i64 k] w λe w'=>e=.returned (.bool (Bh k))/\w=w':=by
 by_cases O:k=2
 .subst O
  go_in;go_wp2_with fail;go_ret;exact⟨rfl,rfl⟩
 .have t2:(k==2)=false:=by simp[O]
  have hx:=AA (show Bh k=(k==3) by cases h:(k==3)<;>simp_all[Bh]);clear O;go_in;go_wp2_with fail;go_ret;exact⟨AH hx.out.symm,rfl⟩
theorem Oz{k:Nat}(h:k<s.size)(H:FU s[k]=false):BV s=false:=by
 have:s.data.toList.all FU=false:=by rw[wP];exact⟨s[k],by simp[uH],by simp[H]⟩
 simp[BV,this]
theorem UK{s:ByteArray}(h:∀k (z:k<s.size),FU s[k]=true):BV s=decide ((s.size:Int)<=4):=by
 have:s.data.toList.all FU=true:=by rw[xZ];intro x E;obtain⟨k,z,rfl⟩:=wS E;have:=h k (by simpa using z);simpa[uH] using this
 rw[BV,this,wt]
 by_cases h4:s.size<=4
 .have:(s.size:Int)<=4:=by omega
  simp[h4,this]
 .have:¬(s.size:Int)<=4:=by omega
  simp[h4,this]
theorem EX(s:ByteArray)(w:World)(K:s.size<=maxLen):
 Calls prog 179 #[.string s] w λe w'=>e=.returned (.bool (BV s))/\w=w':=by
 unfold maxLen at K;go_in;go_wp2_with fail;go_loop [3] (λi=>∃k:Nat,k<=s.size/\i=.int .i64 k/\∀j (D:j<s.size),j<k->FU s[j]=true) (λi=>s.size - (intOf i).toNat)
 exact⟨0,yg _,rfl,λj _ D=>absurd D (xN _)⟩
 obtain⟨k,z,rfl,az⟩:=hrel;have au:=AA az;clear az
 by_cases am:k<s.size
 .by_cases J:s[k].toNat<97
  .have S:=AA (Oz (s:=s) am (by simp[FU];omega))
   have t1:(s[k].toNat:Int)<97:=by omega
   go_wp2_with fail;go_ret;exact⟨AH S.out.symm,rfl⟩
  .by_cases O:99<s[k].toNat
   .have S:=AA (Oz (s:=s) am (by simp[FU];omega))
    have t1:(99:Int)<s[k].toNat:=by omega
    have t2:¬(s[k].toNat:Int)<97:=by omega
    go_wp2_with fail;go_ret;exact⟨AH S.out.symm,rfl⟩
   .have Ok:=AA (show FU s[k]=true by simp[FU];omega)
    have t1:¬(99:Int)<s[k].toNat:=by omega
    have t2:¬(s[k].toNat:Int)<97:=by omega
    go_wp2_with fail;go_round
    case rel=>exact⟨k+1,by omega,by go_num,λj D fT=>by
     rcases xl.1 fT with h|h
     .exact au.out j D h
     .subst h;exact Ok.out⟩
    case measure=>simp[intOf];omega
 .have S:=AA (UK (s:=s) (λj D=>au.out j D (by omega)))
  go_wp2_with fail;go_ret;exact⟨AH S.out.symm,rfl⟩
theorem K9{P:Program}{f:FuncId}{al:Array Value}{w:World}{n:Nat}{v:Value}(h:Calls P f al (w.drewN n) λe w'=>e=.returned v/\w.drewN n=w'):Calls P f al (w.drewN n) λe cx=>e=.returned v/\∃m,cx=w.drewN m:=
 h.mono λ_ _ ⟨he,hm⟩=>⟨he,n,hm.symm⟩
theorem PT{w:World}(h:∃n,wr=w.drewN n)(m:Nat):∃n,wr.drewN m=w.drewN n:=by obtain⟨n,rfl⟩:=h;exact⟨n+m,La w n m⟩
theorem JV{k:Nat}(h:k<ss.length)(H:Cv ss k=false):BW ss=false:=by have:(yC ss.length).all (Cv ss)=false:=wP.2 ⟨k,xS.2 h,by simp[H]⟩;simp[BW,this]
theorem Ma(h:∀k,k<ss.length->Cv ss k=true):BW ss=decide ((ss.length:Int)<=6):=by
 have:(yC ss.length).all (Cv ss)=true:=xZ.2 λk z=>h k (xS.1 z)
 rw[BW,this,wt]
 by_cases h4:ss.length<=6
 .have:(ss.length:Int)<=6:=by omega
  simp[h4,this]
 .have:¬(ss.length:Int)<=6:=by omega
  simp[h4,this]
theorem TM.str{w:World}{a:Option Addr}(h:TM 1 BD w a ss){k:Nat}(z:k<ss.length):∃b X,a=some ⟨b,X,none⟩/\w.cell? ⟨b,X+k,none⟩=some (.string (Di ss k)):=by obtain⟨b,X,rfl,_,H⟩:=h k _ (If z);exact⟨b,X,rfl,by simpa using H 0 _ rfl⟩
def Db(ss:List ByteArray):Prop:=∀s∈ss,s.size<=maxLen
theorem Db.nth(h:Db ss){k:Nat}(z:k<ss.length):(Di ss k).size<=maxLen:=h _ (yh (If z))
theorem GV(v:Value)(ss:List ByteArray)(w:World)(h:BY w v ss)(K:Db ss):
 Calls prog 127 #[v] w λe w'=>e=.returned (.bool (BW ss))/\∃n,w'=w.drewN n:=by
 obtain⟨a,c,rfl,H,aq,H0⟩:=BK.open Ho (by decide) h;unfold maxLen at aq;have Hs:=AA K;clear K h;go_in;go_wp2_with fail;go_loopw [3] (λi wr=>∃k:Nat,k<=ss.length/\i=.int .i64 k/\(∀j,j<k->Cv ss j=true)/\∃n,wr=w.drewN n) (λi _=>ss.length - (intOf i).toNat)
 exact⟨0,yg _,rfl,λj D=>absurd D (xN _),0,rfl⟩
 obtain⟨k,z,rfl,az,hw⟩:=hrel;have au:=AA az;clear az;have Hw:=AA hw;clear hw
 by_cases am:k<ss.length
 .obtain⟨b,X,rfl,D0⟩:=H0.str am
  have hj:wr.cell? ⟨b,X+k,none⟩=some (.string (Di ss k)):=by obtain⟨n,rfl⟩:=Hw.out;exact D0
  have fQ:(k:Int)<ss.length:=by omega
  have db:=Hs.out.nth am;cases a7:BV (Di ss k)
  .have S:=AA (JV am (by simp[Cv,a7]))
   have HQ:=AA (show ∀W,Calls prog 179 #[.string (Di ss k)] W λe w'=>e=.returned (.bool false)/\W=w' from λW=>by have:=EX (Di ss k) W db;rwa [a7] at this);clear a7 D0;go_wp2_with fail;go_quiet ((go_at_call 179;exact K9 (HQ.out _)));go_wp2_with fail;go_ret;exact⟨AH S.out.symm,PT Hw.out _⟩
  .have HQ:=AA (show ∀W,Calls prog 179 #[.string (Di ss k)] W λe w'=>e=.returned (.bool true)/\W=w' from λW=>by have:=EX (Di ss k) W db;rwa [a7] at this)
   by_cases ep:k=0
   .have Ok:=AA (show Cv ss k=true by simp[Cv,a7];exact .inl ep)
    have t0:decide (0<k)=false:=by simp;omega
    clear a7 ep D0;go_wp2_with fail;go_quiet ((go_at_call 179;exact K9 (HQ.out _)));go_wp2_with fail;go_roundw;exact⟨k+1,by omega,by go_num,Al au.out Ok.out,PT Hw.out _⟩;simp[intOf];omega
   .obtain⟨b',de,ee,E0⟩:=H0.str (show k - 1<ss.length by omega)
    obtain⟨rfl,rfl⟩:b=b'/\X=de:=by simpa using ee
    have hx:wr.cell? ⟨b,X+(k - 1),none⟩=some (.string (Di ss (k - 1))):=by obtain⟨n,rfl⟩:=Hw.out;exact E0
    have t0:decide (0<k)=true:=by simp;omega
    have iz:(0:Int)<k:=by omega
    have s0:wR.wrap ((k:Int) - 1)=(k:Int) - 1:=xA _ (by omega);have s1:((k:Int) - 1).toNat=k - 1:=by omega
    have s2:(k:Int) - 1<ss.length:=by omega
    have s3:(1:Int)<=k:=by omega
    have s4:(0:Int)<=(k:Int) - 1:=by omega
    clear D0 E0 ee;cases di:Ud (Di ss (k - 1)) (Di ss k)
    .have Ok:=AA (show Cv ss k=true by simp[Cv,a7,di])
     have hL:wy (Di ss (k - 1)).toList (Di ss k).toList=true:=by simpa[Ud] using di
     clear a7 di;go_wp2_with fail;go_quiet ((go_at_call 179;exact K9 (HQ.out _)));go_wp2_with fail;go_roundw;exact⟨k+1,by omega,by go_num,Al au.out Ok.out,PT Hw.out _⟩;simp[intOf];omega
    .have S:=AA (JV am (by simp[Cv,a7,di,ep]))
     have hL:wy (Di ss (k - 1)).toList (Di ss k).toList=false:=by simpa[Ud] using di
     clear a7 di;go_wp2_with fail;go_quiet ((go_at_call 179;exact K9 (HQ.out _)));go_wp2_with fail;go_ret;exact⟨AH S.out.symm,PT Hw.out _⟩
 .have S:=AA (Ma (ss:=ss) (λj D=>au.out j (by omega)))
  go_wp2_with fail;go_ret;exact⟨AH S.out.symm,Hw.out⟩
def F8{α:Type}(p:α->Bool)(xs:List α):Int:=if xs.any p then(xs.findIdx p:Int) else -1
section
variable {α:Type} {p:α->Bool} {xs:List α}
theorem Iq(h:∀(j:Nat) x,xs[j]?=some x->p x=false):F8 p xs= -1:=by
 unfold F8;have:xs.any p=false:=by rw[ul];intro x E;obtain⟨j,D⟩:=xq E;simp[h j x D]
 simp[this]
theorem KP{k:Nat}{x:α}(z:xs[k]?=some x)(h:∀(j:Nat) y,j<k->xs[j]?=some y->p y=false)(hp:p x=true):F8 p xs=k:=by
 unfold F8;obtain⟨am,rfl⟩:=yt.1 z;have J:xs.any p=true:=vP.2 ⟨xs[k],ud am,hp⟩;have O:xs.findIdx p=k:=by
  rw[tH am];exact⟨hp,λj D=>h j _ D (yw (by omega))⟩
 simp[J,O]
theorem KQ:decide (0<=F8 p xs)=xs.any p:=by unfold F8;cases xs.any p<;>simp
theorem Im{k:Nat}{x:α}(h:∀(j:Nat) y,j<k->xs[j]?=some y->p y=false)(z:xs[k]?=some x)(hp:p x=false):∀(j:Nat) y,j<k+1->xs[j]?=some y->p y=false:=by
 intro j y D hy
 rcases xl.1 D with h'|h'
 .exact h j y h' hy
 .subst h'
  rw[z] at hy;cases hy;exact hp
end
theorem J4(F:Nat)(ar:Array Value)(p:AV->Bool)(v:Value)(xs:List AV)(w:World)(h:Bb w v xs)
 (hF:∀al w,(callFunc F al).run prog w=.ok (.enter F al) w)(N:∀x,x∈xs->∀W,Below w.heap.size w W->Calls prog F (#[x.val]++ar) W λe W'=>e=.returned (.bool (p x))/\Below W.heap.size W W'):
 Calls prog 135 #[v,.func (.func F) #[] ar] w λe w'=>e=.returned (.int .i64 (F8 p xs))/\Below w.heap.size w w':=by
 obtain⟨a,c,rfl,H,aq,H0⟩:=BK.open A0 (by decide) h;clear h;unfold maxLen at aq;have Hf:=AA N;clear N;go_in;go_wp2;go_loopw [8] (λi wr=>∃k:Nat,k<=xs.length/\i=.int .i64 k/\(∀(j:Nat) x,j<k->xs[j]?=some x->p x=false)/\Below w.heap.size w wr) (λi _=>xs.length - (intOf i).toNat)
 exact⟨0,yg _,rfl,λj x D=>absurd D (xN _),yD _ _⟩
 obtain⟨k,z,rfl,az,ac⟩:=hrel;have au:=AA az;clear az
 by_cases am:k<xs.length
 .have E:xs[k]?=some (zS xs k):=by simp[zS,am]
  obtain⟨b,X,rfl,bA,dr,fh,eJ⟩:=H0.zP am;have D0:=(ac.cell (p:=⟨b,X+k*3,none⟩) bA).trans dr;have D1:=(ac.cell (p:=⟨b,X+k*3+1,none⟩) bA).trans fh;have D2:=(ac.cell (p:=⟨b,X+k*3+2,none⟩) bA).trans eJ;clear dr fh eJ;have Hx:=AA E;have Hc:=AA (Hf.out _ (yh E) wr ac);clear E;cases hp:p (zS xs k)
  .have Hp:=AA hp;clear hp
   go_wp2_with (refine(Hc.out).mono ?_;rintro e w' ⟨rfl,ay⟩;rw[Hp.out]);go_roundw;exact⟨k+1,by omega,by go_num,Im au.out Hx.out Hp.out,ac.trans (ay.mono ac.size)⟩;simp[intOf];omega
  .have Hp:=AA hp;clear hp
   have bl:=AA (KP Hx.out au.out Hp.out);go_wp2_with (refine(Hc.out).mono ?_;rintro e w' ⟨rfl,ay⟩;rw[Hp.out]);go_ret;exact⟨Ch bl.out.symm,ac.trans (ay.mono ac.size)⟩
 .have bl:=AA (Iq (p:=p) (xs:=xs) (λj x E=>au.out j x (by have:=(yt.1 E).1;omega) E))
  go_wp2;go_ret;exact⟨Ch bl.out.symm,ac⟩
theorem LP(F:Nat)(ar:Array Value)(p:AV->Bool)(v:Value)(xs:List AV)(w:World)(h:Bb w v xs)
 (hF:∀al w,(callFunc F al).run prog w=.ok (.enter F al) w)(N:∀x,x∈xs->∀W,Below w.heap.size w W->Calls prog F (#[x.val]++ar) W λe W'=>e=.returned (.bool (p x))/\Below W.heap.size W W'):
 Calls prog 113 #[v,.func (.func F) #[] ar] w λe w'=>e=.returned (.bool (xs.any p))/\Below w.heap.size w w':=by
 have hx:=AA (KQ (p:=p) (xs:=xs));have C:=AA (J4 F ar p v xs w h hF N);clear h N;go_in;go_wp2_with (refine(C.out).mono ?_;rintro e w' ⟨rfl,ay⟩);go_ret;exact⟨AH hx.out,ay⟩
theorem JL(F:Nat)(ar:Array Value)(p:Ad->Bool)(v:Value)(xs:List Ad)(w:World)(h:DJ w v xs)
 (hF:∀al w,(callFunc F al).run prog w=.ok (.enter F al) w)(N:∀x,x∈xs->∀W,Below w.heap.size w W->Calls prog F (#[x.val]++ar) W λe W'=>e=.returned (.bool (p x))/\Below W.heap.size W W'):
 Calls prog 198 #[v,.func (.func F) #[] ar] w λe w'=>e=.returned (.int .i64 (F8 p xs))/\Below w.heap.size w w':=by
 obtain⟨a,c,rfl,H,aq,H0⟩:=BK.open CZ (by decide) h;clear h;unfold maxLen at aq;have Hf:=AA N;clear N;go_in;go_wp2;go_loopw [8] (λi wr=>∃k:Nat,k<=xs.length/\i=.int .i64 k/\(∀(j:Nat) x,j<k->xs[j]?=some x->p x=false)/\Below w.heap.size w wr) (λi _=>xs.length - (intOf i).toNat)
 exact⟨0,yg _,rfl,λj x D=>absurd D (xN _),yD _ _⟩
 obtain⟨k,z,rfl,az,ac⟩:=hrel;have au:=AA az;clear az
 by_cases am:k<xs.length
 .have E:xs[k]?=some (AT xs k):=by simp[AT,am]
  obtain⟨b,X,rfl,bA,dr,fh,eJ,gj⟩:=H0.zL am;have D0:=(ac.cell (p:=⟨b,X+k*4,none⟩) bA).trans dr;have D1:=(ac.cell (p:=⟨b,X+k*4+1,none⟩) bA).trans fh;have D2:=(ac.cell (p:=⟨b,X+k*4+2,none⟩) bA).trans eJ;have D3:=(ac.cell (p:=⟨b,X+k*4+3,none⟩) bA).trans gj;clear dr fh eJ gj;have Hx:=AA E;have Hc:=AA (Hf.out _ (yh E) wr ac);clear E;cases hp:p (AT xs k)
  .have Hp:=AA hp;clear hp
   go_wp2_with (refine(Hc.out).mono ?_;rintro e w' ⟨rfl,ay⟩;rw[Hp.out]);go_roundw;exact⟨k+1,by omega,by go_num,Im au.out Hx.out Hp.out,ac.trans (ay.mono ac.size)⟩;simp[intOf];omega
  .have Hp:=AA hp;clear hp
   have bl:=AA (KP Hx.out au.out Hp.out);go_wp2_with (refine(Hc.out).mono ?_;rintro e w' ⟨rfl,ay⟩;rw[Hp.out]);go_ret;exact⟨Ch bl.out.symm,ac.trans (ay.mono ac.size)⟩
 .have bl:=AA (Iq (p:=p) (xs:=xs) (λj x E=>au.out j x (by have:=(yt.1 E).1;omega) E))
  go_wp2;go_ret;exact⟨Ch bl.out.symm,ac⟩
theorem MO(F:Nat)(ar:Array Value)(p:ByteArray->Bool)(v:Value)(xs:List ByteArray)(w:World)(h:BY w v xs)
 (hF:∀al w,(callFunc F al).run prog w=.ok (.enter F al) w)(N:∀x,x∈xs->∀W,Below w.heap.size w W->Calls prog F (#[uo x]++ar) W λe W'=>e=.returned (.bool (p x))/\Below W.heap.size W W'):
 Calls prog 162 #[v,.func (.func F) #[] ar] w λe w'=>e=.returned (.int .i64 (F8 p xs))/\Below w.heap.size w w':=by
 obtain⟨a,c,rfl,H,aq,H0⟩:=BK.open Ho (by decide) h;clear h;unfold maxLen at aq;have Hf:=AA N;clear N;go_in;go_wp2;go_loopw [8] (λi wr=>∃k:Nat,k<=xs.length/\i=.int .i64 k/\(∀(j:Nat) x,j<k->xs[j]?=some x->p x=false)/\Below w.heap.size w wr) (λi _=>xs.length - (intOf i).toNat)
 exact⟨0,yg _,rfl,λj x D=>absurd D (xN _),yD _ _⟩
 obtain⟨k,z,rfl,az,ac⟩:=hrel;have au:=AA az;clear az
 by_cases am:k<xs.length
 .have E:xs[k]?=some (Di xs k):=by simp[Di,am]
  obtain⟨b,X,rfl,dr⟩:=H0.str am;have bA:=yA w _ dr;have D0:wr.cell? ⟨b,X+k,none⟩=some (.string (Di xs k)):=(ac.cell (p:=⟨b,X+k,none⟩) bA).trans dr;clear dr;have Hx:=AA E;have Hc:=AA (Hf.out _ (yh E) wr ac);clear E;cases hp:p (Di xs k)
  .have Hp:=AA hp;clear hp
   go_wp2_with (refine(Hc.out).mono ?_;rintro e w' ⟨rfl,ay⟩;rw[Hp.out]);go_roundw;exact⟨k+1,by omega,by go_num,Im au.out Hx.out Hp.out,ac.trans (ay.mono ac.size)⟩;simp[intOf];omega
  .have Hp:=AA hp;clear hp
   have bl:=AA (KP Hx.out au.out Hp.out);go_wp2_with (refine(Hc.out).mono ?_;rintro e w' ⟨rfl,ay⟩;rw[Hp.out]);go_ret;exact⟨Ch bl.out.symm,ac.trans (ay.mono ac.size)⟩
 .have bl:=AA (Iq (p:=p) (xs:=xs) (λj x E=>au.out j x (by have:=(yt.1 E).1;omega) E))
  go_wp2;go_ret;exact⟨Ch bl.out.symm,ac⟩
theorem Ki(F:Nat)(ar:Array Value)(p:ByteArray->Bool)(v:Value)(xs:List ByteArray)(w:World)(h:BY w v xs)
 (hF:∀al w,(callFunc F al).run prog w=.ok (.enter F al) w)(N:∀x,x∈xs->∀W,Below w.heap.size w W->Calls prog F (#[uo x]++ar) W λe W'=>e=.returned (.bool (p x))/\Below W.heap.size W W'):
 Calls prog 109 #[v,.func (.func F) #[] ar] w λe w'=>e=.returned (.bool (xs.any p))/\Below w.heap.size w w':=by
 have hx:=AA (KQ (p:=p) (xs:=xs));have C:=AA (MO F ar p v xs w h hF N);clear h N;go_in;go_wp2_with (refine(C.out).mono ?_;rintro e w' ⟨rfl,ay⟩);go_ret;exact⟨AH hx.out,ay⟩
theorem J5(F:Nat)(ar:Array Value)(p:List Int->Bool)(v:Value)(m:List (List Int))(w:World)(h:Bk w v m)
 (hF:∀al w,(callFunc F al).run prog w=.ok (.enter F al) w)(N:∀u r,r∈m->∀W,Below w.heap.size w W->Ax W u r->Calls prog F (#[u]++ar) W λe W'=>e=.returned (.bool (p r))/\Below W.heap.size W W'):
 Calls prog 160 #[v,.func (.func F) #[] ar] w λe w'=>e=.returned (.int .i64 (F8 p m))/\Below w.heap.size w w':=by
 obtain⟨vs,J,O⟩:=h;obtain⟨a,c,rfl,H,aq,H0⟩:=BK.open ER (by decide) J;clear J;unfold maxLen at aq;have Hf:=AA N;clear N;have H2:=AA O;clear O;go_in;go_wp2;go_loopw [8] (λi wr=>∃k:Nat,k<=vs.length/\i=.int .i64 k/\(∀(j:Nat) x,j<k->m[j]?=some x->p x=false)/\Below w.heap.size w wr) (λi _=>vs.length - (intOf i).toNat)
 exact⟨0,yg _,rfl,λj x D=>absurd D (xN _),yD _ _⟩
 obtain⟨k,z,rfl,az,ac⟩:=hrel;have au:=AA az;clear az
 by_cases am:k<vs.length
 .obtain⟨u,hu⟩:∃u,vs[k]?=some u:=⟨_,yw am⟩
  obtain⟨r,E⟩:∃r,m[k]?=some r:=⟨_,yw (by rw[<-H2.out.1];exact am)⟩
  obtain⟨b,X,rfl,bA,ax⟩:=H0 k u hu;have D0:wr.cell? ⟨b,X+k,none⟩=some u:=(ac.cell (p:=⟨b,X+k,none⟩) bA).trans (by simpa using ax 0 u rfl);have hr:=H2.out.2 k u r hu E;have Hx:=AA E;have Hc:=AA (Hf.out u r (yh E) wr ac (Ax.below hr ac));clear E hu ax hr;cases hp:p r
  .have Hp:=AA hp;clear hp
   go_wp2_with (refine(Hc.out).mono ?_;rintro e w' ⟨rfl,ay⟩;rw[Hp.out]);go_roundw;exact⟨k+1,by omega,by go_num,Im au.out Hx.out Hp.out,ac.trans (ay.mono ac.size)⟩;simp[intOf];omega
  .have Hp:=AA hp;clear hp
   have bl:=AA (KP Hx.out au.out Hp.out);go_wp2_with (refine(Hc.out).mono ?_;rintro e w' ⟨rfl,ay⟩;rw[Hp.out]);go_ret;exact⟨Ch bl.out.symm,ac.trans (ay.mono ac.size)⟩
 .have bl:=AA (Iq (p:=p) (xs:=m) (λj x E=>au.out j x (by have:=(yt.1 E).1;rw[<-H2.out.1] at this;omega) E))
  go_wp2;go_ret;exact⟨Ch bl.out.symm,ac⟩
theorem Ij(F:Nat)(ar:Array Value)(p:List Int->Bool)(v:Value)(m:List (List Int))(w:World)(h:Bk w v m)
 (hF:∀al w,(callFunc F al).run prog w=.ok (.enter F al) w)(N:∀u r,r∈m->∀W,Below w.heap.size w W->Ax W u r->Calls prog F (#[u]++ar) W λe W'=>e=.returned (.bool (p r))/\Below W.heap.size W W'):
 Calls prog 105 #[v,.func (.func F) #[] ar] w λe w'=>e=.returned (.bool (m.any p))/\Below w.heap.size w w':=by
 have hx:=AA (KQ (p:=p) (xs:=m));have C:=AA (J5 F ar p v m w h hF N);clear h N;go_in;go_wp2_with (refine(C.out).mono ?_;rintro e w' ⟨rfl,ay⟩);go_ret;exact⟨AH hx.out,ay⟩
section
variable {α:Type} {lo e sz:Nat} {cs:α->List Value} {w:World} {g V k:Nat} {xs:List α}
theorem AQ.zM{v:Value}(h:AQ lo e sz cs w v xs)(hn:0<xs.length):∃g V,v=.slice (some ⟨g,0,none⟩) xs.length V/\xs.length<=V/\V<=maxLen/\lo<=g/\g<w.heap.size/\∀j,w.frozen? ⟨g,j,none⟩=false:=by
 obtain⟨g,V,rfl,J,O⟩:=Jd h hn;obtain⟨a,c,hv,h3,h4⟩:=h.rd.shape;cases hv;exact⟨g,V,rfl,h3,h4,J,O,λj=>xJ h j⟩
theorem AQ.stored(K:∀x,(cs x).length=sz)(h:AQ lo e sz cs w (.slice (some ⟨g,0,none⟩) xs.length V) xs)(z:k<xs.length)(y:α):
 AQ lo e sz cs (MK w g (k*sz) 0 (cs y)) (.slice (some ⟨g,0,none⟩) xs.length V) (xs.set k y)/\w.grownBy (MK w g (k*sz) 0 (cs y)) (some g):=by
 obtain⟨J,O⟩:=Ix h (k*sz) 0 (cs y);rw[Uy K z] at J;refine⟨?_,O⟩;unfold AQ;rw[xP];exact J
theorem AQ.zz(K:∀x,(cs x).length=sz)(h:AQ lo e sz cs w (.slice (some ⟨g,0,none⟩) xs.length V) xs){x:α}(z:xs[k]?=some x):∀(j:Nat) u,(cs x)[j]?=some u->w.cell? ⟨g,k*sz+j,none⟩=some u:=by
 intro j u D;have am:=(yt.1 z).1;have dx:j<sz:=by rw[<-K x];exact(yt.1 D).1
 have hm:k*sz+sz<=xs.length*sz:=by rw[<-uU];exact wA _ am
 rw[xB h (k*sz+j) (by omega),PU K z dx,D]
end
theorem AQ.zP{lo e g V k:Nat}{w:World}{xs:List AV}(h:AQ lo e 3 A3 w (.slice (some ⟨g,0,none⟩) xs.length V) xs)(z:k<xs.length):
 w.cell? ⟨g,k*3,none⟩=some (.int .i64 (zS xs k).k)/\w.cell? ⟨g,k*3+1,none⟩=some (.string (zS xs k).g)/\w.cell? ⟨g,k*3+2,none⟩=some (.int .i64 (zS xs k).r):=by
 have H:=AQ.zz A0 h (k:=k) (x:=zS xs k) (by simp[zS,z]);exact⟨H 0 _ rfl,H 1 _ rfl,H 2 _ rfl⟩
theorem AQ.zL{lo e g V k:Nat}{w:World}{xs:List Ad}(h:AQ lo e 4 AU w (.slice (some ⟨g,0,none⟩) xs.length V) xs)(z:k<xs.length):
 w.cell? ⟨g,k*4,none⟩=some (.int .i64 (AT xs k).e)/\w.cell? ⟨g,k*4+1,none⟩=some (.int .i64 (AT xs k).p)/\w.cell? ⟨g,k*4+2,none⟩=some (.int .i64 (AT xs k).f)/\w.cell? ⟨g,k*4+3,none⟩=some (.bool (AT xs k).w):=by
 have H:=AQ.zz CZ h (k:=k) (x:=AT xs k) (by simp[AT,z]);exact⟨H 0 _ rfl,H 1 _ rfl,H 2 _ rfl,H 3 _ rfl⟩
theorem AM{w w' cx:World}{g:Nat}(h:Below B w w')(Z:w'.grownBy cx (some g))(hB:B<=g)(K:B<=w'.heap.size):Below B w cx:=h.grown Z K (λk z=>by cases z;exact hB)
theorem KL(b o:Nat)(vs:List Value):∀(j:Nat)(w:World),w.setCells b (o+j) vs=MK w b o j vs:=by
 induction vs with
 |nil=>intro j w;rfl
 |cons v vs ih=>intro j w;exact ih (j+1) _
theorem UP(xs us:List Value)(o:Nat):∀(j:Nat),(JW xs o j us).take o=xs.take o:=by
 induction us generalizing xs with
 |nil=>intro j;rfl
 |cons u us ih=>
  intro j;rw[JW,ih];apply sq;intro k
  by_cases z:k<o
  .rw[vh z,vh z,List.getElem?_set_ne (by omega)]
  .rw[tO (by omega),tO (by omega)]
theorem Ot{lo e sz n k:Nat}{w:World}{g V:Nat}{xs:List Value}(h:w.ownsRow lo e sz (.slice (some ⟨g,0,none⟩) n V) n xs)(z:k<=n):w.ownsRow lo e sz (.slice (some ⟨g,0,none⟩) k V) k (xs.take (k*sz)):=by
 rcases h.2 with⟨h0,_⟩|⟨g',cap',bD,hv,Y,Z,bK,aq,dp,htake⟩
 .cases h0
 .cases hv
  have hm:k*sz<=n*sz:=wA _ z;refine⟨by rw[xT,h.1];omega,.inr ⟨g,V,bD,rfl,Y,Z,by omega,aq,dp,?_⟩⟩;rw[<-htake,tN,ux hm]
theorem Mb{P:Program}{lo e sz n k g V:Nat}{w:World}{xs:List Value}{hk:Value}(ht:P.underlying t=some (.slice e))(hv:∀w,(zeroValue e).run P w=.ok hk w)(eh:hk.cells.size=sz)(J:∀u∈hk.cells.toList,u.oneCell'=true)
 (h:w.ownsRow lo e sz (.slice (some ⟨g,0,none⟩) n V) n xs)(z:k<n):
 ∃w',(∀ty c,(tX #[t] ty #[.slice (some ⟨g,k*sz,none⟩) (n - k) c]).run P w=.ok (.tuple #[]) w')/\w'.ownsRow lo e sz (.slice (some ⟨g,0,none⟩) k V) k (xs.take (k*sz))/\w.grownBy w' (some g):=by
 have bw:(xF hk.cells (n - k)).toList.length=(n - k)*sz:=by simp[xF,eh,Nat.mul_comm]
 have iB:=h.1;have ib:k*sz+(n - k)*sz=n*sz:=by rw[<-Nat.add_mul];congr 1;omega
 have hst:=run_storeCells_cells (P:=P) g (k*sz) (xF hk.cells (n - k)).toList 0 w (by
  intro j D;rw[bw] at D;have:=xB h (k*sz+j) (by omega);simp only[xK] at this ⊢;rw[this];simp;omega) (by intro j _;exact xJ h _) (by
  intro u hu;simp only[xF,Array.toList_map,vH,Array.mem_toList_iff,Array.mem_range] at hu;obtain⟨i,A,rfl⟩:=hu;have K:0<hk.cells.size:=by
   rcases wj hk.cells.size with h0|h0
   .rw[h0] at A;simp at A
   .exact h0
  have am:i%hk.cells.size<hk.cells.size:=sp _ K;refine J _ ?_;simp[am])
 obtain⟨m,hm⟩:∃m,n - k=m+1:=⟨n - k - 1,by omega⟩
 simp only[xK] at hst;refine⟨w.setCells g (k*sz) (xF hk.cells (n - k)).toList,λty c=>?_,?_,?_⟩
 .rw[hm] at hst ⊢
  simp[tX,tg ht,hv,hst]
 .have e0:=KL g (k*sz) (xF hk.cells (n - k)).toList 0 w
  rw[xK] at e0;rw[e0];obtain⟨a1,_⟩:=Ix h (k*sz) 0 (xF hk.cells (n - k)).toList;have:=Ot a1 (Nat.le_of_lt z);rw[UP] at this;exact this
 .have e0:=KL g (k*sz) (xF hk.cells (n - k)).toList 0 w
  rw[xK] at e0;rw[e0];exact(Ix h (k*sz) 0 (xF hk.cells (n - k)).toList).2
section
variable {α:Type} {p:α->Bool} {xs ys:List α} {i j:Nat}
structure J1(p:α->Bool)(xs ys:List α)(i j:Nat):Prop where
 len:ys.length=xs.length
 lt:i<j
 le:j<=xs.length
 kept:ys.take i=(xs.take j).filter λx=>!p x
 rest:ys.drop j=xs.drop j
theorem J1.start{k:Nat}{x:α}(z:xs[k]?=some x)(h:∀(j:Nat) y,j<k->xs[j]?=some y->p y=false)(hp:p x=true):J1 p xs xs k (k+1):=by
 have am:=(yt.1 z).1;refine⟨rfl,by omega,by omega,?_,rfl⟩;rw[DA z,wm];have J:(xs.take k).filter (λx=>!p x)=xs.take k:=by rw[uz];intro y hy;obtain⟨j,D⟩:=xq hy;have fT:=(yt.1 D).1;rw[xT] at fT;rw[vh (by omega)] at D;simp[h j y (by omega) D]
 rw[J];simp[hp]
theorem J1.drop(h:J1 p xs ys i j){x:α}(E:xs[j]?=some x)(hp:p x=true):J1 p xs ys i (j+1):=by
 have am:=(yt.1 E).1;refine⟨h.len,by have:=h.lt;omega,by omega,?_,?_⟩
 .rw[h.kept,DA E,wm]
  simp[hp]
 .have:=congrArg (List.drop 1) h.rest
  rw[uG,uG] at this;exact this
theorem J1.keep(h:J1 p xs ys i j){x:α}(E:xs[j]?=some x)(hp:p x=false):J1 p xs (ys.set i x) (i+1) (j+1):=by
 have am:=(yt.1 E).1;have dZ:=h.lt;refine⟨by rw[xP];exact h.len,by omega,by omega,?_,?_⟩
 .have e:(ys.set i x).take (i+1)=ys.take i++[x]:=by
   have A:(ys.set i x)[i]?=some x:=by rw[List.getElem?_set_self (by rw[h.len];omega)]
   rw[DA A,List.take_set_of_le (yv _)]
  rw[e,h.kept,DA E,wm];simp[hp]
 .rw[List.drop_set_of_lt (by omega)]
  have:=congrArg (List.drop 1) h.rest;rw[uG,uG] at this;exact this
theorem J1.next(h:J1 p xs ys i j):ys[j]?=xs[j]? :=by
 have:=congrArg (λl=>l[0]?) h.rest;simpa using this
theorem J1.done(h:J1 p xs ys i j)(D:j=xs.length):ys.take i=xs.filter λx=>!p x:=by rw[h.kept,D,xo]
theorem Ti(h:F8 p xs≠ -1):∃k x,F8 p xs=((k:Nat):Int)/\xs[k]?=some x/\p x=true/\∀(j:Nat) y,j<k->xs[j]?=some y->p y=false:=by
 unfold F8 at h ⊢
 split
 .rename_i ha
  have hl:xs.findIdx p<xs.length:=vM.2 (vP.1 ha);refine⟨_,xs[xs.findIdx p],rfl,yw hl,vC,λj y D hy=>?_⟩;obtain⟨eu,rfl⟩:=yt.1 hy;have:=List.not_of_lt_findIdx D;simpa using this
 .rename_i ha
  rw[if_neg ha] at h;exact absurd rfl h
theorem WC(h:F8 p xs= -1):xs.filter (λx=>!p x)=xs:=by
 rw[uz];intro x E;unfold F8 at h
 split at h
 .omega
 .rename_i ha
  simp only[vP,not_exists,not_and] at ha;simpa using ha x E
end
theorem cM{lo e n sz g V:Nat}{w:World}{xs:List Value}(h:w.ownsRow lo e sz (.slice (some ⟨g,0,none⟩) n V) n xs):lo<=g/\g<w.heap.size:=yk h g rfl
theorem PF:∀w,(zeroValue 112).run prog w=.ok (.agg #[.int .i64 0,.int .i64 0,.int .i64 0,.bool false]) w:=λ_=>by kernel_rfl
theorem Ik{lo:Nat}(F:Nat)(ar:Array Value)(p:Ad->Bool)(v:Value)(xs:List Ad)(w:World)(h:AQ lo 112 4 AU w v xs)(b7:lo<=w.heap.size)
 (hF:∀al w,(callFunc F al).run prog w=.ok (.enter F al) w)(N:∀x,x∈xs->∀W,Below lo w W->Calls prog F (#[x.val]++ar) W λe W'=>e=.returned (.bool (p x))/\Below W.heap.size W W'):
 Calls prog 253 #[v,.func (.func F) #[] ar] w λe w'=>∃v',e=.returned v'/\AQ lo 112 4 AU w' v' (xs.filter λx=>!p x)/\Below lo w w':=by
 have C0:=JL F ar p v xs w h.rd hF (λx E W hW=>N x E W (hW.mono b7))
 by_cases cP:F8 p xs= -1
 .have S:=AA (WC cP)
  rw[cP] at C0;have hc:=AA h;obtain⟨a,c,rfl,H,aq⟩:=h.rd.shape;have C:=AA C0;clear C0 N cP h;go_in;go_wp2_with (refine(C.out).mono ?_;rintro e w1 ⟨rfl,bu⟩);go_ret;exact⟨_,rfl,by rw[S.out];exact hc.out.below bu,bu.mono b7⟩
 .obtain⟨k,x0,z,fC,gz,az⟩:=Ti cP
  rw[z] at C0;have iH:k<xs.length:=(yt.1 fC).1;obtain⟨g,V,rfl,H,aq,Z,fo,e8⟩:=h.zM (by omega);unfold maxLen at aq;have t0:((k:Int)== -1)=false:=by rw[beq_eq_false_iff_ne];omega
  have C:=AA C0;have Hf:=AA N;have S0:=AA (J1.start fC az gz);have HO:=AA h;clear C0 N cP z fC gz az h e8;go_in;go_wp2_with (refine(C.out).mono ?_;rintro e w1 ⟨rfl,bu⟩);go_loopw [5,6] (λi5 j6 wr=>∃i j:Nat,∃ys:List Ad,i5=.int .i64 i/\j6=.int .i64 j/\J1 p xs ys i j/\AQ lo 112 4 AU wr (.slice (some ⟨g,0,none⟩) xs.length V) ys/\Below lo w wr) (λ_ j6 _=>xs.length - (intOf j6).toNat)
  exact⟨k,k+1,xs,rfl,by go_num,S0.out,HO.out.below bu,bu.mono b7⟩
  clear bu HO;obtain⟨i,j,ys,rfl,rfl,hS,hO,ac⟩:=hrel;have dZ:=hS.lt;have eu:=hS.le;have bw:=hS.len;have S:=AA hS;have dd:AQ lo 112 4 AU wr (.slice (some ⟨g,0,none⟩) ys.length V) ys:=by rw[bw];exact hO
  have gQ:∀q,wr.frozen? ⟨g,q,none⟩=false:=λq=>xJ dd q
  have dX:lo<=wr.heap.size:=yB b7 ac.size
  by_cases am:j<xs.length
  .obtain⟨x,E⟩:∃x,xs[j]?=some x:=⟨_,yw am⟩
   have gL:j<ys.length:=by omega
   have gM:i<ys.length:=by omega
   obtain⟨d0,d1,d2,d3⟩:=AQ.zL dd (k:=j) gL;obtain⟨e0,e1,e2,e3⟩:=AQ.zL dd (k:=i) gM;have gm:AT ys j=x:=by have:=S.out.next;rw[E] at this;simp[AT,this]
   rw[gm] at d0 d1 d2 d3;have iM:=(cM dd);have Cf:=AA (Hf.out x (yh E) (wr.alloc (.cells #[.int .i64 x.e,.int .i64 x.p,.int .i64 x.f,.bool x.w] 112)) (ac.alloc dX _));have Hx:=AA E;have gg:=AA dd;have iu:i<xs.length:=by omega
   clear hS hO dd E gm bw gL gM;go_wp2_with fail;refine(Cf.out).mono ?_;rintro e w2 ⟨rfl,ay⟩;have bn:=(ac.alloc dX (.cells #[.int .i64 x.e,.int .i64 x.p,.int .i64 x.f,.bool x.w] 112)).trans (ay.mono (by simp;omega));have ea:=(AI wr (.cells #[.int .i64 x.e,.int .i64 x.p,.int .i64 x.f,.bool x.w] 112)).trans (ay.mono (AI _ _).size);have g0:=AA (gg.out.below ea);obtain⟨ed,iO⟩:=bF ay;have hz:wr.heap.size<w2.heap.size:=by have:=ay.size;simp at this;omega
   cases hp:p x
   .have SK:=AA (S.out.keep Hx.out hp)
    have Hp:=AA hp;clear hp;have gX:=AQ.stored CZ g0.out (k:=i) (by rw[S.out.len];exact iu) x;have ST:=AA gX;clear gX;have BL:=AA (AM bn ST.out.2 Z (yB dX ea.size));clear ea bn ay;go_wp2_with fail;go_roundw;exact⟨i+1,j+1,ys.set i x,by go_num,by go_num,SK.out,by have:=ST.out.1;rw[S.out.len] at this;exact this,BL.out⟩;simp[intOf];omega
   .have SD:=AA (S.out.drop Hx.out hp)
    have Hp:=AA hp;clear hp;have HB:=AA bn;clear ea bn ay;go_wp2_with fail;go_roundw;exact⟨i,j+1,ys,rfl,by go_num,SD.out,by have:=g0.out;rw[S.out.len] at this;exact this,HB.out⟩;simp[intOf];omega
  .have gK:j=xs.length:=by omega
   have hd:=AA (hS.done gK);have dy:i<xs.length:=by omega
   have eD:wr.ownsRow lo 112 4 (.slice (some ⟨g,0,none⟩) xs.length V) xs.length (Cc AU ys):=by have:=dd;unfold AQ at this;rwa [bw] at this
   obtain⟨w3,fb,dQ,gO⟩:=Mb (P:=prog) (sz:=4) (t:=26) underlying26 PF rfl (by simp[Value.cells,xG]) eD dy;have hE:(Cc AU ys).take (i*4)=Cc AU (xs.filter λx=>!p x):=by
    rw[<-hd.out]
    conv=>lhs;rw[<-tf i ys,Bf]
    rw[rX];rw[Jo CZ,xT]
    congr 1;omega
   have hL:(xs.filter λx=>!p x).length=i:=by rw[<-hd.out,xT];omega
   rw[hE] at dQ;have R:=AA (show AQ lo 112 4 AU w3 (.slice (some ⟨g,0,none⟩) i V) (xs.filter λx=>!p x) by unfold AQ;rw[hL];exact dQ);have BL:=AA (AM ac gO Z dX);have il:¬V=i:=by omega
   have f4:=λty=>fb ty (V - i)
   clear hO dd eD dQ hE hL fb gO bw hS gQ gK hd;go_wp2_with fail;go_ret;exact⟨_,rfl,R.out,BL.out⟩
theorem Dg{lo:Nat}{w:World}{t ty:TypeId}(e:TypeId)(hk:Value)(sz bytes:Nat)(ht:prog.underlying t=some (.slice e))(A:(prog.info? e).map (λi=>(i.zero,i.size,i.bytes))=some (some hk,sz,bytes))
 (eh:hk.cells.size=sz)(db:0<sz){g:Nat}(Y:w.heap[g]?=some (.cells #[] e (0,0)))(b7:lo<=g){u:Value}{m:Nat}{news:List Value}(hr:Rd w u sz m news)(J:∀u∈news,u.oneCell'=true)
 (cd:m*bytes<=140737488355328):∃v' w',(vF #[t,t] ty #[.slice (some ⟨g,0,none⟩) 0 0,u]).run prog w=.ok v' w'/\w'.ownsRow lo e sz v' m news/\Below w.heap.size w w'/\(∀k,v'.ownBlock=some k->k=g∨w.heap.size<=k):=by
 obtain⟨i0,dm,dT,dP,dS⟩:=tY A;obtain⟨ao,c,rfl,gG,aq,hl,a6,H⟩:=hr;have fo:g<w.heap.size:=(wM.1 Y).1;have bb:∀l,l<=g->w.ownsRow l e sz (.slice (some ⟨g,0,none⟩) 0 0) 0 []:=λl hl=>⟨by simp,.inr ⟨g,0,#[],rfl,hl,Y,yv _,by simp[maxLen],by simp,by simp⟩⟩
 rcases wj m with rfl|hm
 .have cT:news=[]:=xM (by simpa using hl)
  subst cT;cases ao with
  |none=>have cq:=a6 rfl;subst cq;exact⟨_,w,by simp[vF,tg ht,sizeOf,typeInfo,dm,sh,Builtin.firstCells,storeCells],bb lo b7,yD _ _,λk z=>by simp[vK] at z;exact .inl z.symm⟩
  |some a=>have N:=run_firstCells_some (P:=prog) w i0.size 0 a 0 c [] (by simp) (by simp);exact⟨_,w,by simp[vF,tg ht,sizeOf,typeInfo,dm,sh,N,storeCells],bb lo b7,yD _ _,λk z=>by simp[vK] at z;exact .inl z.symm⟩
 .obtain⟨b,X,rfl,ax⟩:=H hm
  obtain⟨v',w',cN,r1,r2⟩:=run_append_arg_grows (P:=prog) w t ty e i0 hk sz bytes ht dm dT dP dS eh db ⟨g,0,none⟩ 0 0 [] (by simp) (by simp) ⟨b,X,none⟩ m c news hl (by
   intro j u hu;have D:j<news.length:=(yt.1 hu).1;have dl:(⟨b,X,none⟩:Addr).add j=⟨b,X+j,none⟩:=by unfold um;split<;>simp_all
   rw[dl,ax j (by omega),hu]) (by omega) (by omega) (by rw[Nat.zero_add];exact cd)
  have hB:=Below.zu r2;have gl:w'.ownsRow w.heap.size e sz v' m news:=by simpa using r1
  exact⟨v',w',cN,BU gl (by omega),hB,λk z=> .inr (gl.lt k z).1⟩
theorem Sq{w:World}{vs:List Value}(h:Fq (Ax w) vs m):∀u∈Cc GO vs,u.oneCell'=true:=by
 intro u hu;obtain⟨x,E,K⟩:=wK.1 hu;simp[GO] at K;subst K;obtain⟨i,A⟩:=xq E;obtain⟨r,hr⟩:∃r,m[i]?=some r:=⟨_,yw (by rw[<-h.1];exact(yt.1 A).1)⟩
 obtain⟨a,c,rfl,_⟩:=(h.2 i _ r A hr).open;rfl
theorem YN{w:World}{ps:List (Value×Int)}{es:List Eh}(h:Fq (λp e=>BY w p.1 e.zT/\p.2=e.root) ps es):∀u∈Cc Ep ps,u.oneCell'=true:=by
 intro u hu;obtain⟨x,E,K⟩:=wK.1 hu;obtain⟨i,A⟩:=xq E;obtain⟨r,hr⟩:∃r,es[i]?=some r:=⟨_,yw (by rw[<-h.1];exact(yt.1 A).1)⟩
 obtain⟨a,c,e,_⟩:=BK.shape (h.2 i _ r A hr).1;simp[Ep] at K
 rcases K with rfl|rfl
 .rw[e];rfl
 .rfl
theorem Tryz.zE:(prog.info? 92).map (λi=>(i.zero,i.size,i.bytes))=some (some (.agg #[.int .i64 0,.string ⟨#[]⟩,.int .i64 0]),3,32):=by kernel_rfl
theorem KG(v:Value)(xs:List AV)(w:World)(h:BK 3 A3 w v xs)(K:xs.length<=1048576):
 Calls prog 117 #[v] w λe w'=>∃v',e=.returned v'/\AQ w.heap.size 92 3 A3 w' v' xs/\Below w.heap.size w w':=by
 have bt:∀u∈Cc A3 xs,u.oneCell'=true:=by
  intro u hu;obtain⟨s,_,K⟩:=wK.1 hu;simp[A3] at K
  rcases K with rfl|rfl|rfl<;>rfl
 have h':=h;obtain⟨a,c,rfl,bK,aq,hl,a6,H⟩:=h';have hq:=λw=>wE (P:=prog) w 24 92 a xs.length c 0 0 underlying24
 have ci:=AA bt;clear bt;cases a with
 |none=>have cq:=a6 rfl;subst cq;have h0:xs=[]:=xM (by omega);subst h0;simp only[wU] at hq;go_in;go_wp2;go_ret;exact⟨_,rfl,xh _ _ _ _,yD _ _⟩
 |some ad=>clear H a6;have bB:(Cc A3 xs).length=xs.length*3:=hl;have Hl:=AA bB;clear hl bB;go_in;go_wp2_with (refine EW (lo:=w.heap.size) (v:=.slice (some ⟨w.heap.size,0,none⟩) 0 0) (n:=0) (xs:=[]) (m:=xs.length) (news:=Cc A3 xs) rfl rfl 92 (.agg #[.int .i64 0,.string ⟨#[]⟩,.int .i64 0]) 3 32 underlying24 Tryz.zE rfl (by decide) rfl (Cu _ _ _) rfl (Rd.alloc h _) ci.out (by unfold maxLen;omega) (by omega) (by simp) ?_;intro v' w' bb _ ac);go_ret;refine⟨_,rfl,by simpa[AQ] using bb,((yD _ _).alloc (yv _) _).trans ac⟩
theorem Tryz.infoEnvK:(prog.info? 74).map (λi=>(i.zero,i.size,i.bytes))=some (some (.agg #[.slice none 0 0,.int .i64 0]),2,32):=by kernel_rfl
theorem TP(v:Value)(xs:List (Value×Int))(w:World)(h:BK 2 Ep w v xs)(K:xs.length<=1048576)(bt:∀u∈Cc Ep xs,u.oneCell'=true):
 Calls prog 118 #[v] w λe w'=>∃v',e=.returned v'/\AQ w.heap.size 74 2 Ep w' v' xs/\Below w.heap.size w w':=by
 have h':=h;obtain⟨a,c,rfl,bK,aq,hl,a6,H⟩:=h';have hq:=λw=>wE (P:=prog) w 25 74 a xs.length c 0 0 underlying25
 have ci:=AA bt;clear bt;cases a with
 |none=>have cq:=a6 rfl;subst cq;have h0:xs=[]:=xM (by omega);subst h0;simp only[wU] at hq;go_in;go_wp2;go_ret;exact⟨_,rfl,xh _ _ _ _,yD _ _⟩
 |some ad=>clear H a6;have bB:(Cc Ep xs).length=xs.length*2:=hl;have Hl:=AA bB;clear hl bB;go_in;go_wp2_with (refine EW (lo:=w.heap.size) (v:=.slice (some ⟨w.heap.size,0,none⟩) 0 0) (n:=0) (xs:=[]) (m:=xs.length) (news:=Cc Ep xs) rfl rfl 74 (.agg #[.slice none 0 0,.int .i64 0]) 2 32 underlying25 Tryz.infoEnvK rfl (by decide) rfl (Cu _ _ _) rfl (Rd.alloc h _) ci.out (by unfold maxLen;omega) (by omega) (by simp) ?_;intro v' w' bb _ ac);go_ret;refine⟨_,rfl,by simpa[AQ] using bb,((yD _ _).alloc (yv _) _).trans ac⟩
theorem Tryz.zF:(prog.info? 112).map (λi=>(i.zero,i.size,i.bytes))=some (some (.agg #[.int .i64 0,.int .i64 0,.int .i64 0,.bool false]),4,32):=by kernel_rfl
theorem JF(v:Value)(xs:List Ad)(w:World)(h:BK 4 AU w v xs)(K:xs.length<=1048576):
 Calls prog 119 #[v] w λe w'=>∃v',e=.returned v'/\AQ w.heap.size 112 4 AU w' v' xs/\Below w.heap.size w w':=by
 have bt:∀u∈Cc AU xs,u.oneCell'=true:=by
  intro u hu;obtain⟨s,_,K⟩:=wK.1 hu;simp[AU] at K
  rcases K with rfl|rfl|rfl|rfl<;>rfl
 have h':=h;obtain⟨a,c,rfl,bK,aq,hl,a6,H⟩:=h';have hq:=λw=>wE (P:=prog) w 26 112 a xs.length c 0 0 underlying26
 have ci:=AA bt;clear bt;cases a with
 |none=>have cq:=a6 rfl;subst cq;have h0:xs=[]:=xM (by omega);subst h0;simp only[wU] at hq;go_in;go_wp2;go_ret;exact⟨_,rfl,xh _ _ _ _,yD _ _⟩
 |some ad=>clear H a6;have bB:(Cc AU xs).length=xs.length*4:=hl;have Hl:=AA bB;clear hl bB;go_in;go_wp2_with (refine EW (lo:=w.heap.size) (v:=.slice (some ⟨w.heap.size,0,none⟩) 0 0) (n:=0) (xs:=[]) (m:=xs.length) (news:=Cc AU xs) rfl rfl 112 (.agg #[.int .i64 0,.int .i64 0,.int .i64 0,.bool false]) 4 32 underlying26 Tryz.zF rfl (by decide) rfl (Cu _ _ _) rfl (Rd.alloc h _) ci.out (by unfold maxLen;omega) (by omega) (by simp) ?_;intro v' w' bb _ ac);go_ret;refine⟨_,rfl,by simpa[AQ] using bb,((yD _ _).alloc (yv _) _).trans ac⟩
def DG(x:Bo):List Value:=[.int .i64 x.w,.int .i64 x.a,.bool x.u]
theorem En(x:Bo):(DG x).length=3:=rfl
theorem Tryz.zj:(prog.info? 43).map (λi=>(i.zero,i.size,i.bytes))=some (some (.agg #[.int .i64 0,.int .i64 0,.bool false]),3,24):=by kernel_rfl
theorem RD(v:Value)(xs:List Bo)(w:World)(h:BK 3 DG w v xs)(K:xs.length<=1048576):
 Calls prog 66 #[v] w λe w'=>∃v',e=.returned v'/\AQ w.heap.size 43 3 DG w' v' xs/\Below w.heap.size w w':=by
 have bt:∀u∈Cc DG xs,u.oneCell'=true:=by
  intro u hu;obtain⟨s,_,K⟩:=wK.1 hu;simp[DG] at K
  rcases K with rfl|rfl|rfl<;>rfl
 have h':=h;obtain⟨a,c,rfl,bK,aq,hl,a6,H⟩:=h';have hq:=λw=>wE (P:=prog) w 30 43 a xs.length c 0 0 underlying30
 have ci:=AA bt;clear bt;cases a with
 |none=>have cq:=a6 rfl;subst cq;have h0:xs=[]:=xM (by omega);subst h0;simp only[wU] at hq;go_in;go_wp2;go_ret;exact⟨_,rfl,xh _ _ _ _,yD _ _⟩
 |some ad=>clear H a6;have bB:(Cc DG xs).length=xs.length*3:=hl;have Hl:=AA bB;clear hl bB;go_in;go_wp2_with (refine EW (lo:=w.heap.size) (v:=.slice (some ⟨w.heap.size,0,none⟩) 0 0) (n:=0) (xs:=[]) (m:=xs.length) (news:=Cc DG xs) rfl rfl 43 (.agg #[.int .i64 0,.int .i64 0,.bool false]) 3 24 underlying30 Tryz.zj rfl (by decide) rfl (Cu _ _ _) rfl (Rd.alloc h _) ci.out (by unfold maxLen;omega) (by omega) (by simp) ?_;intro v' w' bb _ ac);go_ret;refine⟨_,rfl,by simpa[AQ] using bb,((yD _ _).alloc (yv _) _).trans ac⟩
theorem Tryz.zJ:(prog.info? 9).map (λi=>(i.zero,i.size,i.bytes))=some (some (.string ⟨#[]⟩),1,16):=by kernel_rfl
theorem PG(v:Value)(xs:List ByteArray)(w:World)(h:BK 1 BD w v xs)(K:xs.length<=1048576):
 Calls prog 120 #[v] w λe w'=>∃v',e=.returned v'/\AQ w.heap.size 9 1 BD w' v' xs/\Below w.heap.size w w':=by
 have bt:∀u∈Cc BD xs,u.oneCell'=true:=by intro u hu;obtain⟨s,_,K⟩:=wK.1 hu;simp[BD] at K;subst K;rfl
 have h':=h;obtain⟨a,c,rfl,bK,aq,hl,a6,H⟩:=h';have hq:=λw=>wE (P:=prog) w 72 9 a xs.length c 0 0 underlying72
 have ci:=AA bt;clear bt;cases a with
 |none=>have cq:=a6 rfl;subst cq;have h0:xs=[]:=xM (by omega);subst h0;simp only[wU] at hq;go_in;go_wp2;go_ret;exact⟨_,rfl,xh _ _ _ _,yD _ _⟩
 |some ad=>clear H a6;have bB:(Cc BD xs).length=xs.length*1:=hl;have Hl:=AA bB;clear hl bB;go_in;go_wp2_with (refine EW (lo:=w.heap.size) (v:=.slice (some ⟨w.heap.size,0,none⟩) 0 0) (n:=0) (xs:=[]) (m:=xs.length) (news:=Cc BD xs) rfl rfl 9 (.string ⟨#[]⟩) 1 16 underlying72 Tryz.zJ rfl (by decide) rfl (Cu _ _ _) rfl (Rd.alloc h _) ci.out (by unfold maxLen;omega) (by omega) (by simp) ?_;intro v' w' bb _ ac);go_ret;refine⟨_,rfl,by simpa[AQ] using bb,((yD _ _).alloc (yv _) _).trans ac⟩
theorem Tryz.infoRowsK:(prog.info? 29).map (λi=>(i.zero,i.size,i.bytes))=some (some (.slice none 0 0),1,24):=by kernel_rfl
theorem MR(v:Value)(xs:List Value)(w:World)(h:BK 1 GO w v xs)(K:xs.length<=1048576)(bt:∀u∈Cc GO xs,u.oneCell'=true):
 Calls prog 121 #[v] w λe w'=>∃v',e=.returned v'/\AQ w.heap.size 29 1 GO w' v' xs/\Below w.heap.size w w':=by
 have h':=h;obtain⟨a,c,rfl,bK,aq,hl,a6,H⟩:=h';have hq:=λw=>wE (P:=prog) w 23 29 a xs.length c 0 0 underlying23
 have ci:=AA bt;clear bt;cases a with
 |none=>have cq:=a6 rfl;subst cq;have h0:xs=[]:=xM (by omega);subst h0;simp only[wU] at hq;go_in;go_wp2;go_ret;exact⟨_,rfl,xh _ _ _ _,yD _ _⟩
 |some ad=>clear H a6;have bB:(Cc GO xs).length=xs.length*1:=hl;have Hl:=AA bB;clear hl bB;go_in;go_wp2_with (refine EW (lo:=w.heap.size) (v:=.slice (some ⟨w.heap.size,0,none⟩) 0 0) (n:=0) (xs:=[]) (m:=xs.length) (news:=Cc GO xs) rfl rfl 29 (.slice none 0 0) 1 24 underlying23 Tryz.infoRowsK rfl (by decide) rfl (Cu _ _ _) rfl (Rd.alloc h _) ci.out (by unfold maxLen;omega) (by omega) (by simp) ?_;intro v' w' bb _ ac);go_ret;refine⟨_,rfl,by simpa[AQ] using bb,((yD _ _).alloc (yv _) _).trans ac⟩
theorem Wf{lo e sz n m g V:Nat}{w:World}{xs:List Value}(h:w.ownsRow lo e sz (.slice (some ⟨g,0,none⟩) n V) n xs)(hn:n<=m)(hm:m<=V):∃ys,ys.take (n*sz)=xs/\w.ownsRow lo e sz (.slice (some ⟨g,0,none⟩) m V) m ys:=by
 rcases h.2 with⟨h0,_⟩|⟨g',cap',bD,hv,Y,Z,bK,aq,dp,htake⟩
 .cases h0
 .cases hv
  have J:n*sz<=m*sz:=wA _ hn;have O:m*sz<=V*sz:=wA _ hm;refine⟨bD.toList.take (m*sz),by rw[tN,ux J];exact htake,?_,.inr ⟨g,V,bD,rfl,Y,Z,hm,aq,dp,rfl⟩⟩;rw[xT,sW,dp];omega
theorem Nn{P:Program}{ops:Array Oper}{o:Oper}{a:Act}{Q:Exit->Act->World->Prop}{w w':World}{s x:Operand}{t:TypeId}(ex:o.guard=none)(ho:o.op=.call {callee:=.builtin .append,args:= #[s,x],argTypes:= #[t,t]})
 {v u v':Value}(K:a.eval s=v)(E:a.eval x=u)(cN:(vF #[t,t] o.type #[v,u]).run P w=.ok v' w')(h:wpList P ops Q rest (a.put o.dst v') w'):wpList P ops Q (o::rest) a w:=
 wpList_plain ex λ_ hK=>Cm ho K E cN (hK _ _ h)
theorem Nw{lo:Nat}(v:Value)(xs:List Ad)(w:World)(h:AQ lo 112 4 AU w v xs)(b7:lo<=w.heap.size)(h4:xs.length=4):
 Calls prog 260 #[v,.int .i64 0,.int .i64 1] w λe w'=>∃v',e=.returned v'/\AQ lo 112 4 AU w' v' (xs.drop 1)/\Below lo w w':=by
 obtain⟨g,V,rfl,H,aq,Z,fo,e8⟩:=h.zM (by omega);have h':w.ownsRow lo 112 4 (.slice (some ⟨g,0,none⟩) 4 V) 4 (Cc AU xs):=by have:=h;unfold AQ at this;rwa [h4] at this
 rw[h4] at H ⊢;unfold maxLen at aq;obtain⟨i0,dm,dT,dP,dS⟩:=tY Tryz.zF;have eY:((Cc AU xs).drop 4).length=3*4:=by rw[wT,Jo CZ,h4]
 have cN:=λW (hW:∀k,k<w.heap.size->W.heap[k]?=w.heap[k]?) (hO:W.ownsRow lo 112 4 (.slice (some ⟨g,0,none⟩) 4 V) 4 (Cc AU xs)) ty=>
  run_append_fits (P:=prog) W lo 26 ty 112 i0 4 underlying26 dm dP g 0 V [] (Ot hO (yg _)) ⟨g,4,none⟩ 3 (V - 1) ((Cc AU xs).drop 4) eY (by
   intro j u hu;have D:j<12:=by have:=(yt.1 hu).1;omega
   have e:(⟨g,4,none⟩:Addr).add j=⟨g,4+j,none⟩:=by unfold um;split<;>simp_all
   rw[e,xB hO (4+j) (by omega),<-hu,sJ]) (by
   intro u hu;obtain⟨s,_,K⟩:=wK.1 (uI hu);simp[AU] at K
   rcases K with rfl|rfl|rfl|rfl<;>rfl) (by omega)
 have gU:¬V=1:=by omega
 have hO:=AA h';have HR:=AA cN;clear cN h h' dm dT dP dS eY;go_in;go_wp2_with fail;go_still_tail 6,mixed
 change wpList _ _ _ _ _ w.drew
 have eH:Below w.heap.size w w.drew:=Av (yD _ _) 1;have dd:=AA (Bx hO.out eH);obtain⟨w3,d5,eD,gP⟩:=HR.out w.drew eH.block dd.out 26;have bn:=AM (eH.mono b7) gP Z (yB b7 eH.size);have fN:lo<=w3.heap.size:=yB b7 bn.size;obtain⟨ys,gp,dQ⟩:=Wf eD (show 0+3<=4 by decide) H;obtain⟨w4,fb,eI,gN⟩:=Mb (P:=prog) (sz:=4) (t:=26) underlying26 PF rfl (by simp[Value.cells,xG]) dQ (show 3<4 by decide);have hE:ys.take (3*4)=Cc AU (xs.drop 1):=by
  have e:(Cc AU xs).drop 4=Cc AU (xs.drop 1):=by
   cases xs with
   |nil=>rfl
   |cons x xs=>rw[G0,List.drop_left' (CZ x)];rfl
  rw[<-e];simpa using gp
 rw[hE] at eI;have gT:¬V=3:=by omega
 have R:=AA (show AQ lo 112 4 AU w4 (.slice (some ⟨g,0,none⟩) 3 V) (xs.drop 1) by unfold AQ;rw[wT,h4];exact eI);have BL:=AA (AM bn gN Z fN);have f4:=λty=>fb ty (V - 3)
 simp only[Nat.zero_add] at d5;clear fb eD dQ eI gP gN gp hE bn eH;generalize w.drew=w2 at d5 ⊢;refine Nn rfl rfl rfl rfl d5 ?_;clear d5;go_wp2_with fail;go_ret;exact⟨_,rfl,R.out,BL.out⟩
end Go.Proofs.YtpdjjjdkhedibaaGreatDoor
namespace Go.Proofs
open Go.Shelf
def Tryz.lays189_ren:vg:=⟨fun|189=>155|125=>203|257=>202|128=>248|129=>249|294=>239|295=>240|296=>241|297=>242|298=>243|299=>244|216=>245|300=>246|301=>247|328=>267|329=>268|330=>269|331=>270|332=>271|215=>272|343=>283|n=>n,fun|28=>29|3=>3|46=>174|0=>0|51=>210|53=>212|4=>4|183=>203|182=>202|131=>97|5=>5|9=>9|218=>223|222=>186|228=>232|229=>123|n=>n,fun|n=>n⟩
theorem Tryz.lays189:Go.Proofs.Lays.n189 prog Tryz.lays189_ren:= {
 mixed:=by kernel_rfl
 f125:=func203.trans (congrArg some (by kernel_rfl))
 f128:=func248.trans (congrArg some (by kernel_rfl))
 f129:=func249.trans (congrArg some (by kernel_rfl))
 f189:=func155.trans (congrArg some (by kernel_rfl))
 f215:=func272.trans (congrArg some (by kernel_rfl))
 f216:=func245.trans (congrArg some (by kernel_rfl))
 f257:=func202.trans (congrArg some (by kernel_rfl))
 f294:=func239.trans (congrArg some (by kernel_rfl))
 f295:=func240.trans (congrArg some (by kernel_rfl))
 f296:=func241.trans (congrArg some (by kernel_rfl))
 f297:=func242.trans (congrArg some (by kernel_rfl))
 f298:=func243.trans (congrArg some (by kernel_rfl))
 f299:=func244.trans (congrArg some (by kernel_rfl))
 f300:=func246.trans (congrArg some (by kernel_rfl))
 f301:=func247.trans (congrArg some (by kernel_rfl))
 f328:=func267.trans (congrArg some (by kernel_rfl))
 f329:=func268.trans (congrArg some (by kernel_rfl))
 f330:=func269.trans (congrArg some (by kernel_rfl))
 f331:=func270.trans (congrArg some (by kernel_rfl))
 f332:=func271.trans (congrArg some (by kernel_rfl))
 f343:=func283.trans (congrArg some (by kernel_rfl))
 t0:=underlying0
 a0:=tW
 z0:=uh
 v0:=uT
 t3:=underlying3
 a3:=uF
 z3:=uW
 v3:=vA
 t4:=underlying4
 a4:=uE
 z4:=uV
 v4:=vz
 t5:=underlying5
 a5:=Tryz.isAgg5
 z5:=Tryz.sizeOf5
 v5:=rW
 t9:=underlying9
 a9:=sV
 z9:=tu
 v9:=tT
 t28:=underlying29
 a28:=tr
 z28:=tD
 v28:=tZ
 t46:=underlying174
 a46:=Tryz.isAgg174
 z46:=rP
 v46:=sk
 t51:=underlying210
 a51:=Tryz.isAgg210
 z51:=Tryz.sizeOf210
 v51:=Tryz.zeroValue210
 t53:=underlying212
 a53:=Tryz.isAgg212
 z53:=Tryz.sizeOf212
 v53:=Tryz.zeroValue212
 t131:=underlying97
 a131:=Tryz.isAgg97
 z131:=Tryz.sizeOf97
 v131:=Tryz.zeroValue97
 t182:=underlying202
 a182:=Tryz.isAgg202
 z182:=Tryz.sizeOf202
 v182:=Tryz.zeroValue202
 t183:=underlying203
 a183:=Tryz.isAgg203
 z183:=Tryz.sizeOf203
 v183:=Tryz.zeroValue203
 t218:=underlying223
 a218:=Tryz.isAgg223
 z218:=Tryz.sizeOf223
 v218:=Tryz.zeroValue223
 t222:=underlying186
 a222:=Tryz.isAgg186
 z222:=Tryz.sizeOf186
 v222:=Tryz.zeroValue186
 t228:=underlying232
 a228:=Tryz.isAgg232
 z228:=Tryz.sizeOf232
 v228:=Tryz.zeroValue232
 t229:=underlying123
 a229:=Tryz.isAgg123
 z229:=Tryz.sizeOf123
 v229:=Tryz.zeroValue123}
def Tryz.lays2n20_ren:vg:=⟨fun|20=>156|n=>n,fun|22=>29|3=>3|4=>4|0=>0|n=>n,fun|n=>n⟩
theorem Tryz.lays2n20:Go.Proofs.Lays2.n20 prog Tryz.lays2n20_ren:= {
 mixed:=by kernel_rfl
 f20:=func156.trans (congrArg some (by kernel_rfl))
 t0:=underlying0
 a0:=tW
 z0:=uh
 v0:=uT
 t3:=underlying3
 a3:=uF
 z3:=uW
 v3:=vA
 t4:=underlying4
 a4:=uE
 z4:=uV
 v4:=vz
 t22:=underlying29
 a22:=tr
 z22:=tD
 v22:=tZ
 i3:=by kernel_rfl}
def Tryz.lays107_ren:vg:=⟨fun|107=>251|108=>273|n=>n,fun|28=>29|3=>3|4=>4|0=>0|n=>n,fun|n=>n⟩
theorem Tryz.lays107:Go.Proofs.Lays.n107 prog Tryz.lays107_ren:= {
 mixed:=by kernel_rfl
 f107:=func251.trans (congrArg some (by kernel_rfl))
 f108:=func273.trans (congrArg some (by kernel_rfl))
 t0:=underlying0
 a0:=tW
 z0:=uh
 v0:=uT
 t3:=underlying3
 a3:=uF
 z3:=uW
 v3:=vA
 t4:=underlying4
 a4:=uE
 z4:=uV
 v4:=vz
 t28:=underlying29
 a28:=tr
 z28:=tD
 v28:=tZ}
def Tryz.lays160_ren:vg:=⟨fun|160=>200|232=>233|231=>232|227=>234|234=>236|233=>235|236=>238|235=>237|228=>263|271=>266|151=>265|197=>264|120=>282|152=>281|260=>280|137=>287|119=>288|224=>289|225=>290|217=>292|266=>293|n=>n,fun|9=>9|4=>4|3=>3|5=>5|117=>197|116=>196|0=>0|124=>200|21=>21|105=>220|46=>174|119=>235|139=>238|138=>237|n=>n,fun|3=>0|4=>1|n=>n⟩
theorem Tryz.lays160:Go.Proofs.Lays.n160 prog Tryz.lays160_ren:= {
 mixed:=by kernel_rfl
 f119:=func288.trans (congrArg some (by kernel_rfl))
 f120:=func282.trans (congrArg some (by kernel_rfl))
 f137:=func287.trans (congrArg some (by kernel_rfl))
 f151:=func265.trans (congrArg some (by kernel_rfl))
 f152:=func281.trans (congrArg some (by kernel_rfl))
 f160:=func200.trans (congrArg some (by kernel_rfl))
 f197:=func264.trans (congrArg some (by kernel_rfl))
 f217:=func292.trans (congrArg some (by kernel_rfl))
 f224:=func289.trans (congrArg some (by kernel_rfl))
 f225:=func290.trans (congrArg some (by kernel_rfl))
 f227:=func234.trans (congrArg some (by kernel_rfl))
 f228:=func263.trans (congrArg some (by kernel_rfl))
 f231:=func232.trans (congrArg some (by kernel_rfl))
 f232:=func233.trans (congrArg some (by kernel_rfl))
 f233:=func235.trans (congrArg some (by kernel_rfl))
 f234:=func236.trans (congrArg some (by kernel_rfl))
 f235:=func237.trans (congrArg some (by kernel_rfl))
 f236:=func238.trans (congrArg some (by kernel_rfl))
 f260:=func280.trans (congrArg some (by kernel_rfl))
 f266:=func293.trans (congrArg some (by kernel_rfl))
 f271:=func266.trans (congrArg some (by kernel_rfl))
 t0:=underlying0
 a0:=tW
 z0:=uh
 v0:=uT
 t3:=underlying3
 a3:=uF
 z3:=uW
 v3:=vA
 t4:=underlying4
 a4:=uE
 z4:=uV
 v4:=vz
 t5:=underlying5
 a5:=Tryz.isAgg5
 z5:=Tryz.sizeOf5
 v5:=rW
 t9:=underlying9
 a9:=sV
 z9:=tu
 v9:=tT
 t21:=underlying21
 a21:=Tryz.isAgg21
 z21:=Tryz.sizeOf21
 v21:=Tryz.zeroValue21
 t46:=underlying174
 a46:=Tryz.isAgg174
 z46:=rP
 v46:=sk
 t105:=underlying220
 a105:=Tryz.isAgg220
 z105:=Tryz.sizeOf220
 v105:=Tryz.zeroValue220
 t116:=underlying196
 a116:=Tryz.isAgg196
 z116:=Tryz.sizeOf196
 t117:=underlying197
 a117:=Tryz.isAgg197
 z117:=Tryz.sizeOf197
 v117:=Tryz.zeroValue197
 t119:=underlying235
 a119:=Tryz.isAgg235
 z119:=Tryz.sizeOf235
 t124:=underlying200
 a124:=Tryz.isAgg200
 z124:=Tryz.sizeOf200
 v124:=Tryz.zeroValue200
 t138:=underlying237
 a138:=Tryz.isAgg237
 z138:=Tryz.sizeOf237
 v138:=Tryz.zeroValue237
 t139:=underlying238
 a139:=Tryz.isAgg238
 z139:=Tryz.sizeOf238
 v139:=Tryz.zeroValue238
 g3:=by kernel_rfl
 g4:=by kernel_rfl}
def Tryz.lays99_ren:vg:=⟨fun|99=>111|206=>163|n=>n,fun|9=>9|4=>4|3=>3|n=>n,fun|n=>n⟩
theorem Tryz.lays99:Go.Proofs.Lays.n99 prog Tryz.lays99_ren:= {
 mixed:=by kernel_rfl
 f99:=func111.trans (congrArg some (by kernel_rfl))
 f206:=func163.trans (congrArg some (by kernel_rfl))
 t3:=underlying3
 a3:=uF
 z3:=uW
 v3:=vA
 t4:=underlying4
 a4:=uE
 z4:=uV
 v4:=vz
 t9:=underlying9
 a9:=sV
 z9:=tu
 v9:=tT}
end Go.Proofs
namespace Go.Proofs.YtpdjjjdkhedibaaGreatDoor
open Go.Proofs.Tryz
open Go.RowKit Go.Shelf
theorem Rz(l cs:List UInt8):Lib.trimLeftS l cs=[]↔∀b∈l,cs.contains b=true:=by
 unfold Lib.trimLeftS
 induction l with
 |nil=>simp
 |cons x l ih=>
  rw[sO]
  by_cases E:cs.contains x=true
  .rw[if_pos E,ih]
   constructor
   .intro h b Y
    rcases xD.1 Y with e|e
    .subst e;exact E
    .exact h b e
   .intro h b Y
    exact h b (vD _ Y)
  .rw[if_neg E]
   constructor
   .intro h;cases h
   .intro h;exact absurd (h x we) E
theorem Zu(l cs:List UInt8):uw l cs=[]↔∀b∈l,cs.contains b=true:=by
 unfold uw;rw[Rz];unfold Lib.trimRightS;constructor
 .intro h b Y
  by_cases H:cs.contains b=true
  .exact H
  .refine h b ?_
   have O:b∈l.reverse:=vd.2 Y;have:∀l':List UInt8,b∈l'->b∈l'.dropWhile (cs.contains ·):=by
    intro l'
    induction l' with
    |nil=>intro h;exact h
    |cons x l' ih=>
     intro h;rw[sO]
     split
     .next E=>
      rcases xD.1 h with e|e
      .subst e;exact absurd E H
      .exact ih e
     .exact h
   exact vd.2 (this _ O)
 .intro h b Y
  exact h b (vd.1 ((List.dropWhile_sublist _).subset (vd.1 Y)))
theorem QJ(c:UInt8):([97,98,99]:List UInt8).contains c=FU c:=by
 have h:∀n:Fin 256,([97,98,99]:List UInt8).contains ⟨⟨n⟩⟩=FU ⟨⟨n⟩⟩:=by decide+kernel
 exact h c.toBitVec.toFin
theorem UL(s:ByteArray)(h:s.size<=4):(uo ⟨(uw s.data.toList [97,98,99]).toArray⟩=.string ⟨#[]⟩)↔BV s=true:=by
 have e:BV s=s.data.toList.all FU:=by simp[BV,h]
 rw[e,xZ];have t:=Zu s.data.toList [97,98,99];constructor
 .intro hv b Y
  have:uw s.data.toList [97,98,99]=[]:=by simp only[Value.string.injEq,ByteArray.mk.injEq] at hv;have:=congrArg Array.toList hv;simpa using this
  rw[<-QJ];exact t.1 this b Y
 .intro ha
  rw[t.2 (λb Y=>by rw[QJ];exact ha b Y)]
theorem isEmpty_iff(r:ByteArray):r.toList.isEmpty=true↔r=⟨#[]⟩:=by rw[xj,tR];obtain⟨⟨l⟩⟩:=r;simp
theorem Fv(s:ByteArray)(w:World)(K:s.size<=maxLen):
 Calls prog 151 #[.string s] w λe w'=>e=.returned (.bool (BV s))/\Below w.heap.size w w':=by
 unfold maxLen at K
 by_cases h4:s.size<=4
 .have eA:=Any.strings_Trim_laid Tryz.lays160 (by kernel_rfl) s ⟨#[97,98,99]⟩ w (by omega) (by decide) (ascii_of_all (by decide))
  change Calls prog 200 _ _ (λe w'=>e=.returned (.string ⟨(uw s.data.toList [97,98,99]).toArray⟩)/\Below w.heap.size w w') at eA
  have R:=AA (UL s h4);have i4:(s.size:Int)<=4:=by omega
  generalize(⟨(uw s.data.toList [97,98,99]).toArray⟩:ByteArray)=r at eA R;go_in;go_wp2_with (refine eA.mono ?_;rintro e w1 ⟨rfl,Y⟩;have S:Hid (r.toList.isEmpty=BV s):=AA (by rw[Bool.eq_iff_iff,<-R.out,isEmpty_iff];simp));go_ret;exact⟨AH S.out,Y⟩
 .have S:=AA (show BV s=false by simp[BV,h4])
  have i4:¬(s.size:Int)<=4:=by omega
  go_in;go_wp2_with fail;go_ret;exact⟨AH S.out.symm,yD _ _⟩
end Go.Proofs.YtpdjjjdkhedibaaGreatDoor
namespace Go.Proofs.YtpdjjjdkhedibaaGreatDoor
open Go.Proofs.Tryz Go.RowKit Go.Shelf Go.Sort
def Az(ns:List Nat):List Int:=ns.map λn:Nat=>(n:Int)
theorem Cj(ns:List Nat):(Az ns).length=ns.length:=by simp[Az]
theorem QQ{k:Nat}(h:k<ns.length):nth (Az ns) k=((ns.getD k 0:Nat):Int):=by simp[nth,Az,h]
theorem Kv{g:Nat}:(g:Int)∈Az ns↔g∈ns:=by
 simp only[Az,vH];constructor
 .rintro⟨a,h,e⟩
  have:a=g:=by omega
  subst this;exact h
 .exact λh=>⟨g,h,rfl⟩
theorem Sr{lo e:Nat}{w:World}{v:Value}{n:Nat}{xs:List Value}(h:w.ownsRow lo e 1 v n xs)(hn:0<n):∃g V bD,v=.slice (some ⟨g,0,none⟩) n V/\lo<=g/\w.heap[g]?=some (.cells bD e (0,0))/\n<=V/\V<=maxLen/\bD.size=V*1/\bD.toList.take (n*1)=xs:=by
 rcases h.2 with⟨rfl,rfl⟩|⟨g,V,bD,rfl,Y,Z,bK,aq,dp,htake⟩
 .have:=h.1;simp at this;omega
 .exact⟨g,V,bD,rfl,Y,Z,bK,aq,dp,htake⟩
theorem Mz{lo:Nat}(v:Value)(ns:List Nat)(w:World)(h:AF lo w v (Az ns))(K:ns.length<=1048576):
 Calls prog 155 #[v] w λe w'=>e=.returned (.tuple #[])/\∃ts:List Nat,ts.length=ns.length/\(∀g,g∈ts↔g∈ns)/\AF lo w' v (Az ts)/\w.grownBy w' v.ownBlock:=by
 by_cases h0:ns.length=0
 .obtain rfl:ns=[]:=xM h0
  obtain⟨a,c,rfl,_⟩:=h.rd.open;refine(Any.slices_Sort_int_none Tryz.lays189 a c w).mono ?_;rintro e w' ⟨rfl,rfl⟩;exact⟨rfl,[],rfl,λ_=>Iff.rfl,h,⟨rfl,rfl,rfl,yv _,λ_ _ _=>rfl⟩⟩
 .obtain⟨g,V,bD,rfl,Z,Y,bK,aq,dp,ht⟩:=Sr h (by rw[Cj];omega)
  have hH:=holds_of_blockI (ss:=Az ns) Y (by simpa using ht);have hl:(ns.mergeSort λx y=>decide (x<=y)).length=ns.length:=List.length_mergeSort _;have e1:(Az ns).mergeSort (λx y=>decide (x<=y))=Az (ns.mergeSort λx y=>decide (x<=y)):=by unfold Az;rw[List.map_mergeSort];intro a _ b _;simp
  refine(Any.slices_Sort_int Tryz.lays189 g 0 V (Az ns) w hH (wM.1 Y).1 (by rw[Cj];omega)).mono ?_;rintro e w' ⟨rfl,nn,os,rfl⟩;rw[e1];refine⟨rfl,_,hl,λg=>List.mem_mergeSort,?_,grownBy_sortedI _⟩;have:=ownsRow_sortedI (n:=nn) (os:=os) (ss:=Az ns) (ts:=Az (ns.mergeSort λx y=>decide (x<=y))) (by rw[Cj,Cj];exact hl) Z Y bK aq dp;have el:(Az (ns.mergeSort λx y=>decide (x<=y))).length=(Az ns).length:=by rw[Cj,Cj];exact hl
  unfold AF;rw[el];exact this
theorem Uo(d:Array Int):∀m,m<=d.size->∀x,x∈tP d m↔∃j,j<m/\d[j]! =x:=by
 intro m
 induction m with
 |zero=>intro _ x;simp[tP]
 |succ m ih=>
  intro hm x;rw[Lib.compactUpTo_succ,wC,ih (by omega)];cases z:Lib.keeps d m
  .have fS:m≠0/\d[m]! =d[m - 1]! :=by
    unfold Lib.keeps at z;simp at z;exact⟨by omega,z.2⟩
   constructor
   .rintro(⟨j,D,h⟩|h)
    .exact⟨j,by omega,h⟩
    .simp at h
   .rintro⟨j,D,h⟩
    by_cases e:j=m
    .subst e;exact .inl ⟨j - 1,by omega,by rw[<-fS.2];exact h⟩
    .exact .inl ⟨j,by omega,h⟩
  .constructor
   .rintro(⟨j,D,h⟩|h)
    .exact⟨j,by omega,h⟩
    .simp at h;exact⟨m,by omega,h.symm⟩
   .rintro⟨j,D,h⟩
    by_cases e:j=m
    .subst e;exact .inr (by simp[h])
    .exact .inl ⟨j,by omega,h⟩
theorem ND(zs:List Int)(x:Int):x∈wG zs↔x∈zs:=by
 unfold wG;rw[Uo _ _ (by simp)];constructor
 .rintro⟨j,D,rfl⟩
  simp[D]
 .intro h
  obtain⟨j,D,rfl⟩:=wS h;exact⟨j,D,by simp[D]⟩
theorem V5(zs:List Int):(wG zs).length<=zs.length:=by unfold wG tP;rw[uJ];exact yB (xy _ _) (by simp)
theorem XN{zs:List Int}(h:∀hk∈zs,0<=hk):Az (zs.map Int.toNat)=zs:=by
 unfold Az;rw[List.map_map]
 conv=>rhs;rw[<-List.map_id zs]
 exact List.map_congr_left λhk hz=>by have:=h hk hz;simp;omega
theorem Wg{lo e n k:Nat}{w:World}{g V:Nat}{xs:List Value}(h:w.ownsRow lo e 1 (.slice (some ⟨g,0,none⟩) n V) n xs)(z:k<=n):w.ownsRow lo e 1 (.slice (some ⟨g,0,none⟩) k V) k (xs.take k):=by
 rcases h.2 with⟨h0,_⟩|⟨g',cap',bD,hv,Y,Z,bK,aq,dp,htake⟩
 .cases h0
 .cases hv
  refine⟨by have:=h.1;simp at this;simp[this];omega,.inr ⟨g,V,bD,rfl,Y,Z,by omega,aq,dp,?_⟩⟩;rw[<-htake,tN,wB,wB,ux z]
theorem LE{lo:Nat}(v:Value)(ns:List Nat)(w:World)(h:AF lo w v (Az ns))(K:ns.length<=1048576):
 Calls prog 156 #[v] w λe w'=>∃v',e=.returned v'/\v'.ownBlock=v.ownBlock/\∃ts:List Nat,ts.length<=ns.length/\(∀g,g∈ts↔g∈ns)/\AF lo w' v' (Az ts)/\w.grownBy w' v.ownBlock:=by
 by_cases h0:ns.length=0
 .obtain rfl:ns=[]:=xM h0
  obtain⟨a,c,rfl,_⟩:=h.rd.open;refine(Any.slices_Compact_int_empty Tryz.lays2n20 a c w).mono ?_;rintro e w' ⟨rfl,rfl⟩;exact⟨_,rfl,rfl,[],yv _,λ_=>Iff.rfl,h,⟨rfl,rfl,rfl,yv _,λ_ _ _=>rfl⟩⟩
 .obtain⟨g,V,bD,rfl,Z,Y,bK,aq,dp,ht⟩:=Sr h (by rw[Cj];omega)
  have hH:=holds_of_blockI (ss:=Az ns) Y (by simpa using ht);have eV:∀hk∈wG (Az ns),0<=hk:=by intro hk hz;rw[ND] at hz;obtain⟨n,_,rfl⟩:=vH.1 hz;omega
  refine(Any.slices_Compact_int Tryz.lays2n20 g 0 V (Az ns) w hH (by rw[Cj];omega) bK).mono ?_;rintro e w' ⟨rfl,nn,rfl⟩;have eX:=V5 (Az ns);have hO:=ownsRow_sortedI (n:=nn) (os:= #[]) (ss:=Az ns) (ts:=wG (Az ns)++xR ((Az ns).length - (wG (Az ns)).length) 0) (by simp;omega) Z Y bK aq dp;have hG:=grownBy_sortedI (w:=w) (g:=g) (n:=nn) (os:= #[]) (wG (Az ns)++xR ((Az ns).length - (wG (Az ns)).length) 0).toArray;rw[grow_empty] at hO hG;refine⟨_,rfl,rfl,(wG (Az ns)).map Int.toNat,by rw[uJ];rw[Cj] at eX;exact eX,λg=>?_,?_,hG⟩
  .rw[<-Kv,XN eV,ND,Kv]
  .rw[XN eV]
   have hP:=Wg hO eX;unfold AF;have e:((wG (Az ns)++xR ((Az ns).length - (wG (Az ns)).length) 0).map (xY .i64)).take (wG (Az ns)).length=(wG (Az ns)).map (xY .i64):=by rw[xC,rX (by simp)]
   rw[e] at hP;exact hP
theorem Nv(v:Value)(ns:List Nat)(x:Int)(w:World)(h:Ax w v (Az ns)):
 Calls prog 251 #[v,.int .i64 x] w λe w'=>e=.returned (.bool ((Az ns).contains x))/\w=w':=by
 obtain⟨a,c,rfl,H,aq,H0⟩:=h.open;unfold maxLen at aq
 by_cases h0:ns.length=0
 .obtain rfl:ns=[]:=xM h0
  refine(Any.slices_Contains_int_empty Tryz.lays107 a c x w).mono ?_;rintro e w' ⟨rfl,rfl⟩;exact⟨rfl,rfl⟩
 .obtain⟨b,X,rfl,ax⟩:=H0 0 (by rw[Cj];omega)
  refine(Any.slices_Contains_int Tryz.lays107 b X (Az ns).length c (Az ns) x w (yv _) (by omega) (λj D=>ax j D)).mono ?_;rintro e w' ⟨rfl,rfl⟩;rw[xo];exact⟨rfl,rfl⟩
theorem RH(s p:ByteArray)(w:World):Calls prog 111 #[.string s,.string p] w λe w'=>e=.returned (.bool (LZ p s))/\w=w':=by refine(Any.strings_HasPrefix Tryz.lays99 s p w).mono ?_;rintro e w' ⟨rfl,rfl⟩;exact⟨rfl,rfl⟩
end Go.Proofs.YtpdjjjdkhedibaaGreatDoor
namespace Go.Proofs.YtpdjjjdkhedibaaGreatDoor
open Go.Proofs.Tryz Go.RowKit
theorem PB(r:List Int):LD r=Ds r:=by
 unfold LD Ds;rw[Bool.and_comm]
 congr 1
theorem M6{α:Type}{p:α->Bool}{l:List α}:(!l.any λx=>!p x)=l.all p:=by simp[tA]
theorem Nz(u:Value)(r:List Int)(w:World)(h:Ax w u r):Calls prog 147 #[u] w λe w'=>e=.returned (.bool (!Ds r))/\Below w.heap.size w w':=by have C:=AA (Oi u r w h);clear h;go_in;go_wp2_with (refine(C.out).mono ?_;rintro e w' ⟨rfl,rfl⟩;rw[PB]);go_ret;exact⟨rfl,yD _ _⟩
theorem OA(v:Value)(m:List (List Int))(w:World)(h:Bk w v m):Calls prog 95 #[v] w λe w'=>e=.returned (.bool (Bu m))/\Below w.heap.size w w':=by
 have C:=AA (Ij 147 #[] (λr=>!Ds r) v m w h (λ_ _=>by kernel_rfl) (λu r _ W _ hr=>Nz u r W hr));obtain⟨a,c,rfl,H,aq,_⟩:=h.open;clear h;unfold maxLen at aq
 by_cases h4:m.length=12
 .have S:=AA (show(!m.any λr=>!Ds r)=Bu m by rw[M6];simp[Bu,h4])
  have Y:((m.length:Int)==12)=true:=by simp[h4]
  clear h4;go_in;go_wp2_with (refine(C.out).mono ?_;rintro e w' ⟨rfl,ay⟩);go_ret;exact⟨AH S.out,ay⟩
 .have S:=AA (show Bu m=false by simp[Bu,h4])
  have Y:((m.length:Int)==12)=false:=by simp;omega
  clear h4;go_in;go_wp2_with fail;go_ret;exact⟨AH S.out.symm,yD _ _⟩
def JX(r:List Int):Bool:=r.isEmpty||Ds r
theorem UT(h:0<r.length):JX r=Ds r:=by cases r with|nil=>simp at h|cons=>simp[JX]
theorem UR(h:¬0<r.length):JX r=true:=by cases r with|nil=>simp[JX]|cons=>simp at h
theorem Pp(u:Value)(r:List Int)(w:World)(h:Ax w u r):Calls prog 106 #[u] w λe w'=>e=.returned (.bool (!JX r))/\Below w.heap.size w w':=by
 have C:=AA (Oi u r w h);obtain⟨a,c,rfl,H,aq,_⟩:=h.open;clear h;unfold maxLen at aq
 by_cases h0:0<r.length
 .have S:=AA (show(!JX r)=!Ds r by rw[UT h0])
  have Y:(0:Int)<(r.length:Int):=by omega
  go_in;go_wp2_with (refine(C.out).mono ?_;rintro e w' ⟨rfl,rfl⟩;rw[PB]);go_ret;exact⟨AH S.out.symm,yD _ _⟩
 .have S:=AA (show(!JX r)=false by rw[UR h0];rfl)
  have Y:¬(0:Int)<(r.length:Int):=by omega
  go_in;go_wp2_with fail;go_ret;exact⟨AH S.out.symm,yD _ _⟩
theorem Pq(v:Value)(m:List (List Int))(w:World)(h:Bk w v m):Calls prog 52 #[v] w λe w'=>e=.returned (.bool (FM m))/\Below w.heap.size w w':=by
 have C:=AA (Ij 106 #[] (λr=>!JX r) v m w h (λ_ _=>by kernel_rfl) (λu r _ W _ hr=>Pp u r W hr));obtain⟨a,c,rfl,H,aq,_⟩:=h.open;clear h;unfold maxLen at aq
 by_cases h4:m.length=16
 .have S:=AA (show(!m.any λr=>!JX r)=FM m by rw[M6];simp[FM,h4];rfl)
  have Y:((m.length:Int)==16)=true:=by simp[h4]
  clear h4;go_in;go_wp2_with (refine(C.out).mono ?_;rintro e w' ⟨rfl,ay⟩);go_ret;exact⟨AH S.out,ay⟩
 .have S:=AA (show FM m=false by simp[FM,h4])
  have Y:((m.length:Int)==16)=false:=by simp;omega
  clear h4;go_in;go_wp2_with fail;go_ret;exact⟨AH S.out.symm,yD _ _⟩
def IS(xs:List AV):Prop:=∀x∈xs,x.g.size<=maxLen
def Ym(x:AV):Bool:=BZ x.k 1 3&&BV x.g&&BZ x.r 0 50
theorem U3:DU AV.zero=true:=by simp[DU]
theorem Ml{x:AV}(h:x≠AV.zero):DU x=Ym x:=by simp[DU,h,Ym]
theorem WN(x:AV)(w:World)(K:x.g.size<=maxLen):Calls prog 115 #[x.val] w λe w'=>e=.returned (.bool (DU x))/\Below w.heap.size w w':=by
 obtain⟨k,g,r⟩:=x;simp only[AV.val];simp only at K;have C:=AA (λW=>Fv g W K);clear K;have dO:∀(b:Bool),b=false->DU ⟨k,g,r⟩=DU ⟨k,g,r⟩:=λ_ _=>rfl
 clear dO;have CW:=AA (λn lo A W=>EC n lo A W)
 by_cases z:k=0
 .subst z
  by_cases Z:g.toList=[]
  .by_cases hr:r=0
   .have S:=AA (show DU ⟨0,g,r⟩=true by
     have:g=⟨#[]⟩:=by rw[xj] at Z;cases g;simp at Z;rw[Z]
     rw[hr,this];exact U3)
    go_in;go_wp2_with fail;go_ret;exact⟨AH S.out.symm,AI _ _⟩
   .have S:=AA (show DU ⟨0,g,r⟩=false by rw[Ml (by intro e;simp[AV.zero] at e;exact hr e.2)];simp[Ym,BZ])
    have hc:=AA (show BZ 0 1 3=false from rfl);go_in;go_wp2_with (refine(CW.out _ _ _ _).mono ?_;rintro e w' ⟨rfl,rfl⟩;rw[hc.out]);go_ret;exact⟨AH S.out.symm,AI _ _⟩
  .have S:=AA (show DU ⟨0,g,r⟩=false by rw[Ml (by intro e;simp[AV.zero] at e;exact Z (by rw[e.1,xj]))];simp[Ym,BZ])
   have hc:=AA (show BZ 0 1 3=false from rfl);go_in;go_wp2_with (refine(CW.out _ _ _ _).mono ?_;rintro e w' ⟨rfl,rfl⟩;rw[hc.out]);go_ret;exact⟨AH S.out.symm,AI _ _⟩
 .have S:=AA (show DU ⟨k,g,r⟩=Ym ⟨k,g,r⟩ from Ml (by intro e;simp[AV.zero] at e;exact z e.1))
  cases J:BZ k 1 3
  .have T:=AA (show Ym ⟨k,g,r⟩=false by simp[Ym,J])
   have hc:=AA J;clear J;go_in;go_wp2_with (refine(CW.out _ _ _ _).mono ?_;rintro e w' ⟨rfl,rfl⟩;rw[hc.out]);go_ret;exact⟨AH (S.out.trans T.out).symm,AI _ _⟩
  .cases O:BV g
   .have T:=AA (show Ym ⟨k,g,r⟩=false by simp[Ym,O])
    have hc:=AA J;clear J;have H2:=AA O;clear O;go_in;go_wp2_with (first|(refine(CW.out _ _ _ _).mono ?_;rintro e w' ⟨rfl,rfl⟩;rw[hc.out])|(refine(C.out _).mono ?_;rintro e w' ⟨rfl,Y⟩;rw[H2.out]));go_ret;exact⟨AH (S.out.trans T.out).symm,(AI _ _).trans (Y.mono (AI _ _).size)⟩
   .have T:=AA (show Ym ⟨k,g,r⟩=BZ r 0 50 by simp[Ym,J,O])
    have hc:=AA J;clear J;have H2:=AA O;clear O;go_in;go_wp2_with fail;refine(CW.out _ _ _ _).mono ?_;rintro e w' ⟨rfl,rfl⟩;rw[hc.out];go_wp2_with fail;refine(C.out _).mono ?_;rintro e w' ⟨rfl,Y⟩;rw[H2.out];have hz:w.heap.size<w'.heap.size:=by have:=Y.size;simp at this;omega
    obtain⟨H,N⟩:=bF Y;go_wp2_with (refine(CW.out _ _ _ _).mono ?_;rintro e w' ⟨rfl,rfl⟩);go_ret;exact⟨AH (S.out.trans T.out).symm,(AI _ _).trans (Y.mono (AI _ _).size)⟩
theorem PJ(x:AV)(w:World)(K:x.g.size<=maxLen):Calls prog 114 #[x.val] w λe w'=>e=.returned (.bool (!DU x))/\Below w.heap.size w w':=by
 have C:=AA (λW=>WN x W K);obtain⟨k,g,r⟩:=x;simp only[AV.val] at C ⊢;go_in;go_wp2_with (refine(C.out _).mono ?_;rintro e w' ⟨rfl,Y⟩);go_ret;exact⟨rfl,(AI _ _).trans (Y.mono (AI _ _).size)⟩
theorem Fu(v:Value)(xs:List AV)(w:World)(h:Bb w v xs)(K:IS xs):Calls prog 58 #[v] w λe w'=>e=.returned (.bool (BP xs))/\Below w.heap.size w w':=by
 have C:=AA (LP 114 #[] (λx=>!DU x) v xs w h (λ_ _=>by kernel_rfl) (λx E W _=>PJ x W (K x E)));obtain⟨a,c,rfl,H,aq⟩:=h.shape;clear h K;unfold maxLen at aq
 by_cases h4:xs.length=12
 .have S:=AA (show(!xs.any λx=>!DU x)=BP xs by rw[M6];simp[BP,h4])
  have Y:((xs.length:Int)==12)=true:=by simp[h4]
  clear h4;go_in;go_wp2_with (refine(C.out).mono ?_;rintro e w' ⟨rfl,ay⟩);go_ret;exact⟨AH S.out,ay⟩
 .have S:=AA (show BP xs=false by simp[BP,h4])
  have Y:((xs.length:Int)==12)=false:=by simp;omega
  clear h4;go_in;go_wp2_with fail;go_ret;exact⟨AH S.out.symm,yD _ _⟩
theorem P7(x:AV)(w:World):Calls prog 136 #[x.val] w λe w'=>e=.returned (.bool (decide (x.k=0)))/\Below w.heap.size w w':=by obtain⟨k,g,r⟩:=x;simp only[AV.val];have S:=AA (show(k==0)=decide (k=0) by cases h:(k==0)<;>simp_all);go_in;go_wp2_with fail;go_ret;exact⟨AH S.out,AI _ _⟩
theorem KJ(v:Value)(xs:List AV)(w:World)(h:Bb w v xs):Calls prog 83 #[v] w λe w'=>e=.returned (.int .i64 (Am xs))/\Below w.heap.size w w':=by
 have C:=AA (J4 136 #[] (λx=>decide (x.k=0)) v xs w h (λ_ _=>by kernel_rfl) (λx _ W _=>P7 x W));obtain⟨a,c,rfl,H,aq⟩:=h.shape;clear h;go_in;go_wp2_with (refine(C.out).mono ?_;rintro e w' ⟨rfl,ay⟩);go_ret;exact⟨rfl,ay⟩
theorem ZS(s g:ByteArray)(b:Nat)(w:World)(h:w.cell? ⟨b,0,none⟩=some (.string g)):Calls prog 110 #[.string s,.pointer (some ⟨b,0,none⟩)] w λe w'=>e=.returned (.bool (LZ s g))/\Below w.heap.size w w':=by go_in;go_wp2_with (refine(RH _ _ _).mono ?_;rintro e w' ⟨rfl,rfl⟩);go_ret;exact⟨rfl,yD _ _⟩
theorem PY(v:Value)(ss:List ByteArray)(g:ByteArray)(w:World)(h:BY w v ss):Calls prog 54 #[v,.string g] w λe w'=>e=.returned (.bool (By ss g))/\Below w.heap.size w w':=by
 have b1:=AI w (.cells #[.string g] 9);have cg:(w.alloc (.cells #[.string g] 9)).cell? ⟨w.heap.size,0,none⟩=some (.string g):=ym _ _ 0 _ _ _ (yi _ _);have C:=AA (Ki 110 #[.pointer (some ⟨w.heap.size,0,none⟩)] (λs=>LZ s g) v ss _ (BK.below h b1) (λ_ _=>by kernel_rfl) (λs _ W hW=>ZS s g _ W ((hW.cell (yA _ _ cg)).trans cg)));obtain⟨a,c,rfl,H,aq⟩:=h.shape;clear h cg;go_in;go_wp2_with (refine(C.out).mono ?_;rintro e w' ⟨rfl,ay⟩);go_ret;exact⟨rfl,b1.trans (ay.mono b1.size)⟩
def Qs(xs:List AV)(g:ByteArray):List AV:=xs.set (Am xs).toNat ⟨1,g,0⟩
theorem Ph(v:Value)(xs:List AV)(g:ByteArray)(w:World)(h:Bb w v xs)(K:IS xs)(Z:g.size<=maxLen)(a7:BP xs=true)(hr:BV g=true)(N:Am xs<0):
 Calls prog 204 #[v,.string g] w λe w'=>e=.returned (.tuple #[.slice none 0 0,.int .i64 0,.bool false])/\Below w.heap.size w w':=by
 have C1:=AA (λW (hW:Below w.heap.size w W)=>Fu v xs W (BK.below h hW) K);have C2:=AA (λW=>Fv g W Z);have C3:=AA (λW (hW:Below w.heap.size w W)=>KJ v xs W (BK.below h hW));have Ok:=AA a7;have Hr:=AA hr;clear a7 hr h K Z;go_in;go_wp2_with fail;refine(C1.out _ (yD _ _)).mono ?_;rintro e w1 ⟨rfl,bu⟩;rw[Ok.out];go_wp2_with fail;refine(C2.out _).mono ?_;rintro e w2 ⟨rfl,ay⟩;rw[Hr.out];replace ay:=bu.trans (ay.mono bu.size);clear bu;go_wp2_with fail;refine(C3.out _ ay).mono ?_;rintro e w3 ⟨rfl,bn⟩;replace bn:=ay.trans (bn.mono ay.size);clear ay;go_wp2_with fail;go_ret3;exact⟨rfl,bn⟩
theorem Pi(v:Value)(xs:List AV)(g:ByteArray)(w:World)(h:Bb w v xs)(K:IS xs)(Z:g.size<=maxLen)(a7:BP xs=true)(hr:BV g=true)(N:0<=Am xs):
 Calls prog 204 #[v,.string g] w λe w'=>∃v',e=.returned (.tuple #[v',.int .i64 (Am xs),.bool true])/\AQ w.heap.size 92 3 A3 w' v' (Qs xs g)/\Below w.heap.size w w':=by
 have C1:=AA (λW (hW:Below w.heap.size w W)=>Fu v xs W (BK.below h hW) K);have C2:=AA (λW=>Fv g W Z);have C3:=AA (λW (hW:Below w.heap.size w W)=>KJ v xs W (BK.below h hW));have hl:xs.length=12:=(A1.1 a7).1;have C4:=AA (λW (hW:Below w.heap.size w W)=>KG v xs W (BK.below h hW) (by omega));have Ok:=AA a7;have Hr:=AA hr;have e9:(Am xs).toNat<xs.length:=(Fg (by omega)).1;have Hl:=AA hl;clear a7 hr h K Z hl;go_in;go_wp2_with fail;refine(C1.out _ (yD _ _)).mono ?_;rintro e w1 ⟨rfl,bu⟩;rw[Ok.out];go_wp2_with fail;refine(C2.out _).mono ?_;rintro e w2 ⟨rfl,ay⟩;rw[Hr.out];replace ay:=bu.trans (ay.mono bu.size);clear bu;go_wp2_with fail;refine(C3.out _ ay).mono ?_;rintro e w3 ⟨rfl,bn⟩;replace bn:=ay.trans (bn.mono ay.size);clear ay;go_wp2_with fail;refine(C4.out _ bn).mono ?_;rintro e w4 ⟨v',rfl,hO,dk⟩;obtain⟨q,V,rfl,c1,c2,q1,q2,gQ⟩:=hO.zM (by omega);unfold maxLen at c2;have hS:=AA (AQ.stored A0 hO e9 ⟨1,g,0⟩);obtain⟨d0,d1,d2⟩:=AQ.zP hO e9;have hB:=AA (AM (bn.trans (dk.mono bn.size)) hS.out.2 (yB bn.size q1) (bn.trans (dk.mono bn.size)).size);have b7:=bn.size;clear hO dk bn;have iN:Am xs<xs.length:=by omega
 go_wp2_with fail;go_ret3;exact⟨_,rfl,hS.out.1.lower b7,hB.out⟩
theorem Ta(a b:Int):(a==b)=decide (a=b):=by cases h:(a==b)<;>simp_all
theorem Kq(x:Ad)(w:World):Calls prog 148 #[x.val] w λe w'=>e=.returned (.bool (Bl x))/\Below w.heap.size w w':=by
 obtain⟨e,p,f,b⟩:=x;simp only[Ad.val];have C1:=AA (λW=>X4 e W);have C2:=AA (λW=>Mn p W);have C3:=AA (λW=>FD f W);cases J:BZ e 0 2
 .have S:=AA (show Bl ⟨e,p,f,b⟩=false by simp[Bl,J])
  have H1:=AA J;clear J;go_in;go_wp2_with (refine(C1.out _).mono ?_;rintro e w' ⟨rfl,rfl⟩;rw[H1.out]);go_ret;exact⟨AH S.out.symm,AI _ _⟩
 .cases O:BZ p 0 15
  .have S:=AA (show Bl ⟨e,p,f,b⟩=false by simp[Bl,O])
   have H1:=AA J;clear J;have H2:=AA O;clear O;go_in;go_wp2_with (first|(go_at_call 197;refine(C1.out _).mono ?_;rintro e w' ⟨rfl,rfl⟩;rw[H1.out])|(go_at_call 44;refine(C2.out _).mono ?_;rintro e w' ⟨rfl,rfl⟩;rw[H2.out]));go_ret;exact⟨AH S.out.symm,AI _ _⟩
  .have S:=AA (show Bl ⟨e,p,f,b⟩=BZ f 0 11 by simp[Bl,J,O])
   have H1:=AA J;clear J;have H2:=AA O;clear O;go_in;go_wp2_with (first|(go_at_call 197;refine(C1.out _).mono ?_;rintro e w' ⟨rfl,rfl⟩;rw[H1.out])|(go_at_call 44;refine(C2.out _).mono ?_;rintro e w' ⟨rfl,rfl⟩;rw[H2.out])|(go_at_call 99;refine(C3.out _).mono ?_;rintro e w' ⟨rfl,rfl⟩));go_ret;exact⟨AH S.out.symm,AI _ _⟩
theorem Uj(x:Ad)(e p:Int)(be bp:Nat)(w:World)(J:w.cell? ⟨be,0,none⟩=some (.int .i64 e))(O:w.cell? ⟨bp,0,none⟩=some (.int .i64 p)):Calls prog 199 #[x.val,.pointer (some ⟨be,0,none⟩),.pointer (some ⟨bp,0,none⟩)] w λr w'=>r=.returned (.bool (BB e p x))/\Below w.heap.size w w':=by
 obtain⟨xe,xp,xf,xb⟩:=x;simp only[Ad.val];have b1:=yA w _ J;have b2:=yA w _ O;have n1:¬be=w.heap.size:=by have:be<w.heap.size:=b1;omega
 have n2:¬bp=w.heap.size:=by have:bp<w.heap.size:=b2;omega
 by_cases he:xe=e
 .have S:=AA (show BB e p ⟨xe,xp,xf,xb⟩=(xp==p) by simp[BB,he,Ta])
  have t:(xe==e)=true:=by simp[he]
  clear he;go_in;go_wp2_with fail;go_ret;exact⟨AH S.out.symm,AI _ _⟩
 .have S:=AA (show BB e p ⟨xe,xp,xf,xb⟩=false by simp[BB,he])
  have t:(xe==e)=false:=by simp[he]
  clear he;go_in;go_wp2_with fail;go_ret;exact⟨AH S.out.symm,AI _ _⟩
theorem Mj(v:Value)(xs:List Ad)(e p:Int)(w:World)(h:DJ w v xs):Calls prog 149 #[v,.int .i64 e,.int .i64 p] w λr w'=>r=.returned (.int .i64 (GC xs e p))/\Below w.heap.size w w':=by
 have b2:=IA w (.cells #[.int .i64 e] 3) (.cells #[.int .i64 p] 3);have gd:(w.alloc (.cells #[.int .i64 e] 3)).cell? ⟨w.heap.size,0,none⟩=some (.int .i64 e):=ym _ _ 0 _ _ _ (yi _ _);have ce:((w.alloc (.cells #[.int .i64 e] 3)).alloc (.cells #[.int .i64 p] 3)).cell? ⟨w.heap.size,0,none⟩=some (.int .i64 e):=((AI _ _).cell (yA _ _ gd)).trans gd;have cp:((w.alloc (.cells #[.int .i64 e] 3)).alloc (.cells #[.int .i64 p] 3)).cell? ⟨w.heap.size+1,0,none⟩=some (.int .i64 p):=by
  have:=ym _ _ 0 _ _ _ (yi (w.alloc (.cells #[.int .i64 e] 3)) (.cells #[.int .i64 p] 3))
  rwa [xx] at this
 have C:=AA (JL 199 #[.pointer (some ⟨w.heap.size,0,none⟩),.pointer (some ⟨w.heap.size+1,0,none⟩)] (BB e p) v xs _ (BK.below h b2) (λ_ _=>by kernel_rfl)
  (λx _ W hW=>Uj x e p _ _ W ((hW.cell (yA _ _ ce)).trans ce) ((hW.cell (yA _ _ cp)).trans cp)))
 obtain⟨a,c,rfl,H,aq⟩:=h.shape;clear h gd ce cp;go_in;go_wp2_with (refine(C.out).mono ?_;rintro e w' ⟨rfl,ay⟩);go_ret;exact⟨rfl,b2.trans (ay.mono b2.size)⟩
theorem DJ.take{w:World}{a:Option Addr}{c k:Nat}{xs:List Ad}(h:DJ w (.slice a xs.length c) xs)(z:k<=xs.length):DJ w (.slice a k c) (xs.take k):=by
 obtain⟨a',c',hv,bK,aq,hl,a6,H⟩:=h;cases hv;have bB:(Cc AU (xs.take k)).length=k*4:=by rw[Jo CZ,xT];congr 1;omega
 have ig:k*4<=xs.length*4:=wA _ z;unfold DJ BK;rw[show(xs.take k).length=k by rw[xT];omega];refine⟨a,c,rfl,by omega,aq,bB,a6,λhn=>?_⟩;obtain⟨b,X,rfl,ax⟩:=H (by omega);refine⟨b,X,rfl,λj D=>?_⟩;rw[ax j (by omega)];have e:Cc AU xs=Cc AU (xs.take k)++Cc AU (xs.drop k):=by rw[<-Bf,tf]
 rw[e,wW (by omega)]
theorem Xt{xs:List Ad}{e p:Int}:decide (0<=GC xs e p)=xs.any (BB e p):=KQ
theorem Od{xs:List Ad}{k:Nat}(h:k<xs.length)(H:Cy xs k=false):BT xs=false:=by have:(yC xs.length).all (Cy xs)=false:=wP.2 ⟨k,xS.2 h,by simp[H]⟩;simp[BT,this]
theorem Tb{xs:List Ad}(h:∀k,k<xs.length->Cy xs k=true)(hl:xs.length<=4):BT xs=true:=by
 have:(yC xs.length).all (Cy xs)=true:=xZ.2 λk z=>h k (xS.1 z)
 simp[BT,this,hl]
theorem JE(v:Value)(xs:List Ad)(w:World)(h:DJ w v xs):Calls prog 96 #[v] w λe w'=>e=.returned (.bool (BT xs))/\Below w.heap.size w w':=by
 have hc:=AA h;obtain⟨a,c,rfl,H,aq,H0⟩:=BK.open CZ (by decide) h;clear h;unfold maxLen at aq
 by_cases h4:xs.length<=4
 .have Y:¬(4:Int)<xs.length:=by omega
  go_in;go_wp2_with fail;go_loopw [10] (λi wr=>∃k:Nat,k<=xs.length/\i=.int .i64 k/\(∀j,j<k->Cy xs j=true)/\Below w.heap.size w wr) (λi _=>xs.length - (intOf i).toNat)
  exact⟨0,yg _,rfl,λj D=>absurd D (xN _),yD _ _⟩
  obtain⟨k,z,rfl,az,ac⟩:=hrel;have au:=AA az;clear az
  by_cases am:k<xs.length
  .obtain⟨b,X,rfl,bA,D0,D1,D2,D3⟩:=H0.zL am
   replace D0:=(ac.cell (p:=⟨b,X+k*4,none⟩) bA).trans D0;replace D1:=(ac.cell (p:=⟨b,X+k*4+1,none⟩) bA).trans D1;replace D2:=(ac.cell (p:=⟨b,X+k*4+2,none⟩) bA).trans D2;replace D3:=(ac.cell (p:=⟨b,X+k*4+3,none⟩) bA).trans D3;clear H0;have hf:=yi wr (.cells #[.int .i64 (AT xs k).e,.int .i64 (AT xs k).p,.int .i64 (AT xs k).f,.bool (AT xs k).w] 112);have d4:=ac.trans ((AI wr (.cells #[.int .i64 (AT xs k).e,.int .i64 (AT xs k).p,.int .i64 (AT xs k).f,.bool (AT xs k).w] 112)).mono ac.size);have fQ:(k:Int)<=xs.length:=by omega
   have iJ:(k:Int)<=c:=by omega
   go_wp2_with fail;generalize wr.alloc _=wa at hf d4;clear D0 D1 D2 D3 ac;obtain⟨n0,n1,n2,n3⟩:=AE hf;have k0:=xX n0;have k1:=xX n1;have k2:=xX n2;have k3:=xX n3;clear n0 n1 n2 n3;have HB:=AA d4;have cF:=Uh (w1:=wa) (λW hW=>Mj _ (xs.take k) (AT xs k).e (AT xs k).p W (DJ.take (BK.below hc.out (d4.trans (hW.mono d4.size))) z));cases J:Bl (AT xs k)
   .have S:=AA (Od am (by simp[Cy,J]))
    have cC:=Uh (w1:=wa) (λW _=>by have:=Kq (AT xs k) W;rw[J] at this;exact this);clear J hf d4;refine Bj ?_
    repeat(go_big_quiet_step (first|exact cC _ _|exact cF _ _))
    refine Bi λwq bq=>?_
    go_wp2_with fail;go_ret;exact⟨AH S.out.symm,HB.out.trans (bq.mono HB.out.size)⟩
   .have cC:=Uh (w1:=wa) (λW _=>by have:=Kq (AT xs k) W;rw[J] at this;exact this)
    have hx:=Xt (xs:=xs.take k) (e:=(AT xs k).e) (p:=(AT xs k).p);cases O:(xs.take k).any (BB (AT xs k).e (AT xs k).p)
    .have S:=AA (show Cy xs k=true by simp only[Cy,J,O];rfl)
     rw[O] at hx;clear J O hf d4;refine Bj ?_
     repeat(go_big_quiet_step (first|exact cC _ _|exact cF _ _))
     refine Bi λwq bq=>?_
     go_wp2_with fail;go_roundw;exact⟨k+1,by omega,by go_num,Al au.out S.out,HB.out.trans (bq.mono HB.out.size)⟩;simp[intOf];omega
    .have S:=AA (Od am (by simp only[Cy,J,O];rfl))
     rw[O] at hx;clear J O hf d4;refine Bj ?_
     repeat(go_big_quiet_step (first|exact cC _ _|exact cF _ _))
     refine Bi λwq bq=>?_
     go_wp2_with fail;go_ret;exact⟨AH S.out.symm,HB.out.trans (bq.mono HB.out.size)⟩
  .have S:=AA (Tb (xs:=xs) (λj D=>au.out j (by omega)) h4)
   go_wp2_with fail;go_ret;exact⟨AH S.out.symm,ac⟩
 .have S:=AA (show BT xs=false by simp[BT,h4])
  have Y:(4:Int)<xs.length:=by omega
  go_in;go_wp2_with fail;go_ret;exact⟨AH S.out.symm,yD _ _⟩
theorem Y3{xs:List Ad}{e:Int}:(xs.filter λx=>!decide (x.e=e))=GJ xs e:=by
 unfold GJ
 congr 1
 funext x
 simp
theorem Pe(x:Ad)(e:Int)(be:Nat)(w:World)(J:w.cell? ⟨be,0,none⟩=some (.int .i64 e)):Calls prog 254 #[x.val,.pointer (some ⟨be,0,none⟩)] w λr w'=>r=.returned (.bool (decide (x.e=e)))/\Below w.heap.size w w':=by
 obtain⟨xe,xp,xf,xb⟩:=x;simp only[Ad.val];have b1:=yA w _ J;have n1:¬be=w.heap.size:=by have:be<w.heap.size:=b1;omega
 have S:=AA (Ta xe e);go_in;go_wp2_with fail;go_ret;exact⟨AH S.out,AI _ _⟩
theorem Q9(v:Value)(xs:List Ad)(e:Int)(w:World)(h:DJ w v xs)(a7:BT xs=true):Calls prog 212 #[v,.int .i64 e] w λr w'=>∃v',r=.returned v'/\AQ w.heap.size 112 4 AU w' v' (GJ xs e)/\Below w.heap.size w w':=by
 have hl:=(Eg.1 a7).2.2;have b1:=AI w (.cells #[.int .i64 e] 3);have ce:(w.alloc (.cells #[.int .i64 e] 3)).cell? ⟨w.heap.size,0,none⟩=some (.int .i64 e):=ym _ _ 0 _ _ _ (yi _ _);have am:w.heap.size<(w.alloc (.cells #[.int .i64 e] 3)).heap.size:=by simp
 have C1:=AA (by have:=JE v xs _ (BK.below h b1);rw[a7] at this;exact this);have C2:=AA (λW (hW:Below w.heap.size w W)=>JF v xs W (BK.below h hW) (by omega));obtain⟨a,c,rfl,H,aq⟩:=h.shape;clear h a7;go_in;go_wp2_with fail;refine(C1.out).mono ?_;rintro r w1 ⟨rfl,bu⟩;replace ce:=(bu.cell (yA _ _ ce)).trans ce;have ay:=b1.trans (bu.mono b1.size);replace am:w.heap.size<w1.heap.size:=xW am bu.size;clear bu b1;have CE:=AA ce;clear ce;go_wp2_with fail;refine(C2.out _ ay).mono ?_;rintro r w2 ⟨v',rfl,hO,bn⟩;have gW:=(bn.cell (p:=⟨w.heap.size,0,none⟩) am).trans CE.out;have C3:=AA (Ik 254 #[.pointer (some ⟨w.heap.size,0,none⟩)] (λx=>decide (x.e=e)) v' xs w2 hO bn.size (λ_ _=>by kernel_rfl)
  (λx _ W hW=>Pe x e _ W ((hW.cell (p:=⟨w.heap.size,0,none⟩) am).trans gW)))
 have dk:=ay.trans (bn.mono ay.size);have dt:=ay.size;clear hO bn gW;go_wp2_with (refine(C3.out).mono ?_;rintro r w3 ⟨v3,rfl,eD,fu⟩);go_ret;refine⟨_,rfl,?_,dk.trans (fu.mono dt)⟩;rw[<-Y3];exact eD.lower dt
theorem RA(y x:Ad)(b:Nat)(w:World)(J:w.heap[b]?=some (.cells #[.int .i64 x.e,.int .i64 x.p,.int .i64 x.f,.bool x.w] 112 (0,0))):Calls prog 259 #[y.val,.pointer (some ⟨b,0,none⟩)] w λr w'=>r=.returned (.bool (BB x.e x.p y))/\Below w.heap.size w w':=by
 obtain⟨d0,d1,d2,d3⟩:=AE J;have b1:=AW J;have n1:¬b=w.heap.size:=by omega
 obtain⟨ye,yp,yf,yb⟩:=y;simp only[Ad.val];clear J
 by_cases he:ye=x.e
 .have S:=AA (show BB x.e x.p ⟨ye,yp,yf,yb⟩=(yp==x.p) by simp[BB,he,Ta])
  have t:(ye==x.e)=true:=by simp[he]
  clear he;go_in;go_wp2_with fail;go_ret;exact⟨AH S.out.symm,AI _ _⟩
 .have S:=AA (show BB x.e x.p ⟨ye,yp,yf,yb⟩=false by simp[BB,he])
  have t:(ye==x.e)=false:=by simp[he]
  clear he;go_in;go_wp2_with fail;go_ret;exact⟨AH S.out.symm,AI _ _⟩
theorem XT{xs:List Ad}{x:Ad}{ys:List Ad}(h:ys=if(xs.filter λy=>!BB x.e x.p y).length=4 then(xs.filter λy=>!BB x.e x.p y).drop 1 else xs.filter λy=>!BB x.e x.p y):ys++[x]=Ga xs x:=by rw[h];rfl
theorem Mv(v:Value)(xs:List Ad)(x:Ad)(w:World)(h:DJ w v xs)(a7:BT xs=true)(E:Bl x=true):Calls prog 215 #[v,x.val] w λr w'=>∃v',r=.returned (.tuple #[v',.bool true])/\AQ w.heap.size 112 4 AU w' v' (Ga xs x)/\Below w.heap.size w w':=by
 have hl:=(Eg.1 a7).2.2;obtain⟨hf,b1⟩:=Dd w (.cells #[.int .i64 x.e,.int .i64 x.p,.int .i64 x.f,.bool x.w] 112);have C1:=AA (by have:=JE v xs _ (BK.below h b1);rw[a7] at this;exact this);have CX:=AA (λW=>by have:=Kq x W;rw[E] at this;exact this);have C2:=AA (λW (hW:Below w.heap.size w W)=>JF v xs W (BK.below h hW) (by omega));obtain⟨a,c,rfl,H,aq⟩:=h.shape;have e9:(xs.filter λy=>!BB x.e x.p y).length<=4:=yB (xy _ _) hl;clear h a7 E;simp only[Ad.val] at CX ⊢;go_in;go_wp2_with fail;refine(C1.out).mono ?_;rintro r w1 ⟨rfl,bu⟩;replace hf:=AB hf bu;have ay:=b1.trans (bu.mono b1.size);clear bu b1;obtain⟨d0,d1,d2,d3⟩:=AE hf;have HN:=AA hf;clear hf;go_wp2_with fail;refine(CX.out _).mono ?_;rintro r w2 ⟨rfl,bn⟩;have gi:=AA (AB HN.out bn);replace ay:=ay.trans (bn.mono ay.size);clear bn d0 d1 d2 d3 HN;go_wp2_with fail;refine(C2.out _ ay).mono ?_;rintro r w3 ⟨v',rfl,hO,dk⟩;have N3:=AB gi.out dk;have am:w.heap.size<w2.heap.size:=AW gi.out;have C3:=AA (Ik 259 #[.pointer (some ⟨w.heap.size,0,none⟩)] (BB x.e x.p) v' xs w3 hO dk.size (λ_ _=>by kernel_rfl)
  (λy _ W hW=>RA y x _ W ((hW.block _ am).trans N3)))
 have fu:=ay.trans (dk.mono ay.size);have dt:=ay.size;have hQ:=dk.size;have g2:=AA N3;clear hO dk N3 gi;go_wp2_with fail;refine(C3.out).mono ?_;rintro r w4 ⟨v4,rfl,dQ,ft⟩;have N4:=(ft.block _ am).trans g2.out;have fq:=fu.trans (ft.mono dt);have gy:w2.heap.size<=w4.heap.size:=yB hQ ft.size;obtain⟨a4,c4,rfl,iQ,ik⟩:=dQ.rd.shape;have gf:=AA dQ;have gh:=AA N4;clear dQ ft fu N4 g2
 by_cases hn:(xs.filter λy=>!BB x.e x.p y).length=4
 .have t:(((xs.filter λy=>!BB x.e x.p y).length:Int)==4)=true:=by simp[hn]
  have hx:=AA (XT (xs:=xs) (x:=x) (ys:=(xs.filter λy=>!BB x.e x.p y).drop 1) (by rw[if_pos hn]));have CD:=AA (Nw _ _ w4 gf.out gy hn);have ic:((xs.filter λy=>!BB x.e x.p y).drop 1).length<=3:=by rw[wT];omega
  generalize(xs.filter λy=>!BB x.e x.p y)=fs at*;clear hn gf e9;go_wp2_with fail;refine(CD.out).mono ?_;rintro r w5 ⟨v5,rfl,eI,fp⟩;have N5:=(fp.block _ am).trans gh.out;obtain⟨d0,d1,d2,d3⟩:=AE N5;have gV:=fq.trans (fp.mono dt);have iE:w2.heap.size<=w5.heap.size:=yB gy fp.size;have iw:=AA eI;clear eI fp fq N5 gh;generalize hgs:fs.drop 1=gs at*;clear hgs;go_wp2_with (at_builtin;go_must (refine EW (lo:=w2.heap.size) (v:=v5) (n:=gs.length) (xs:=Cc AU gs) (m:=1) (news:=[.int .i64 x.e,.int .i64 x.p,.int .i64 x.f,.bool x.w]) rfl rfl 112 (.agg #[.int .i64 0,.int .i64 0,.int .i64 0,.bool false]) 4 32 underlying26 Tryz.zF rfl (by decide) rfl (Bx iw.out (AI _ _)) rfl (Rd.zC _ #[.int .i64 x.e,.int .i64 x.p,.int .i64 x.f,.bool x.w] _ 4 1 _ rfl (by simp) (by simp[maxLen])) (by simp[xG]) (by unfold maxLen;omega) (by omega) (by simp;omega) ?_;intro v6 w6 k1 k2 k3));have R:AQ w2.heap.size 112 4 AU w6 v6 (gs++[x]):=by unfold AQ;rw[Bf,EZ,yj];exact k1
  rw[hx.out] at R;have RR:=AA R;clear k1 R;go_wp2_with fail;go_ret2;exact⟨_,rfl,RR.out.lower dt,(gV.trans ((AI _ _).mono gV.size)).trans (k3.mono dt)⟩
 .have t:(((xs.filter λy=>!BB x.e x.p y).length:Int)==4)=false:=by rw[beq_eq_false_iff_ne];omega
  have hx:=AA (XT (xs:=xs) (x:=x) (ys:=xs.filter λy=>!BB x.e x.p y) (by rw[if_neg hn]));have ic:(xs.filter λy=>!BB x.e x.p y).length<=3:=by omega
  generalize(xs.filter λy=>!BB x.e x.p y)=gs at*;clear hn e9;obtain⟨d0,d1,d2,d3⟩:=AE gh.out;go_wp2_with (at_builtin;go_must (refine EW (lo:=w2.heap.size) (v:=.slice a4 gs.length c4) (n:=gs.length) (xs:=Cc AU gs) (m:=1) (news:=[.int .i64 x.e,.int .i64 x.p,.int .i64 x.f,.bool x.w]) rfl rfl 112 (.agg #[.int .i64 0,.int .i64 0,.int .i64 0,.bool false]) 4 32 underlying26 Tryz.zF rfl (by decide) rfl (Bx gf.out (AI _ _)) rfl (Rd.zC _ #[.int .i64 x.e,.int .i64 x.p,.int .i64 x.f,.bool x.w] _ 4 1 _ rfl (by simp) (by simp[maxLen])) (by simp[xG]) (by unfold maxLen;omega) (by omega) (by simp;omega) ?_;intro v6 w6 k1 k2 k3));have R:AQ w2.heap.size 112 4 AU w6 v6 (gs++[x]):=by unfold AQ;rw[Bf,EZ,yj];exact k1
  rw[hx.out] at R;have RR:=AA R;clear k1 R;go_wp2_with fail;go_ret2;exact⟨_,rfl,RR.out.lower dt,(fq.trans ((AI _ _).mono fq.size)).trans (k3.mono dt)⟩
theorem OC(v:Value)(ss:List ByteArray)(w:World)(h:BY w v ss)(K:Db ss):Calls prog 98 #[v] w λe w'=>e=.returned (.bool (BW ss))/\Below w.heap.size w w':=by
 obtain⟨a,c,rfl,H,aq,H0⟩:=BK.open Ho (by decide) h;unfold maxLen at aq;have Hs:=AA K;clear K h;go_in;go_wp2_with fail;go_loopw [7] (λi wr=>∃k:Nat,k<=ss.length/\i=.int .i64 k/\(∀j,j<k->Cv ss j=true)/\Below w.heap.size w wr) (λi _=>ss.length - (intOf i).toNat)
 exact⟨0,yg _,rfl,λj D=>absurd D (xN _),yD _ _⟩
 obtain⟨k,z,rfl,az,ac⟩:=hrel;have au:=AA az;clear az
 by_cases am:k<ss.length
 .obtain⟨b,X,rfl,D0⟩:=H0.str am
  have bA:=yA w _ D0;have hj:=(ac.cell (p:=⟨b,X+k,none⟩) bA).trans D0;have C:=AA (λW=>Fv (Di ss k) W (Hs.out.nth am));cases a7:BV (Di ss k)
  .have S:=AA (JV am (by simp[Cv,a7]))
   have dN:=AA a7;clear a7 D0;go_wp2_with (refine(C.out _).mono ?_;rintro e w2 ⟨rfl,Y⟩;rw[dN.out]);go_ret;exact⟨AH S.out.symm,ac.trans (Y.mono ac.size)⟩
  .by_cases ep:k=0
   .have Ok:=AA (show Cv ss k=true by simp[Cv,a7];exact .inl ep)
    have dN:=AA a7;have t0:¬(0:Int)<k:=by omega
    clear a7 D0 ep;go_wp2_with fail;refine(C.out _).mono ?_;rintro e w2 ⟨rfl,Y⟩;rw[dN.out];go_wp2_with fail;go_roundw;exact⟨k+1,by omega,by go_num,Al au.out Ok.out,ac.trans (Y.mono ac.size)⟩;simp[intOf];omega
   .obtain⟨b',de,ee,E0⟩:=H0.str (show k - 1<ss.length by omega)
    obtain⟨rfl,rfl⟩:b=b'/\X=de:=by simpa using ee
    have hx:=(ac.cell (p:=⟨b,X+(k - 1),none⟩) bA).trans E0;have t0:(0:Int)<k:=by omega
    have s1:((k:Int) - 1).toNat=k - 1:=by omega
    have s3:(1:Int)<=k:=by omega
    have dN:=AA a7;clear D0 E0 ee;cases di:Ud (Di ss (k - 1)) (Di ss k)
    .have Ok:=AA (show Cv ss k=true by simp[Cv,a7,di])
     have hL:wy (Di ss (k - 1)).toList (Di ss k).toList=true:=by simpa[Ud] using di
     have EE:=AA hx;clear a7 di;go_wp2_with fail;refine(C.out _).mono ?_;rintro e w2 ⟨rfl,Y⟩;rw[dN.out];have E2:=(Y.cell (yA _ _ EE.out)).trans EE.out;clear hx;go_wp2_with fail;go_roundw;exact⟨k+1,by omega,by go_num,Al au.out Ok.out,ac.trans (Y.mono ac.size)⟩;simp[intOf];omega
    .have S:=AA (JV am (by simp[Cv,a7,di,ep]))
     have hL:wy (Di ss (k - 1)).toList (Di ss k).toList=false:=by simpa[Ud] using di
     have EE:=AA hx;clear a7 di;go_wp2_with (refine(C.out _).mono ?_;rintro e w2 ⟨rfl,Y⟩;rw[dN.out];have E2:=(Y.cell (yA _ _ EE.out)).trans EE.out;clear hx);go_ret;exact⟨AH S.out.symm,ac.trans (Y.mono ac.size)⟩
 .have S:=AA (Ma (ss:=ss) (λj D=>au.out j (by omega)))
  go_wp2_with fail;go_ret;exact⟨AH S.out.symm,ac⟩
end Go.Proofs.YtpdjjjdkhedibaaGreatDoor
namespace Go.Proofs.YtpdjjjdkhedibaaGreatDoor
open Go.Proofs.Tryz Go.RowKit Go.Shelf
theorem Ja(ss:List ByteArray):Cc BD ss=ss.map uo:=by
 induction ss with
 |nil=>rfl
 |cons s ss ih=>rw[G0,ih];rfl
def EH(ss:List ByteArray)(k:Nat)(x:ByteArray):List ByteArray:=ss.take k++x::ss.drop k
theorem aU{lo e n C:Nat}{w:World}{fw:Array Value}(K:fw.size=C)(hn:n<=C)(hm:C<=maxLen)(b7:lo<=w.heap.size):(w.alloc (.cells fw e)).ownsRow lo e 1 (.slice (some ⟨w.heap.size,0,none⟩) n C) n (fw.toList.take n):=
 ⟨by rw[xT,sW];omega,.inr ⟨w.heap.size,C,fw,rfl,b7,yi _ _,hn,hm,by omega,by rw[wB]⟩⟩
end Go.Proofs.YtpdjjjdkhedibaaGreatDoor
namespace Go.Proofs.YtpdjjjdkhedibaaGreatDoor
open Go.Proofs.Tryz Go.RowKit
theorem LM.word{w:World}{a:Option Addr}(h:LM w a m)(a7:Bu m=true){f i:Nat}(N:f<12)(A:i<4):
 ∃b X b2 b8 c2,a=some ⟨b,X,none⟩/\b<w.heap.size/\w.cell? ⟨b,X+f,none⟩=some (.slice (some ⟨b2,b8,none⟩) 4 c2)/\b2<w.heap.size/\w.cell? ⟨b2,b8+i,none⟩=some (.int .i64 (As m f i)):=by
 obtain⟨hl,hr⟩:=Ai.1 a7;obtain⟨b,X,u,rfl,am,H,fJ⟩:=h f (by omega);have h4:=(A4.1 (hr f N)).1;obtain⟨a2,c2,rfl,_,_,hc⟩:=fJ.open;obtain⟨b2,b8,rfl,dw,ed⟩:=hc.cellAt (show i<(AG m f).length by omega);rw[h4] at H;exact⟨b,X,b2,b8,c2,rfl,am,H,dw,ed⟩
theorem Hz(a7:Bu m=true){f i:Nat}(N:f<12)(A:i<4):0<=As m f i/\As m f i<=9999:=by obtain⟨hl,hr⟩:=Ai.1 a7;obtain⟨h4,hw⟩:=A4.1 (hr f N);exact hw _ (DT (by omega))
def Kz(f a:Nat)(b:Bool):Value:=.agg #[.int .i64 f,.int .i64 ((a%4:Nat):Int),.bool b]
def Ed:Value:=.agg #[.int .i64 0,.int .i64 0,.bool false]
def IK(m:List (List Int))(root a:Nat):Value:=.tuple #[if(Bq m root a).1=0 then Kz (Bq m root a).2.1 a (Bq m root a).2.2 else Ed,.int .i64 (Bq m root a).1]
theorem Qz(v:Value)(m:List (List Int))(root a:Nat)(w:World)(h:Bk w v m)(a7:Bu m=true)(hr:root<12)(ha:a<64):
 Calls prog 104 #[v,.int .i64 root,.int .i64 a] w λe w'=>e=.returned (IK m root a)/\Below w.heap.size w w':=by
 obtain⟨q,c,rfl,H,aq,H0⟩:=h.open;have hl:=(Ai.1 a7).1;unfold maxLen at aq;rw[hl] at H ⊢;have hA:=AA (λW=>Pc a W ha);obtain⟨b,X,b2,b8,c2,rfl,Y,hj,ay,D2⟩:=H0.word a7 hr (show a/16<4 by omega);have D':=((AI w (.cells #[.int .i64 0,.int .i64 0,.bool false] 114)).cell (p:=⟨b,X+root,none⟩) Y).trans hj;have eJ:=((AI w (.cells #[.int .i64 0,.int .i64 0,.bool false] 114)).cell (p:=⟨b2,b8+a/16,none⟩) ay).trans D2;have fF:=Hz a7 hr (show a/16<4 by omega);have E1:=AA (λW=>Ff (As m root (a/16)) W (by omega));have hB:=AI w (.cells #[.int .i64 0,.int .i64 0,.bool false] 114);cases c7:Bm (As m root (a/16))
 .have S:=AA (show IK m root a=.tuple #[Ed,.int .i64 1] by simp[IK,Bq,c7])
  have V1:=AA (Eu c7);clear H0 hj D2 c7 fF Y ay;go_in;go_wp2_with (first|(go_at_call 159;refine(hA.out _).mono ?_;rintro e w' ⟨rfl,rfl⟩)|(go_at_call 150;refine(E1.out _).mono ?_;rintro e w' ⟨rfl,rfl⟩;rw[V1.out]));exact yr (v:=.tuple #[Ed,.int .i64 1]) (by simp[results,uS,go_sem,Ed]) rfl ⟨by rw[S.out],hB⟩
 .have ht:BC (As m root (a/16))<12:=Ec c7
  have V1:=AA (Ej c7);obtain⟨b',de,b3,fB,c3,e,ef,D3,bn,D4⟩:=H0.word a7 ht (show a/4%4<4 by omega);cases e;have gj:=((AI w (.cells #[.int .i64 0,.int .i64 0,.bool false] 114)).cell (p:=⟨b,X+BC (As m root (a/16)),none⟩) Y).trans D3;have iT:=((AI w (.cells #[.int .i64 0,.int .i64 0,.bool false] 114)).cell (p:=⟨b3,fB+a/4%4,none⟩) bn).trans D4;have gt:=Hz a7 ht (show a/4%4<4 by omega);have E2:=AA (λW=>Ff (As m (BC (As m root (a/16))) (a/4%4)) W (by omega));cases b9:Bm (As m (BC (As m root (a/16))) (a/4%4))
  .have S:=AA (show IK m root a=.tuple #[Ed,.int .i64 2] by simp[IK,Bq,c7,b9])
   have V2:=AA (Eu b9);clear H0 hj D2 D3 D4 c7 b9 fF gt Y ay bn ef;go_in;go_wp2_with fail;refine(hA.out _).mono ?_;rintro e w' ⟨rfl,rfl⟩;go_wp2_with fail;refine(E1.out _).mono ?_;rintro e w' ⟨rfl,rfl⟩;rw[V1.out];go_wp2_with (refine(E2.out _).mono ?_;rintro e w' ⟨rfl,rfl⟩;rw[V2.out]);exact yr (v:=.tuple #[Ed,.int .i64 2]) (by simp[results,uS,go_sem,Ed]) rfl ⟨by rw[S.out],hB⟩
  .have S:=AA (show IK m root a=.tuple #[.agg #[.int .i64 ((BC (As m (BC (As m root (a/16))) (a/4%4)):Nat):Int),.int .i64 ((a%4:Nat):Int),.bool (Ko (As m root (a/16))&&Ko (As m (BC (As m root (a/16))) (a/4%4)))],.int .i64 0] by simp[IK,Bq,c7,b9,Kz])
   have V2:=AA (Ej b9);cases E:Ko (As m root (a/16))
   all_goals
    rw[E] at V1 S;clear H0 hj D2 D3 D4 c7 b9 fF gt Y ay bn ef E;go_in;go_wp2_with fail;refine(hA.out _).mono ?_;rintro e w' ⟨rfl,rfl⟩;go_wp2_with fail;refine(E1.out _).mono ?_;rintro e w' ⟨rfl,rfl⟩;rw[V1.out];go_wp2_with fail;refine(E2.out _).mono ?_;rintro e w' ⟨rfl,rfl⟩;rw[V2.out];go_wp2_with fail
   .exact yr (v:=.tuple #[.agg #[.int .i64 ((BC (As m (BC (As m root (a/16))) (a/4%4)):Nat):Int),.int .i64 ((a%4:Nat):Int),.bool false],.int .i64 0]) (by simp[results,uS,go_sem]) rfl ⟨by rw[S.out,Bool.false_and],(yD _ _).alloc (yv _) _⟩
   .exact yr (v:=.tuple #[.agg #[.int .i64 ((BC (As m (BC (As m root (a/16))) (a/4%4)):Nat):Int),.int .i64 ((a%4:Nat):Int),.bool (Ko (As m (BC (As m root (a/16))) (a/4%4)))],.int .i64 0]) (by simp[results,uS,go_sem]) rfl ⟨by rw[S.out,wt],(yD _ _).alloc (yv _) _⟩
theorem LM.row4{w:World}{a:Option Addr}(h:LM w a m)(a7:Bu m=true){f:Nat}(N:f<12):
 ∃b X b2 b8 c2,a=some ⟨b,X,none⟩/\b<w.heap.size/\w.cell? ⟨b,X+f,none⟩=some (.slice (some ⟨b2,b8,none⟩) 4 c2)/\b2<w.heap.size/\4<=c2/\∀i,i<4->w.cell? ⟨b2,b8+i,none⟩=some (.int .i64 (As m f i)):=by
 obtain⟨hl,hr⟩:=Ai.1 a7;obtain⟨b,X,u,rfl,am,H,fJ⟩:=h f (by omega);have h4:=(A4.1 (hr f N)).1;obtain⟨a2,c2,rfl,ed,_,hc⟩:=fJ.open;obtain⟨b2,b8,rfl,dw,_⟩:=hc.cellAt (show 0<(AG m f).length by omega);rw[h4] at H ed;refine⟨b,X,b2,b8,c2,rfl,am,H,dw,ed,λi A=>?_⟩;obtain⟨b',de,e,_,ax⟩:=hc.cellAt (show i<(AG m f).length by omega);cases e;exact ax
def H6(m:List (List Int))(ns:List Nat):List Nat:=ns.flatMap λn=>named (AG m n)
theorem Xh{k:Nat}(h:k<ns.length):H6 m (ns.take (k+1))=H6 m (ns.take k)++named (AG m (ns.getD k 0)):=by rw[DA (A2 (d:=0) h)];simp[H6]
theorem Kx{j:Nat}(h:j<r.length):named (r.take (j+1))=named (r.take j)++(if Bm (r.getD j 0) then[BC (r.getD j 0)] else[]):=by
 rw[DA (A2 (d:=0) h)];unfold named;rw[wm,xC]
 congr 1
 rw[vN,List.filter_nil]
 split<;>simp_all
theorem LT(a7:Bu m=true){ns:List Nat}(hn:∀n∈ns,n<12):(H6 m ns).length<=4*ns.length:=by
 induction ns with
 |nil=>simp[H6]
 |cons n ns ih=>have J:=ih (λx E=>hn x (vD _ E));have O:=FV (r:=AG m n);have h3:=(A4.1 ((Ai.1 a7).2 n (hn n (we ..)))).1;simp only[H6,List.flatMap_cons,yj,vT] at J ⊢;omega
theorem LU{ns:List Nat}{g:Nat}:g∈H6 m ns↔∃n∈ns,g∈named (AG m n):=by simp[H6]
theorem Xx{k:Nat}(h:k<ns.length):ns.getD k 0∈ns:=DT h
theorem OG{lo e sz n:Nat}{w w':World}{v:Value}{xs:List Value}(h:w'.ownsRow lo e sz v n xs)(Z:w.grownBy w' v.ownBlock)(b7:lo<=w.heap.size):Below lo w w':=(yD lo w).grown Z b7 (λk z=>(yk h k z).1)
theorem Pr{lo e sz n:Nat}{w w':World}{v u:Value}{xs:List Value}(h:w'.ownsRow lo e sz v n xs)(hv:v.ownBlock=u.ownBlock)(Z:w.grownBy w' u.ownBlock)(b7:lo<=w.heap.size):Below lo w w':=OG h (hv▸Z) b7
def Yo(m:List (List Int))(ns:List Nat)(w:World)(e:Ending)(w':World):Prop:=∃v' ts,e=.returned v'/\AF w.heap.size w' v' (Az ts)/\(∀g,g∈ts↔g∈H6 m ns)/\ts.length<=(H6 m ns).length/\Below w.heap.size w w'
theorem Sn(v v2:Value)(m:List (List Int))(ns:List Nat)(w:World)(h:Bk w v m)(a7:Bu m=true)(O:Ax w v2 (Az ns))(hn:∀n∈ns,n<12)(hl:ns.length<=1000):
 Calls prog 154 #[v,v2] w (Yo m ns w):=by
 obtain⟨q,c,rfl,H,aq,H0⟩:=h.open;obtain⟨q2,c2,rfl,ed,eB,H2⟩:=O.open;have fl:=(Ai.1 a7).1;have fd:=LT a7 hn;unfold maxLen at aq eB;rw[fl] at H ⊢;rw[Cj] at ed ⊢;have Hn:=AA hn;have dN:=AA a7;have HR:=AA H0;have HI:=AA H2;clear h O hn a7 H0 H2 fl;go_in;go_wp2_with fail;go_loopw [5,15] (λo i wr=>∃k:Nat,k<=ns.length/\i=.int .i64 k/\AF w.heap.size wr o (Az (H6 m (ns.take k)))/\Below w.heap.size w wr) (λ_ i _=>ns.length - (intOf i).toNat)
 exact⟨0,yg _,rfl,xh _ _ _ _,yD _ _⟩
 obtain⟨k,z,rfl,hO,ac⟩:=hrel
 by_cases am:k<ns.length
 .obtain⟨b,X,rfl,Y,D0⟩:=HI.out.cellAt (show k<(Az ns).length by rw[Cj];exact am)
  rw[QQ am] at D0;have hj:=(ac.cell (p:=⟨b,X+k,none⟩) Y).trans D0;have eo:=Hn.out _ (Xx am);obtain⟨bm,fA,br,fz,cr,rfl,io,M0,im,iP,W0⟩:=HR.out.row4 dN.out eo;have M:=(ac.cell (p:=⟨bm,fA+ns.getD k 0,none⟩) io).trans M0;have HW:=AA W0;have fI:=AA (A4.1 ((Ai.1 dN.out).2 _ eo)).1;have AS:=AA (Xh (m:=m) am);generalize hnk:ns.getD k 0=nk at*;have iS:=AA hnk;have ig:(H6 m (ns.take k)).length<=4*k:=by
   have:=LT dN.out (ns:=ns.take k) (λn hn=>Hn.out n (uK hn));rw[xT] at this;omega
  clear D0 M0 W0 hnk;have HO:=AA hO;have HB:=AA ac;clear hO;go_wp2_with fail;clear hj M ac;obtain⟨wo,rfl⟩:∃wo:World,wo=wr:=⟨_,rfl⟩
  go_loopw [5,24] (λo i wi=>∃j:Nat,j<=4/\i=.int .i64 j/\AF w.heap.size wi o (Az (H6 m (ns.take k)++named ((AG m nk).take j)))/\Below w.heap.size w wi) (λ_ i _=>4 - (intOf i).toNat)
  exact⟨0,by omega,rfl,by simpa[named] using HO.out,HB.out⟩
  obtain⟨j,D,rfl,fv,eG⟩:=hrel
  by_cases eu:j<4
  .have W:=(eG.cell (p:=⟨br,fz+j,none⟩) im).trans (HW.out j eu)
   have NT:=AA (Kx (r:=AG m nk) (j:=j) (by rw[fI.out];exact eu));have wb:=Hz dN.out eo eu;have CE:=AA (λW=>Ff (As m nk j) W (by omega));have gZ:=AA fv;have bw:(H6 m (ns.take k)++named ((AG m nk).take j)).length<=4*k+4:=by have:=FV (r:=(AG m nk).take j);rw[xT] at this;rw[yj];omega
   have db:=eG.size;clear fv;cases Z:Bm (As m nk j)
   .have ai:=AA (Eu Z)
    have hx:=AA (show H6 m (ns.take k)++named ((AG m nk).take (j+1))=H6 m (ns.take k)++named ((AG m nk).take j) by rw[NT.out,show(AG m nk).getD j 0=As m nk j from rfl,Z];simp);clear Z;go_wp2_with (go_at_call 150;refine(CE.out _).mono ?_;rintro e w' ⟨rfl,rfl⟩;rw[ai.out]);go_roundw;exact⟨j+1,by omega,by go_num,by rw[hx.out];exact gZ.out,eG⟩;simp[intOf];omega
   .have ai:=AA (Ej Z)
    have hx:=AA (show H6 m (ns.take k)++named ((AG m nk).take (j+1))=(H6 m (ns.take k)++named ((AG m nk).take j))++[BC (As m nk j)] by rw[NT.out,show(AG m nk).getD j 0=As m nk j from rfl,Z];simp);clear Z;generalize H6 m (ns.take k)++named ((AG m nk).take j)=acc at*;have gg:=AA (λob=>(by have:=Bx gZ.out (AI wr ob);rwa [Cj] at this:(wr.alloc ob).ownsRow w.heap.size 3 1 u5 acc.length ((Az acc).map (xY .i64))));go_wp2_with (first|(go_at_call 150;refine(CE.out _).mono ?_;rintro e w' ⟨rfl,rfl⟩;rw[ai.out])|(at_builtin;go_must (refine EW (lo:=w.heap.size) (v:=u5) (n:=acc.length) (xs:=(Az acc).map (xY .i64)) (m:=1) (news:=[.int .i64 ((BC (As m nk j):Nat):Int)]) rfl rfl 3 (.int .i64 0) 1 8 underlying29 Tryz.zI rfl (by decide) rfl (gg.out _) rfl (Rd.zC _ #[_] _ 1 1 _ rfl (by simp) (by simp[maxLen])) (by simp[xG]) (by unfold maxLen;omega) (by omega) (by simp;omega) ?_;intro o' w3 k1 k2 k3)));have R:AF w.heap.size w3 o' (Az (acc++[BC (As m nk j)])):=by unfold AF;rw[Cj,yj];simpa[Az] using k1
    rw[<-hx.out] at R;have RR:=AA R;clear k1 k2 R;go_roundw;exact⟨j+1,by omega,by go_num,RR.out,(eG.trans ((AI _ _).mono eG.size)).trans k3⟩;simp[intOf];omega
  .obtain rfl:j=4:=by omega
   have hx:H6 m (ns.take k)++named ((AG m nk).take 4)=H6 m (ns.take (k+1)):=by rw[AS.out,List.take_of_length_le (l:=AG m nk) (i:=4) (Nat.le_of_eq fI.out)]
   rw[hx] at fv;clear hx;go_wp2_with fail;go_roundw;exact⟨k+1,by omega,by go_num,fv,eG⟩;simp[intOf];omega
 .obtain rfl:k=ns.length:=by omega
  rw[xo] at hO;have CS:=AA (Mz u5 (H6 m ns) wr hO (by omega));clear hO;go_wp2_with fail;refine(CS.out).mono ?_;rintro e w1 ⟨rfl,ts,t1,t2,eE,c7⟩;have bu:=ac.trans (OG eE c7 ac.size);have dt:=bu.size;have CC:=AA (LE u5 ts w1 eE (by omega));clear eE c7 ac;go_wp2_with (refine(CC.out).mono ?_;rintro e w2 ⟨v',rfl,fG,fx,s1,s2,dd,b9⟩);go_ret;exact⟨_,fx,rfl,dd,λg=>(s2 g).trans (t2 g),by omega,bu.trans (Pr dd fG b9 dt)⟩
def Mg(m:List (List Int))(root:Int)(w:World)(e:Ending)(w':World):Prop:=∃v' ts,e=.returned v'/\AF w.heap.size w' v' (Az ts)/\(∀g,g∈ts↔g∈Be m root)/\ts.length<=100/\Below w.heap.size w w'
theorem YT{n g:Nat}:g∈Be m (n:Int)↔g=n∨g∈H6 m [n]∨g∈H6 m (H6 m [n]):=by
 rw[De];simp only[yd,LU,wX,exists_eq_left];constructor
 .rintro⟨_,h⟩;exact h
 .intro h;exact⟨by omega,h⟩
theorem Vu{a b:List Nat}(h:∀g,g∈a↔g∈b)(g:Nat):g∈H6 m a↔g∈H6 m b:=by
 rw[LU,LU];exact exists_congr λn=>and_congr_left λ_=>h n
theorem Lm(w:World)(x:Int):AF w.heap.size (w.alloc (.cells #[.int .i64 x] 3)) (.slice (some ⟨w.heap.size,0,none⟩) 1 1) [x]:=sK (base:=w.heap.size) w #[.int .i64 x] 1 (yv _) (by simp[maxLen]) (by simp)
theorem U5(n:Nat):Az [n]=[(n:Int)]:=rfl
theorem ZH(a b:List Nat):Az (a++b)=Az a++Az b:=by simp[Az]
theorem M7{lo:Nat}{w:World}{v:Value}{a b:List Nat}(h:w.ownsRow lo 3 1 v (a.length+b.length) ((Az a).map (xY .i64)++(Az b).map (xY .i64))):AF lo w v (Az (a++b)):=by unfold AF;rw[Cj,yj,ZH,xC];exact h
theorem Ox(v:Value)(m:List (List Int))(n:Nat)(w:World)(h:Bk w v m)(a7:Bu m=true)(hn:n<12):
 Calls prog 101 #[v,.int .i64 n] w (Mg m (n:Int) w):=by
 have d9:=LT a7 (ns:=[n]) (by simpa using hn);have C1:=AA (λW v2 ns (hW:Below w.heap.size w W) (O:Ax W v2 (Az ns)) (hV:∀n∈ns,n<12) (hl:ns.length<=1000)=>Sn v v2 m ns W (by obtain⟨vs,a,b⟩:=h;exact Bk.below ⟨vs,a,b⟩ hW) a7 O hV hl);have d8:∀ns:List Nat,∀g∈H6 m ns,g<12:=by intro ns g Z;obtain⟨_,_,Z⟩:=LU.1 Z;exact FW Z
 have fd:∀ns:List Nat,(∀g∈ns,g<12)->(H6 m ns).length<=4*ns.length:=λns h=>LT a7 h
 obtain⟨q,c,rfl,H,aq,_⟩:=h.open;have ix:=AA d8;have iy:=AA fd;have i0:(0:Int)<=(n:Int):=by omega
 clear h a7 H aq d8 fd;go_in;go_wp2_with fail;have b1:=AI w (.cells #[.int .i64 n] 3);have b2:=IA w (.cells #[.int .i64 n] 3) (.cells #[.int .i64 n] 3);have O1:=AA ((Lm w (n:Int)).below (AI _ (.cells #[.int .i64 n] 3)));have O2:=Lm (w.alloc (.cells #[.int .i64 n] 3)) (n:Int);rw[xx] at O2;refine(C1.out _ _ [n] b2 (by rw[U5];exact AF.rd O2) (by simpa using hn) (by simp)).mono ?_;rintro e w1 ⟨v1,t1,rfl,P1,m1,l1,bu⟩;have Q1:=AA (O1.out.below bu);have B1:=b2.trans (bu.mono b2.size);have s1:=B1.size;obtain⟨a1,c1,rfl,_,_,_⟩:=P1.rd.open;have ge:=AA (AF.rd P1);rw[Cj] at ge ⊢;clear bu b1 b2 O2 P1 O1;have R1:=AA (show Rd w1 (.slice a1 t1.length c1) 1 t1.length ((Az t1).map (xY .i64)) by have:=ge.out;unfold Ax at this;rwa [Cj] at this);have J:t1.length<=4:=by simp at d9;omega
 go_wp2_with (at_builtin;go_must (refine EW (lo:=w.heap.size) (v:=.slice (some ⟨w.heap.size,0,none⟩) 1 1) (n:=1) (xs:=[.int .i64 n]) (m:=t1.length) (news:=(Az t1).map (xY .i64)) rfl rfl 3 (.int .i64 0) 1 8 underlying29 Tryz.zI rfl (by decide) rfl Q1.out rfl R1.out Lk (by unfold maxLen;omega) (by omega) (by omega) ?_;intro o2 w2 k1 k2 k3));have O3:=AA (M7 (a:=[n]) k1);have B2:=B1.trans k3;have s2:=B2.size;clear k1 k2 k3 Q1 R1 ge B1;have b3:=B2.trans ((AI w2 (.cells #[.int .i64 n] 3)).mono s2);have O4:=AA (O3.out.below (AI w2 (.cells #[.int .i64 n] 3)));have CN:=AA (C1.out _ _ [n] b3 (by rw[U5];exact AF.rd (Lm w2 (n:Int))) (by simpa using hn) (by simp));clear O3;go_wp2_with fail;refine(CN.out).mono ?_;rintro e w3 ⟨v3,t3,rfl,P3,m3,l3,bn⟩;have O5:=AA (O4.out.below bn);have B3:=b3.trans (bn.mono b3.size);have s3:=B3.size;have h3:t3.length<=4:=by simp at d9;omega
 have eK:∀g∈t3,g<12:=λg Z=>ix.out _ g ((m3 g).1 Z)
 have CM:=AA (C1.out _ v3 t3 B3 (AF.rd P3) eK (by omega));have h4:=iy.out t3 eK;have M3:=AA m3;have M1:=AA m1;clear bn b3 P3 O4 CN m3 m1;go_wp2_with fail;refine(CM.out).mono ?_;rintro e w4 ⟨v4,t4,rfl,P4,m4,l4,dk⟩;have O6:=AA (O5.out.below dk);have gY:=AA (show w4.ownsRow w.heap.size 3 1 o2 ([n]++t1).length ((Az ([n]++t1)).map (xY .i64)) by have:=O6.out;unfold AF at this;rwa [Cj] at this);have B4:=B3.trans (dk.mono s3);have s4:=B4.size;have R4:=AA (show Rd w4 v4 1 t4.length ((Az t4).map (xY .i64)) by have:=AF.rd P4;unfold Ax at this;rwa [Cj] at this);have M4:=AA m4;have gJ:([n]++t1).length<=5:=by simp;omega
 clear dk P4 m4 O5;have dW:=AA (show ∀g,g∈(([n]++t1)++t4)↔g∈Be m (n:Int) by intro g;rw[YT,wC,wC,wX,M1.out,M4.out,Vu M3.out,or_assoc])
 generalize[n]++t1=acc at*;go_wp2_with (at_builtin;go_must (refine EW (lo:=w.heap.size) (v:=o2) (n:=acc.length) (xs:=(Az acc).map (xY .i64)) (m:=t4.length) (news:=(Az t4).map (xY .i64)) rfl rfl 3 (.int .i64 0) 1 8 underlying29 Tryz.zI rfl (by decide) rfl gY.out rfl R4.out Lk (by unfold maxLen;omega) (by omega) (by omega) ?_;intro o5 w5 k1 k2 k3));have O7:=M7 k1;have B5:=B4.trans k3;have s5:=B5.size;have iG:(acc++t4).length<=21:=by rw[yj];omega
 have CS:=AA (Mz o5 (acc++t4) w5 O7 (by omega));generalize acc++t4=fin at*;clear k1 k2 k3 O7 O6 gY R4 B4;go_wp2_with fail;refine(CS.out).mono ?_;rintro e w6 ⟨rfl,ts,u1,u2,eE,c7⟩;have B6:=B5.trans (OG eE c7 s5);have s6:=B6.size;have CC:=AA (LE o5 ts w6 eE (by omega));clear eE c7 B5;go_wp2_with (refine(CC.out).mono ?_;rintro e w7 ⟨v',rfl,fG,fx,y1,y2,dd,b9⟩);go_ret;exact⟨_,fx,rfl,dd,λg=>((y2 g).trans (u2 g)).trans (dW.out g),by omega,B6.trans (Pr dd fG b9 s6)⟩
theorem Oy(v:Value)(m:List (List Int))(r:Int)(w:World)(h:Bk w v m)(hr:r<0):Calls prog 101 #[v,.int .i64 r] w (Mg m r w):=by
 obtain⟨q,c,rfl,_,_,_⟩:=h.open;have S:=AA (show ∀g,g∈([]:List Nat)↔g∈Be m r from λg=>⟨(λh=>by cases h),(λh=>by have:=(De.1 h).1;omega)⟩);clear h;go_in;go_wp2_with fail;go_ret;exact⟨_,[],rfl,xh _ _ _ _,S.out,by decide,yD _ _⟩
theorem Pg(F:Nat)(ar:Array Value)(p:Int->Bool)(v:Value)(xs:List Int)(w:World)(h:Ax w v xs)
 (hF:∀al w,(callFunc F al).run prog w=.ok (.enter F al) w)(N:∀x,x∈xs->∀W,Below w.heap.size w W->Calls prog F (#[.int .i64 x]++ar) W λe W'=>e=.returned (.bool (p x))/\Below W.heap.size W W'):
 Calls prog 201 #[v,.func (.func F) #[] ar] w λe w'=>e=.returned (.int .i64 (F8 p xs))/\Below w.heap.size w w':=by
 obtain⟨a,c,rfl,H,aq,H0⟩:=h.open;clear h;unfold maxLen at aq;have Hf:=AA N;clear N;go_in;go_wp2;go_loopw [8] (λi wr=>∃k:Nat,k<=xs.length/\i=.int .i64 k/\(∀(j:Nat) x,j<k->xs[j]?=some x->p x=false)/\Below w.heap.size w wr) (λi _=>xs.length - (intOf i).toNat)
 exact⟨0,yg _,rfl,λj x D=>absurd D (xN _),yD _ _⟩
 obtain⟨k,z,rfl,az,ac⟩:=hrel;have au:=AA az;clear az
 by_cases am:k<xs.length
 .have E:xs[k]?=some (nth xs k):=QR am
  obtain⟨b,X,rfl,bA,dr⟩:=H0.cellAt am;have D0:=(ac.cell (p:=⟨b,X+k,none⟩) bA).trans dr;clear dr;have Hx:=AA E;have Hc:=AA (Hf.out _ (yh E) wr ac);clear E;cases hp:p (nth xs k)
  .have Hp:=AA hp;clear hp
   go_wp2_with (refine(Hc.out).mono ?_;rintro e w' ⟨rfl,ay⟩;rw[Hp.out]);go_roundw;exact⟨k+1,by omega,by go_num,Im au.out Hx.out Hp.out,ac.trans (ay.mono ac.size)⟩;simp[intOf];omega
  .have Hp:=AA hp;clear hp
   have bl:=AA (KP Hx.out au.out Hp.out);go_wp2_with (refine(Hc.out).mono ?_;rintro e w' ⟨rfl,ay⟩;rw[Hp.out]);go_ret;exact⟨Ch bl.out.symm,ac.trans (ay.mono ac.size)⟩
 .have bl:=AA (Iq (p:=p) (xs:=xs) (λj x E=>au.out j x (by have:=(yt.1 E).1;omega) E))
  go_wp2;go_ret;exact⟨Ch bl.out.symm,ac⟩
theorem J0(F:Nat)(ar:Array Value)(p:Int->Bool)(v:Value)(xs:List Int)(w:World)(h:Ax w v xs)
 (hF:∀al w,(callFunc F al).run prog w=.ok (.enter F al) w)(N:∀x,x∈xs->∀W,Below w.heap.size w W->Calls prog F (#[.int .i64 x]++ar) W λe W'=>e=.returned (.bool (p x))/\Below W.heap.size W W'):
 Calls prog 152 #[v,.func (.func F) #[] ar] w λe w'=>e=.returned (.bool (xs.any p))/\Below w.heap.size w w':=by
 have hx:=AA (KQ (p:=p) (xs:=xs));have C:=AA (Pg F ar p v xs w h hF N);clear h N;go_in;go_wp2_with (refine(C.out).mono ?_;rintro e w' ⟨rfl,ay⟩);go_ret;exact⟨AH hx.out,ay⟩
theorem TZ(f:Nat)(v:Value)(ss:List ByteArray)(iv:Value)(zZ:List AV)(br bk gk:Nat)(w:World)(hr:w.cell? ⟨br,0,none⟩=some v)(z:w.cell? ⟨bk,0,none⟩=some (.pointer (some ⟨gk,0,none⟩)))
 (A:w.cell? ⟨gk,1,none⟩=some iv)(hv:BY w v ss)(hI:Bb w iv zZ)(N:f<zZ.length):
 Calls prog 153 #[.int .i64 f,.pointer (some ⟨br,0,none⟩),.pointer (some ⟨bk,0,none⟩)] w λe w'=>e=.returned (.bool (!By ss (zS zZ f).g))/\Below w.heap.size w w':=by
 obtain⟨a,c,rfl,H,aq,H0⟩:=BK.open A0 (by decide) hI;obtain⟨b,X,rfl,Y,D0,D1,D2⟩:=H0.zP N;have M:=Uh (w1:=w) (λW hW=>PY v ss (zS zZ f).g W (BK.below hv hW));obtain⟨av,cv,rfl,_,_⟩:=hv.shape;have k0:=xX hr;have k1:=xX z;have k2:=xX A;have k3:=xX D1;have f0:(f:Int)<zZ.length:=by omega
 clear H0 hI hv D0 D1 D2;go_in;go_wp2_with fail;refine Bj ?_
 repeat(go_big_quiet_step (exact M _ _))
 refine Bi λwq bq=>?_
 go_wp2_with fail;go_ret;exact⟨rfl,bq⟩
theorem LV(gk:Nat)(v v2 iv:Value)(ss:List ByteArray)(fs:List Nat)(zZ:List AV)(w:World)(A:w.cell? ⟨gk,1,none⟩=some iv)(hv:BY w v ss)(hI:Bb w iv zZ)(O:Ax w v2 (Az fs))(gR:∀f∈fs,f<zZ.length):
 Calls prog 100 #[.pointer (some ⟨gk,0,none⟩),v,v2] w λe w'=>e=.returned (.bool (BM zZ fs ss))/\Below w.heap.size w w':=by
 have b2:=IA w (.cells #[.pointer (some ⟨gk,0,none⟩)] 124) (.cells #[v] 72);have ga:(w.alloc (.cells #[.pointer (some ⟨gk,0,none⟩)] 124)).cell? ⟨w.heap.size,0,none⟩=some (.pointer (some ⟨gk,0,none⟩)):=ym _ _ 0 _ _ _ (yi _ _);have ck:((w.alloc (.cells #[.pointer (some ⟨gk,0,none⟩)] 124)).alloc (.cells #[v] 72)).cell? ⟨w.heap.size,0,none⟩=some (.pointer (some ⟨gk,0,none⟩)):=((AI _ _).cell (yA _ _ ga)).trans ga;have cv:((w.alloc (.cells #[.pointer (some ⟨gk,0,none⟩)] 124)).alloc (.cells #[v] 72)).cell? ⟨w.heap.size+1,0,none⟩=some v:=by
  have:=ym _ _ 0 _ _ _ (yi (w.alloc (.cells #[.pointer (some ⟨gk,0,none⟩)] 124)) (.cells #[v] 72))
  rwa [xx] at this
 have fo:=yA w _ A;have S:=AA (show(!(Az fs).any (λx=>!By ss (zS zZ x.toNat).g))=BM zZ fs ss by rw[M6];unfold Az BM;rw[List.all_map];rfl);have C:=AA (J0 153 #[.pointer (some ⟨w.heap.size+1,0,none⟩),.pointer (some ⟨w.heap.size,0,none⟩)] (λx=>!By ss (zS zZ x.toNat).g) v2 (Az fs) _ (Ax.below O b2) (λ_ _=>by kernel_rfl) (by intro x E W hW;obtain⟨n,hn,rfl⟩:=vH.1 E;have Y:=b2.trans (hW.mono b2.size);exact TZ n v ss iv zZ _ _ gk W ((hW.cell (yA _ _ cv)).trans cv) ((hW.cell (yA _ _ ck)).trans ck) ((Y.cell fo).trans A) (BK.below hv Y) (BK.below hI Y) (gR n hn)))
 obtain⟨a,c,rfl,_,_,_⟩:=O.open;obtain⟨a',c',rfl,_,_⟩:=hv.shape;clear hv hI O A ga ck cv gR;go_in;go_wp2_with (refine(C.out).mono ?_;rintro e w' ⟨rfl,ay⟩);go_ret;exact⟨AH S.out,b2.trans (ay.mono b2.size)⟩
end Go.Proofs.YtpdjjjdkhedibaaGreatDoor
