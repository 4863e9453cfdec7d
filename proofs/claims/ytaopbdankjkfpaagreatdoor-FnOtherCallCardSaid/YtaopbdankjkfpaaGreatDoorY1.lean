/-
  Packed:46 texts.
-/
import Derived.Lib.Strings
import Derived.Test.YtaopbdankjkfpaaGreatDoorRows
import Derived.WalkKit
import Derived.WalkSpells
import Derived.WalkLawsBesides
import Derived.Deep.QuietTactic
import Derived.BigQuiet
import Derived.Deep.LoopGhost
import Derived.Deep.RegionHeld3
import Derived.Lib.Hide
import Derived.Handy
import Derived.Laws.AppendOwnNone
import Derived.StillTailTactics
import Derived.Maps.AppendAt
import Derived.Lib.QuietBelow
import Derived.Outline
import Derived.Lib.SliceRun
import Derived.ArgAppend
import Derived.Ground.NamesProg
import Derived.Ground.Names2Prog
import Derived.Shelf.Slices.CompactI
import Derived.Shelf.Slices.Turned
import Derived.Shelf.Sort.Plain
import Derived.Shelf.Spec.SearchS
import Derived.Shelf.Spec.SlicesInsertGrow
import Derived.Shelf.Strings.Prefix
import Derived.Shelf.Strings.SlTrimAscii
import Derived.Test.YtaopbdankjkfpaaGreatDoorProg
import Derived.Sort.OwnSortedInts
import Derived.Shelf.Slices.In.SortNone
set_option linter.unusedVariables false
set_option linter.unusedSimpArgs false
set_option maxHeartbeats 16000000
set_option maxRecDepth 100000
open Go Go.Proofs.YtaopbdankjkfpaaGreatDoor
open _root_.Array renaming ext_getElem?->sY,getD_eq_getD_getElem?->tW,getElem?_eq_some_iff->wk,getElem?_setIfInBounds_ne->wD,length_toList->tf,ofFn->sZ,replicate->sy,toList_append->uA
open Bool renaming and_eq_true->yD,not_eq_false->wW,not_eq_true'->uj,or_eq_true->xP
open _root_.ByteArray renaming getElem_eq_getElem_data->uG
open Decidable renaming not_not->uB
open Go.Addr renaming add->uJ
open Go.Builtin renaming append_->vH,clear_->tY,lenOf->su,zeroCells->xY
open Go.Code renaming region->vR
open Go.Instr renaming fieldAt->vf,loadAt->xO
open Go.IntKind renaming i64->xj
open Go.IntWalk renaming i64_in->xM
open Go.Lib renaming compact->wT,compactUpTo->tQ,run_eql_slice_nil->wQ,toList_data->xC,trimS->uw
open Go.Op renaming bytesLess->wJ
open Go.Oper renaming upon_enter->tM,wp->vg
open Go.Proofs.Tryz renaming isAgg0->ve,isAgg174->tG,isAgg29->tA,isAgg3->vE,isAgg4->vD,isAgg9->uE,sizeOf0->vw,sizeOf174->tO,sizeOf29->tH,sizeOf3->vO,sizeOf4->vN,sizeOf9->uT,zeroValue0->vX,zeroValue174->uh,zeroValue29->ud,zeroValue3->wA,zeroValue4->wv,zeroValue5->sg,zeroValue64->sr,zeroValue9->vB
open Go.Region renaming binds->ur,chainB->sk,sinkB->rX,waitsFor->yl,waitsFor_spec->tB,wanted->xy
open Go.Result renaming andThen_ok->wt
open Go.RowKit.Below renaming refl->yO
open Go.RowKit renaming Hid->uY
open Go.Sem renaming run_bind->vt
open Go.Shelf renaming Ren->vT
open Go.Sort renaming grow->vp
open Go.Value renaming cells->uK,int->ym,oneCell'->xR,ownBlock->vL,string->xZ
open Go.Value.slice renaming injEq->xS
open Go.World renaming block_lt_of_cell?->yM,cell?_of_block->wg,ownsRow_nil->xv
open Go.World.ownsRow renaming cellAt->xx,frozenAt->xT,kept->uV
open Go renaming cell_of_row->yz,cell_regrown->yy,getD_replicate_false->uo,heap_alloc_new->yw,heap_setCell_same->yF,info_parts->tZ,run_underlying->tr,wpList_append_own_none->sH
open Int renaming emod_lt_of_pos->vk,emod_nonneg->tR,tmod_eq_emod_of_nonneg->wG,toNat_natCast->yq
open List renaming all_eq_false->xh,all_eq_not_any_not->tD,all_eq_true->yr,any_eq_false->um,any_eq_true->vV,append_assoc->sA,cons_lt_cons_iff->uM,countP_cons->xA,countP_le_length->vy,countP_pos_iff->ux,count_cons->si,count_eq_zero->uq,dropWhile_cons->sV,drop_drop->uF,eq_nil_of_length_eq_zero->yh,ext_getElem?->sG,filter_append->wF,filter_eq_self->uy,find?_eq_none->sR,find?_some->sj,findIdx_eq->tN,findIdx_getElem->vF,findIdx_lt_length->vQ,foldl_cons->yK,getD_cons_succ->sW,getD_cons_zero->sX,getD_eq_getElem?_getD->yg,getElem?_append_left->xt,getElem?_drop->sS,getElem?_eq_getElem->yH,getElem?_eq_some_iff->yE,getElem?_map->xz,getElem?_of_mem->xq,getElem?_set->we,getElem?_take->uX,getElem?_take_eq_none->tP,getElem?_take_of_lt->uZ,getElem_mem->ue,getElem_of_mem->xl,isEmpty->ui,isEmpty_iff->tS,length_append->yA,length_cons->vY,length_drop->xm,length_filter_le->xL,length_map->vq,length_nil->wY,length_pos_of_mem->tC,length_set->yi,length_take->yt,map_append->xN,map_cons->vG,map_nil->uU,map_take->tI,mem_append->wM,mem_append_left->th,mem_append_right->uL,mem_cons->xH,mem_cons_of_mem->uI,mem_cons_self->vU,mem_filter->wO,mem_flatMap->wV,mem_map->vZ,mem_of_getElem?->yx,mem_of_mem_drop->uH,mem_of_mem_take->tj,mem_or_eq_of_mem_set->vh,mem_range->yj,mem_reverse->uW,mem_take_iff_getElem->tL,pairwise_append->tg,pairwise_cons->sM,pairwise_iff_getElem->wP,range->yN,range_succ->xI,replicate->yd,set_cons_succ->sN,set_cons_zero->sO,sum_append->wU,sum_cons->uv,sum_nil->uk,takeWhile_append_dropWhile->xD,take_append_drop->wS,take_left'->vC,take_length->xG,take_succ_eq_append_getElem->ul,take_take->vm
open Nat renaming add_assoc->ut,add_zero->xU,eq_zero_or_pos->wC,le_refl->yG,le_trans->yL,lt_of_lt_of_le->yv,lt_or_ge->tu,lt_succ_iff_lt_or_eq->xE,min_eq_left->vP,mod_eq_of_lt->sh,mod_lt->sF,mul_le_mul_right->wL,mul_one->wR,not_lt_zero->xW,succ_mul->uS,zero_add->wK,zero_le->yu
open Option renaming bind_some->vK,getD_some->sQ,isSome_iff_exists->vi
variable {B f id lo' t:Nat} {ss:List ByteArray} {rest:List Oper} {s:ByteArray} {w0:World} {c:Value} {m cr:List (List Int)} {vs:List Value} {F:Nat->Nat} {r:List Int}
namespace Go.Proofs.YtaopbdankjkfpaaGreatDoor
open Go.Proofs.Tryz
theorem Lu_{L:Nat->Bool}{W:Nat->Nat->Bool}{i:Nat}{B:Prop}(ai:uY (L i=false/\B/\∀j j',L j=true->W j j'=true->L j'=true))(s:Nat)(h:W s i=true:=by kernel_rfl):L s=false:=by
 cases N:L s
 .rfl
 .exact absurd (ai.2.2 s i N h) (by rw[ai.1];decide)
theorem yQ.{u_}{α:Type u_}{a b:α}(h:some a=some b):a=b:=Option.some.inj h
theorem AA{p:Prop}(h:p):uY p:=h
theorem BY{P:Nat->Prop}{Q:∀i,P i->Prop}(ai:uY (∀i (h:P i),Q i h))(i:Nat)(h:P i:=by kernel_rfl):Q i h:=ai i h
theorem Dc{P R:Nat->Prop}{Q:∀i,P i->R i->Prop}{hi C:Prop}{S:Nat->Prop}(ai:uY (∀i (h:P i) (g:R i),Q i h g))(L:uY (hi/\(∀i,S i->P i)/\C))(i:Nat)(h:S i:=by kernel_rfl)(g:R i:=by decide):Q i (L.2.1 i h) g:=ai i (L.2.1 i h) g
theorem PV{hi B:Prop}{P:Nat->Prop}{Q:∀i,P i->Prop}(ai:uY (hi/\B/\∀i (h:P i),Q i h))(i:Nat)(h:P i:=by decide):Q i h:=ai.2.2 i h
theorem Bg{P:Nat->Prop}{Q:∀i,P i->Prop}(ai:∀i (h:P i),Q i h)(i:Nat)(h:P i:=by decide):Q i h:=ai i h
structure AU where
 k:Int
 e:Int
 a:Int
 b:Int
 c:Int
 nm:ByteArray
structure AV where
 k:Int
 g:ByteArray
 r:Int
 deriving DecidableEq
def AV.zero:AV:=⟨0,⟨#[]⟩,0⟩
structure Ad where
 e:Int
 p:Int
 f:Int
 w:Bool
 deriving DecidableEq
structure Em where
 Tj:List ByteArray
 root:Int
 deriving DecidableEq
structure AN where
 mem:List (List Int)
 Xy:List AV
 V3:List Em
 V0:List Ad
 deriving DecidableEq
def Bh(n lo A:Int):Bool:=decide (lo<=n)&&decide (n<=A)
theorem AZ{n lo A:Int}:Bh n lo A=true↔lo<=n/\n<=A:=by simp[Bh]
theorem Tx{n lo A:Int}:Bh n lo A=false↔n<lo∨A<n:=by by_cases J:lo<=n<;>by_cases O:n<=A<;>simp[Bh,J,O]<;>omega
def Fi(c:UInt8):Bool:=decide (97<=c.toNat)&&decide (c.toNat<=99)
def BO(s:ByteArray):Bool:=s.data.toList.all Fi&&decide (s.size<=4)
def Cp(ss:List ByteArray)(k:Nat):ByteArray:=ss.getD k ⟨#[]⟩
theorem Gl{k:Nat}(h:k<ss.length):ss[k]?=some (Cp ss k):=by simp[Cp,h]
def M8(a b:ByteArray):Bool:=!wJ a.toList b.toList
def Cv(ss:List ByteArray)(i:Nat):Bool:=BO (Cp ss i)&&(decide (i=0)||!M8 (Cp ss (i - 1)) (Cp ss i))
def BS(ss:List ByteArray):Bool:=(yN ss.length).all (Cv ss)&&decide (ss.length<=6)
def LX(a b:ByteArray):Bool:=a.data.toList.isPrefixOf b.data.toList
def CQ(Tj:List ByteArray)(g:ByteArray):Bool:=Tj.any λs=>LX s g
def EB(n:Int):Bool:=Bh n 0 9999
def D8(r:List Int):Bool:=r.all EB&&decide (r.length=4)
def Bq(m:List (List Int)):Bool:=m.all D8&&decide (m.length=12)
def Bn(w:Int):Bool:=decide (0<w)&&decide (w%2=1)&&decide (w<48)
def BM(w:Int):Nat:=(w/4).toNat
def Kv(w:Int):Bool:=decide (w%4=3)
def AH(m:List (List Int))(f:Nat):List Int:=m.getD f []
def Au(m:List (List Int))(f i:Nat):Int:=(AH m f).getD i 0
def Sc(l:List AV)(f:Nat):AV:=l.getD f AV.zero
def AF(l:List Em)(f:Nat):Em:=l.getD f ⟨[],0⟩
def DT(x:AV):Bool:=decide (x=AV.zero)||(Bh x.k 1 3&&BO x.g&&Bh x.r 0 50)
def A8(l:List AV):Bool:=l.all DT&&decide (l.length=12)
def named(r:List Int):List Nat:=(r.filter Bn).map BM
def Bi(k:Int):Bool:=decide (k=2)||decide (k=3)
def VU(k:Int):Int:=if Bi k then k - 1 else 0
def Ba(m:List (List Int))(root:Int):List Nat:=
 if root<0 then[] else root.toNat::(named (AH m root.toNat)++(named (AH m root.toNat)).flatMap λt=>named (AH m t))
def BI(Xy:List AV)(fs:List Nat)(Tj:List ByteArray):Bool:=fs.all λf=>CQ Tj (Sc Xy f).g
def Fp(Xy:List AV)(f:Nat)(kind:Int)(Tj:List ByteArray)(w:Int):Bool:=
 if Bn w then decide (BM w≠f)&&decide ((Sc Xy (BM w)).k=kind - 1)&&CQ Tj (Sc Xy (BM w)).g else decide (w=0)
def IU(m:List (List Int))(Xy:List AV)(f:Nat)(kind:Int)(Tj:List ByteArray):Bool:=(AH m f).all (Fp Xy f kind Tj)
def countP(m:List (List Int))(Xy:List AV)(g:Nat):Nat:=
 ((yN 12).map λt=>if Bi (Sc Xy t).k then(named (AH m t)).count g else 0).sum
def Ei(V3:List Em)(g:Nat):Nat:=V3.countP λe=>decide (e.root=(g:Int))
def Bu(x:Ad):Bool:=Bh x.e 0 2&&Bh x.p 0 15&&Bh x.f 0 11
def BN(e p:Int)(y:Ad):Bool:=decide (y.e=e)&&decide (y.p=p)
def Gr(c:List Ad)(e p:Int):Int:=if c.any (BN e p) then(c.findIdx (BN e p):Nat) else -1
def AT(c:List Ad)(i:Nat):Ad:=c.getD i ⟨0,0,0,false⟩
def DA(c:List Ad)(i:Nat):Bool:=Bu (AT c i)&&!(c.take i).any (BN (AT c i).e (AT c i).p)
def Bd(c:List Ad):Bool:=(yN c.length).all (DA c)&&decide (c.length<=4)
def Bv(m:List (List Int))(root a:Nat):Int×Nat×Bool:=
 if Bn (Au m root (a/16)) then
  if Bn (Au m (BM (Au m root (a/16))) (a/4%4)) then(0,BM (Au m (BM (Au m root (a/16))) (a/4%4)),Kv (Au m root (a/16))&&Kv (Au m (BM (Au m root (a/16))) (a/4%4)))
  else(2,0,false)
 else(1,0,false)
def EI(k:AN)(e:Em):Bool:=BS e.Tj&&(decide (e.root= -1)||(Bh e.root 0 11&&decide ((Sc k.Xy e.root.toNat).k=3)))&&BI k.Xy (Ba k.mem e.root) e.Tj
def JL(k:AN):Bool:=k.V3.all (EI k)&&decide (k.V3.length=3)
def Dp(k:AN)(f:Nat):Bool:=!Bi (Sc k.Xy f).k||IU k.mem k.Xy f (Sc k.Xy f).k [⟨#[]⟩]
def IB(k:AN)(f:Nat):Bool:=decide ((Sc k.Xy f).r=(countP k.mem k.Xy f:Int)+(Ei k.V3 f:Int))
def Cs(k:AN)(x:Ad):Bool:=decide (0<=(AF k.V3 x.e.toNat).root)&&decide (Bv k.mem (AF k.V3 x.e.toNat).root.toNat (4*x.p.toNat)=(0,x.f.toNat,x.w))
def Cr(k:AN):Bool:=Bq k.mem&&A8 k.Xy&&Bd k.V0&&JL k&&(yN 12).all (Dp k)&&(yN 12).all (IB k)&&k.V0.all (Cs k)
def An{α:Type}(l:List α)(i:Nat)(f:α->α):List α:=match l[i]? with
 |some x=>l.set i (f x)
 |none=>l
def Ic(n:Int)(x:AV):AV:= {x with r:=x.r+n}
def BK(Xy:List AV)(fs:List Nat)(n:Int):List AV:=fs.foldl (λl g=>An l g (Ic n)) Xy
def Ar(Xy:List AV):Int:=if Xy.any (λx=>decide (x.k=0)) then(Xy.findIdx (λx=>decide (x.k=0)):Nat) else -1
def DU(kind:Int)(x:AV):AV:= {x with k:=kind}
def F7(m:List (List Int))(Xy:List AV)(f:Nat)(kind:Int)(Tj:List ByteArray):List AV×Int:=
 if(Sc Xy f).k≠1∨(Sc Xy f).r≠0 then(Xy,1)
 else if IU m Xy f kind Tj=false then(Xy,2)
 else if A8 (An (BK Xy (named (AH m f)) 1) f (DU kind)) then(An (BK Xy (named (AH m f)) 1) f (DU kind),0) else(Xy,1)
def Cy(m:List (List Int))(Xy:List AV)(f:Nat):List AV×Int:=
 if Bi (Sc Xy f).k=false∨(Sc Xy f).r≠0 then(Xy,1)
 else if A8 (An (BK Xy (named (AH m f)) (-1)) f (DU 1)) then(An (BK Xy (named (AH m f)) (-1)) f (DU 1),0) else(Xy,2)
def QE(ss:List ByteArray)(s:ByteArray):List ByteArray:=ss.takeWhile (λx=>!M8 x s)++s::ss.dropWhile (λx=>!M8 x s)
def BR(ss:List ByteArray)(s:ByteArray):List ByteArray×Bool:=if ss.any (λx=>decide (x=s)) then(ss,true) else if ss.length=6 then(ss,false) else(QE ss s,true)
def Bc(ss:List ByteArray)(s:ByteArray):List ByteArray:=ss.filter λr=>!LX s r
def JN(c:List Ad)(x:Ad):List Ad:=
 (if(c.filter λy=>!BN x.e x.p y).length=4 then(c.filter λy=>!BN x.e x.p y).drop 1 else c.filter λy=>!BN x.e x.p y)++[x]
def GI(c:List Ad)(e:Int):List Ad:=c.filter λy=>decide (y.e≠e)
def Ci(m:List (List Int))(f i:Nat)(w:Int):List (List Int):=An m f λr=>r.set i w
def FF(k:AN)(e:Int)(g:ByteArray):Bool:=CQ (AF k.V3 e.toNat).Tj g
abbrev Mq:=AN×Int×Int
def JU(k:AN)(c:AU):Mq:=
 if BO c.nm=false then(k,0,3)
 else if FF k c.e c.nm=false then(k,0,1)
 else if Ar k.Xy<0 then(k,0,4)
 else({k with Xy:=k.Xy.set (Ar k.Xy).toNat ⟨1,c.nm,0⟩,mem:=k.mem.set (Ar k.Xy).toNat [0,0,0,0]},Ar k.Xy,0)
def Kb(k:AN)(c:AU):Mq:=
 if(Sc k.Xy c.a.toNat).k≠1 then(k,0,3)
 else if(Sc k.Xy c.a.toNat).r≠0 then(k,0,2)
 else({k with Xy:=k.Xy.set c.a.toNat AV.zero},0,0)
def Kg(k:AN)(c:AU):Mq:=
 if(Sc k.Xy c.a.toNat).k≠1∨Bh c.b 0 3=false∨EB c.c=false then(k,0,3)
 else({k with mem:=Ci k.mem c.a.toNat c.b.toNat c.c},0,0)
def Gv(n:Int):Int:=if n=0 then 0 else if n=1 then 2 else 3
def Do(k:AN)(r:List AV×Int):Mq:=if r.2=0 then({k with Xy:=r.1},0,0) else(k,0,Gv r.2)
def Da(k:AN)(w:Int):List Nat:=if Bn w then BM w::(if Bi (Sc k.Xy (BM w)).k then named (AH k.mem (BM w)) else[]) else[]
def F9(k:AN)(a:Nat):List Nat:=(yN 3).filter λe=>(Ba k.mem (AF k.V3 e).root).contains a
def A7(Xy:List AV)(w:Int)(n:Int):List AV:=if Bn w then An Xy (BM w) (Ic n) else Xy
def D6(k:AN)(c:AU):Bool:=if Bn c.c then decide ((Sc k.Xy (BM c.c)).k=(Sc k.Xy c.a.toNat).k - 1) else decide (c.c=0)
def IF(k:AN)(c:AU):Mq:=
 if Bi (Sc k.Xy c.a.toNat).k=false∨Bh c.b 0 3=false∨D6 k c=false then(k,0,3)
 else if(F9 k c.a.toNat).all (λe=>BI k.Xy (Da k c.c) (AF k.V3 e).Tj)=false then(k,0,1)
 else if Bn c.c=true/\FF k c.e (Sc k.Xy (BM c.c)).g=false then(k,0,1)
 else({k with mem:=Ci k.mem c.a.toNat c.b.toNat c.c,Xy:=A7 (A7 k.Xy (Au k.mem c.a.toNat c.b.toNat) (-1)) c.c 1,V0:=(F9 k c.a.toNat).foldl (λc e=>GI c (e:Nat)) k.V0},0,0)
def Dz(n:Int)(e:Em):Em:= {e with root:=n}
def LP(k:AN)(c:AU):Mq:=
 if c.a≠ -1/\(Bh c.a 0 11=false∨(Sc k.Xy c.a.toNat).k≠3) then(k,0,3)
 else if BI k.Xy (Ba k.mem c.a) (AF k.V3 c.e.toNat).Tj=false then(k,0,1)
 else
  let i1:=if 0<=(AF k.V3 c.e.toNat).root then An k.Xy (AF k.V3 c.e.toNat).root.toNat (Ic (-1)) else k.Xy
  ({k with Xy:=if 0<=c.a then An i1 c.a.toNat (Ic 1) else i1,V3:=An k.V3 c.e.toNat (Dz c.a),V0:=GI k.V0 c.e},0,0)
def BQ(ss:List ByteArray)(e:Em):Em:= {e with Tj:=ss}
def Fa(k:AN)(c:AU):Mq:=
 if Bh c.a 0 2=false∨BO c.nm=false then(k,0,3)
 else if FF k c.e c.nm=false then(k,0,1)
 else if(BR (AF k.V3 c.a.toNat).Tj c.nm).2=false then(k,0,4)
 else({k with V3:=An k.V3 c.a.toNat (BQ (BR (AF k.V3 c.a.toNat).Tj c.nm).1)},0,0)
def EC(k:AN)(c:AU):Mq:=
 if Bh c.a 0 2=false∨c.a=c.e∨BO c.nm=false then(k,0,3)
 else if FF k c.e c.nm=false then(k,0,1)
 else if BI k.Xy (Ba k.mem (AF k.V3 c.a.toNat).root) (Bc (AF k.V3 c.a.toNat).Tj c.nm)=false then(k,0,2)
 else({k with V3:=An k.V3 c.a.toNat (BQ (Bc (AF k.V3 c.a.toNat).Tj c.nm))},0,0)
def Nz(k:AN)(c:AU):Mq:=
 let root:=(AF k.V3 c.e.toNat).root
 if Bh c.a 0 63=false∨root<0∨(c.k=11/\EB c.b=false) then(k,0,3)
 else
  let x:=Bv k.mem root.toNat c.a.toNat
  if x.1≠0 then(k,0,3)
  else if c.k=11/\x.2.2=false then(k,0,1)
  else
   let V0:=if Gr k.V0 c.e (c.a/4)<0 then JN k.V0 ⟨c.e,c.a/4,x.2.1,x.2.2⟩ else k.V0
   if c.k=11 then({k with mem:=Ci k.mem x.2.1 (c.a%4).toNat c.b,V0:=V0},0,0)
   else({k with V0:=V0},Au k.mem x.2.1 (c.a%4).toNat,0)
def HZ(k:AN)(c:AU):Mq:=
 if Bh c.a 0 11=false∨(Sc k.Xy c.a.toNat).k=0∨(c.k=4/\Bi c.b=false) then(k,0,3)
 else if FF k c.e (Sc k.Xy c.a.toNat).g=false then(k,0,1)
 else if c.k=2 then Kb k c
 else if c.k=3 then Kg k c
 else if c.k=4 then Do k (F7 k.mem k.Xy c.a.toNat c.b (AF k.V3 c.e.toNat).Tj)
 else if c.k=5 then Do k (Cy k.mem k.Xy c.a.toNat)
 else IF k c
def Ae(k:AN)(c:AU):Mq:=
 if c.k=1 then JU k c
 else if Bh c.k 2 6 then HZ k c
 else if c.k=7 then LP k c
 else if c.k=8 then Fa k c
 else if c.k=9 then EC k c
 else if c.k=10∨c.k=11 then Nz k c
 else(k,0,3)
open Go.RowKit
def nth(xs:List Int)(k:Nat):Int:=xs.getD k 0
def Rd(w:World)(v:Value)(sz n:Nat)(xs:List Value):Prop:=
 ∃a H,v=.slice a n H/\n<=H/\H<=maxLen/\xs.length=n*sz/\(a=none->H=0)/\
  (0<n->∃b D,a=some ⟨b,D,none⟩/\∀j,j<n*sz->w.cell? ⟨b,D+j,none⟩=xs[j]?)
theorem Rd.of_owns{w:World}{base e sz n:Nat}{v:Value}{xs:List Value}(h:w.ownsRow base e sz v n xs):Rd w v sz n xs:=by
 rcases h.2 with⟨rfl,rfl⟩|⟨g,H,bn,rfl,Y,Z,bw,am,cv,htake⟩
 .exact⟨none,0,rfl,yG _,by simp[maxLen],h.1,λ_=>rfl,λh=>absurd h (Nat.lt_irrefl _)⟩
 .refine⟨_,_,rfl,bw,am,h.1,(λh=>by cases h),λ_=>⟨g,0,rfl,λj X=>?_⟩⟩
  have:=h.cellAt j X;simpa using this
theorem Rd.keep{w w':World}{sz n:Nat}{v:Value}{xs:List Value}(h:Rd w v sz n xs)(E:∀k,k<w.heap.size->w'.heap[k]?=w.heap[k]?):Rd w' v sz n xs:=by
 obtain⟨a,H,rfl,bw,am,hl,az,z⟩:=h;refine⟨a,H,rfl,bw,am,hl,az,λhn=>?_⟩;obtain⟨b,D,rfl,av⟩:=z hn;refine⟨b,D,rfl,λj X=>?_⟩;have J:=av j X;have eU:∃u,xs[j]?=some u:=⟨xs[j]'(by omega),yH (by omega)⟩
 obtain⟨u,hu⟩:=eU;rw[hu] at J ⊢;have aq:=yM w _ J;exact(wg (E _ aq)).trans J
theorem Rd.below{w w':World}{sz n:Nat}{v:Value}{xs:List Value}(h:Rd w v sz n xs)(Y:Below w.heap.size w w'):Rd w' v sz n xs:=h.keep Y.block
theorem Rd.alloc{w:World}{sz n:Nat}{v:Value}{xs:List Value}(h:Rd w v sz n xs)(o:Obj):Rd (w.alloc o) v sz n xs:=h.keep (λk E=>(World.grownBy_alloc w o none).block k E (by simp))
def Ax(w:World)(v:Value)(xs:List Int):Prop:=Rd w v 1 xs.length (xs.map (ym .i64))
def JG(w:World)(a:Option Addr)(xs:List Int):Prop:=
 ∀k,k<xs.length->∃b D,a=some ⟨b,D,none⟩/\∀j,j<xs.length->w.cell? ⟨b,D+j,none⟩=some (.int .i64 (nth xs j))
theorem Qh{xs:List Int}{k:Nat}(h:k<xs.length):xs[k]?=some (nth xs k):=by simp[nth,h]
theorem Mz{xs:List Int}{k:Nat}(h:k<xs.length):nth xs k=xs[k]:=by simp[nth,h]
theorem Ax.open{w:World}{v:Value}{xs:List Int}(h:Ax w v xs):
 ∃a H,v=.slice a xs.length H/\xs.length<=H/\H<=maxLen/\JG w a xs:=by
 obtain⟨a,H,rfl,bw,am,hl,_,z⟩:=h;refine⟨a,H,rfl,bw,am,λk E=>?_⟩;obtain⟨b,D,rfl,av⟩:=z (by omega);refine⟨b,D,rfl,λj X=>?_⟩;rw[av j (by omega),xz,Qh X];rfl
theorem JG.at{w:World}{a:Option Addr}{xs:List Int}(h:JG w a xs){k:Nat}(E:k<xs.length):
 ∃b D,a=some ⟨b,D,none⟩/\w.cell? ⟨b,D+k,none⟩=some (.int .i64 (nth xs k)):=by
 obtain⟨b,D,rfl,z⟩:=h k E;exact⟨b,D,rfl,z k E⟩
theorem JG.keep{w w':World}{a:Option Addr}{xs:List Int}(h:JG w a xs)(E:∀k,k<w.heap.size->w'.heap[k]?=w.heap[k]?):JG w' a xs:=by
 intro k fQ;obtain⟨b,D,rfl,z⟩:=h k fQ;exact⟨b,D,rfl,λj X=>(wg (E _ (yM w _ (z j X)))).trans (z j X)⟩
theorem JG.below{w w':World}{a:Option Addr}{xs:List Int}(h:JG w a xs)(Y:Below w.heap.size w w'):JG w' a xs:=h.keep Y.block
theorem Ax.below{w w':World}{v:Value}{xs:List Int}(h:Ax w v xs)(Y:Below w.heap.size w w'):Ax w' v xs:=Rd.below h Y
theorem Ax.alloc{w:World}{v:Value}{xs:List Int}(h:Ax w v xs)(o:Obj):Ax (w.alloc o) v xs:=Rd.alloc h o
def AG(lo:Nat)(w:World)(v:Value)(xs:List Int):Prop:=w.ownsRow lo 3 1 v xs.length (xs.map (ym .i64))
theorem AG.rd{lo:Nat}{w:World}{v:Value}{xs:List Int}(h:AG lo w v xs):Ax w v xs:=Rd.of_owns h
theorem AI{a b:Bool}(h:a=b):Ending.returned (.bool a)=.returned (.bool b):=by rw[h]
theorem Cl{a b:Int}(h:a=b):Ending.returned (.int .i64 a)=.returned (.int .i64 b):=by rw[h]
theorem Lm(w:World)(a b:Nat):(w.drewN a).drewN b=w.drewN (a+b):=by simp[World.drewN,ut]
theorem ZU(w:World)(a:Nat):∃n,w.drewN a=w.drewN n:=⟨a,rfl⟩
theorem ZV(w:World)(a b:Nat):∃n,(w.drewN a).drewN b=w.drewN n:=⟨a+b,Lm w a b⟩
theorem A0{a w:World}(h:Below B a w)(n:Nat):Below B a (w.drewN n):=⟨h.os,h.tape,h.output,h.size,h.block⟩
def GT(w:World)(v:Value)(bs:List Int):Prop:=Rd w v 1 bs.length (bs.map (ym .u8))/\∀b∈bs,0<=b/\b<256
theorem TH(k:IntKind){w:World}{a:Option Addr}{len H:Nat}{zs:List Int}
 (h:(a=none/\len=0/\H=0/\zs=[])∨∃x,a=some x/\len<=H/\H<=maxLen/\zs.length=H/\(∀i,i<zs.length->w.cell? (x.add i)=some (.int k (zs.getD i 0)))/\∀n∈zs,(Lit.int k n).wf=true):
 Rd w (.slice a len H) 1 (zs.take len).length ((zs.take len).map (ym k))/\∀n∈zs.take len,(Lit.int k n).wf=true:=by
 rcases h with⟨rfl,rfl,rfl,rfl⟩|⟨x,rfl,hlc,am,hz,z,hwf⟩
 .exact⟨⟨none,0,by simp,by simp,by simp[maxLen],by simp,λ_=>rfl,by simp⟩,by simp⟩
 .have hl:(zs.take len).length=len:=by rw[yt];omega
  refine⟨⟨some x,H,by rw[hl],by omega,am,by simp,(λh=>by cases h),λhn=>?_⟩,λn hn=>hwf n (tj hn)⟩;rw[hl] at hn ⊢;have h0:=z 0 (by omega);obtain⟨b,D,fD⟩:=x;cases fD with
  |some q=>simp[uJ,World.cell?] at h0;split at h0<;>simp_all
  |none=>
   refine⟨b,D,rfl,λj X=>?_⟩;have dv:=z j (by omega);have c5:(⟨b,D,none⟩:Addr).add j=⟨b,D+j,none⟩:=by unfold uJ;split<;>simp_all
   rw[c5] at dv;rw[dv,xz,uX,if_pos (by omega)];simp[yH (show j<zs.length by omega)]
theorem Qu{w:World}{a:Option Addr}{len H:Nat}{zs:List Int}
 (h:(a=none/\len=0/\H=0/\zs=[])∨∃x,a=some x/\len<=H/\H<=maxLen/\zs.length=H/\(∀i,i<zs.length->w.cell? (x.add i)=some (.int .u8 (zs.getD i 0)))/\∀n∈zs,(Lit.int .u8 n).wf=true):
 GT w (.slice a len H) (zs.take len):=by
 refine⟨(TH .u8 h).1,λb Y=>?_⟩;have:=(TH .u8 h).2 b Y;simp only[Lit.wf,yD,decide_eq_true_eq] at this;have J:IntKind.min .u8=0:=by decide
 have O:IntKind.max .u8=255:=by decide
 omega
theorem Cx(n lo A:Int)(w:World):
 Calls prog 22 #[.int .i64 n,.int .i64 lo,.int .i64 A] w λe w'=>e=.returned (.bool (Bh n lo A))/\w=w':=by
 by_cases J:lo<=n
 .have e1:Bh n lo A=decide (n<=A):=by simp[Bh,J]
  have ai:=AA e1;clear e1;go_in;go_wp2;go_ret;exact⟨AI ai.out.symm,rfl⟩
 .have e1:Bh n lo A=false:=by simp[Bh,J]
  have ai:=AA e1;clear e1;go_in;go_wp2;go_ret;exact⟨AI ai.out.symm,rfl⟩
theorem D5(n lo A:Int)(w:World):
 Calls prog 36 #[.int .i64 n,.int .i64 lo,.int .i64 A] w λe w'=>e=.returned (.bool (Bh n lo A))/\w=w':=by
 by_cases J:lo<=n
 .have e1:Bh n lo A=decide (n<=A):=by simp[Bh,J]
  have ai:=AA e1;clear e1;go_in;go_wp2;go_ret;exact⟨AI ai.out.symm,rfl⟩
 .have e1:Bh n lo A=false:=by simp[Bh,J]
  have ai:=AA e1;clear e1;go_in;go_wp2;go_ret;exact⟨AI ai.out.symm,rfl⟩
theorem MO(n:Int)(w:World):
 Calls prog 27 #[.int .i64 n] w λe w'=>e=.returned (.bool (Bh n 0 2))/\w=w':=by
 go_in;go_wp2_with (go_at_call 36;refine(D5 _ _ _ _).mono ?_;rintro e w' ⟨rfl,rfl⟩);go_ret;exact⟨rfl,rfl⟩
def findIdx(p:Int->Bool)(xs:List Int):Int:=if xs.any p then(xs.findIdx p:Int) else -1
theorem Tu{p:Int->Bool}{xs:List Int}(h:∀j,j<xs.length->p (nth xs j)=false):findIdx p xs= -1:=by
 unfold findIdx;have:xs.any p=false:=by rw[um];intro x N;obtain⟨j,X,rfl⟩:=xl N;have:=h j X;rw[Mz X] at this;simp[this]
 simp[this]
theorem WK{p:Int->Bool}{xs:List Int}{k:Nat}(E:k<xs.length)(h:∀j,j<k->p (nth xs j)=false)(hp:p (nth xs k)=true):findIdx p xs=k:=by
 unfold findIdx;rw[Mz E] at hp;have J:xs.any p=true:=vV.2 ⟨xs[k],ue E,hp⟩;have O:xs.findIdx p=k:=by
  rw[tN E];refine⟨hp,λj X=>?_⟩;have:=h j X
  rwa [Mz (by omega)] at this
 simp[J,O]
theorem WL{p:Int->Bool}{xs:List Int}:decide (0<=findIdx p xs)=xs.any p:=by unfold findIdx;cases xs.any p<;>simp
theorem Ri(F:Nat)(au:Array Value)(p:Int->Bool)(v:Value)(xs:List Int)(w:World)(h:Ax w v xs)
 (hF:∀al w,(callFunc F al).run prog w=.ok (.enter F al) w)(hf:∀x w,Calls prog F (#[.int .i64 x]++au) w λe w'=>e=.returned (.bool (p x))/\w=w'):
 Calls prog 180 #[v,.func (.func F) #[] au] w λe w'=>e=.returned (.int .i64 (findIdx p xs))/\w=w':=by
 obtain⟨a,c,rfl,z,am,ai⟩:=h.open;clear h;unfold maxLen at am;have Hf:=AA hf;clear hf;go_in;go_wp2;go_loop [8] (λi=>∃k:Nat,k<=xs.length/\i=.int .i64 k/\∀j,j<k->p (nth xs j)=false) (λi=>xs.length - (intOf i).toNat)
 exact⟨0,yu _,rfl,λj X=>absurd X (xW _)⟩
 obtain⟨k,E,rfl,ay⟩:=hrel;have ax:=AA ay;clear ay
 by_cases aq:k<xs.length
 .obtain⟨b,D,rfl,ab⟩:=ai.at aq
  clear ai;cases hp:p (nth xs k)
  .have Hp:=AA hp;clear hp
   go_wp2_with (refine(Hf.out _ _).mono ?_;rintro e w' ⟨rfl,rfl⟩;rw[Hp.out]);go_round
   case rel=>exact⟨k+1,by omega,by go_num,λj X=>by
    rcases xE.1 X with h|h
    .exact ax.out j h
    .subst h;exact Hp.out⟩
   case measure=>simp[intOf];omega
  .have Hp:=AA hp;clear hp
   have bl:=AA (WK (p:=p) aq ax.out Hp.out);go_wp2_with (refine(Hf.out _ _).mono ?_;rintro e w' ⟨rfl,rfl⟩;rw[Hp.out]);go_ret;exact⟨Cl bl.out.symm,rfl⟩
 .have bl:=AA (Tu (p:=p) (xs:=xs) (λj X=>ax.out j (by omega)))
  go_wp2;go_ret;exact⟨Cl bl.out.symm,rfl⟩
theorem OK(F:Nat)(au:Array Value)(p:Int->Bool)(v:Value)(xs:List Int)(w:World)(h:Ax w v xs)
 (hF:∀al w,(callFunc F al).run prog w=.ok (.enter F al) w)(hf:∀x w,Calls prog F (#[.int .i64 x]++au) w λe w'=>e=.returned (.bool (p x))/\w=w'):
 Calls prog 123 #[v,.func (.func F) #[] au] w λe w'=>e=.returned (.bool (xs.any p))/\w=w':=by
 have Hf:=AA hf;clear hf;go_in;go_wp2_with (go_at_call 180;refine(Ri F au p v xs _ h hF Hf.out).mono ?_;rintro e w' ⟨rfl,rfl⟩);go_ret;exact⟨AI WL,rfl⟩
theorem Al{p:Nat->Prop}{k:Nat}(h:∀j,j<k->p j)(E:p k):∀j,j<k+1->p j:=λj X=>by
 rcases xE.1 X with h'|h'
 .exact h j h'
 .subst h';exact E
theorem Tryz.zT:(prog.info? 3).map (λi=>(i.zero,i.size,i.bytes))=some (some (.int .i64 0),1,8):=by kernel_rfl
theorem AG.below{lo:Nat}{w w':World}{v:Value}{xs:List Int}(h:AG lo w v xs)(Y:Below w.heap.size w w'):AG lo w' v xs:=by
 refine uV (row:=none) h ⟨Y.os,Y.tape,Y.output,Y.size,λk E _=>Y.block k E⟩ ?_;cases v.ownBlock<;>simp
theorem Bl{lo:Nat}{w w':World}{v:Value}{e sz n:Nat}{xs:List Value}(h:w.ownsRow lo e sz v n xs)(Y:Below w.heap.size w w'):w'.ownsRow lo e sz v n xs:=by
 refine uV (row:=none) h ⟨Y.os,Y.tape,Y.output,Y.size,λk E _=>Y.block k E⟩ ?_;cases v.ownBlock<;>simp
theorem Below.zF{w w':World}(h:w.grownBy w' none):Below w.heap.size w w':=⟨h.os,h.tape,h.output,h.size,λk E=>h.block k E (by simp)⟩
theorem VR(hc:Value)(hz:hc.cells= #[hc])(n:Nat):(madeCells hc.cells (n*1)).toList=yd n hc:=by rw[hz,wR,toList_madeCells_one]
theorem Pq{w:World}{ops:Array Oper}{o:Oper}{a:Act}{Q:Exit->Act->World->Prop}{l:Operand}{t:TypeId}{n:Nat}
 (Z:o.guard=none)(du:o.op=Op.makeSlice t l l)(e:TypeId)(hc:Value)(bytes:Nat)(J:prog.underlying t=some (.slice e))
 (O:(prog.info? e).map (λi=>(i.zero,i.size,i.bytes))=some (some hc,1,bytes))(hz:hc.cells= #[hc])
 (hl:a.eval l=.int .i64 n)(b2:bytes*n<=281474976710656)(b3:n<=maxLen)
 (hK:∀w',w'.ownsRow w.heap.size e 1 (.slice (some ⟨w.heap.size,0,none⟩) n n) n (yd n hc)->Below w.heap.size w w'->w.heap.size<w'.heap.size->
  wpList prog ops Q rest (a.put o.dst (.slice (some ⟨w.heap.size,0,none⟩) n n)) w'):wpList prog ops Q (o::rest) a w:=by
 obtain⟨i0,A,d8,d4,d7⟩:=tZ O;refine wpList_make_full w Z l l t du w.heap.size e i0 hc 1 J A d8 d4 .i64 .i64 n n n hl hl rfl rfl (by rw[d7];exact b2) b3 (yG _) λw' h h'=>?_
 rw[VR hc hz] at h;exact hK w' h (Below.zF h') (h.lt _ rfl).2
theorem ML{xs ys:List Int}(hl:xs.length=ys.length)(h:∀j,j<xs.length->nth xs j=nth ys j):xs=ys:=by
 refine List.ext_getElem hl λj J O=>?_
 have:=h j J
 rwa [Mz J,Mz O] at this
theorem Yf{xs ys:List Int}{k:Nat}(h:nth xs k≠nth ys k):decide (xs=ys)=false:=by simp only[decide_eq_false_iff_not];rintro rfl;exact h rfl
theorem Ye{xs ys:List Int}(h:xs.length≠ys.length):decide (xs=ys)=false:=by simp only[decide_eq_false_iff_not];rintro rfl;exact h rfl
theorem Ns(v1 v2:Value)(xs ys:List Int)(w:World)(J:Ax w v1 xs)(O:Ax w v2 ys):
 Calls prog 12 #[v1,v2] w λe w'=>e=.returned (.bool (decide (xs=ys)))/\∃n,w'=w.drewN n:=by
 obtain⟨a1,c1,rfl,gN,f6,H1⟩:=J.open;obtain⟨a2,c2,rfl,gM,f5,H2⟩:=O.open;clear J O;unfold maxLen at f6 f5
 by_cases bk:(xs.length:Int)=ys.length
 .have Y:((xs.length:Int) !=ys.length)=false:=by simp[bk]
  have gG:xs.length<=ys.length/\ys.length<=xs.length:=by omega
  clear bk;go_in;go_wp2;go_loopw [5] (λi wr=>∃k:Nat,k<=xs.length/\i=.int .i64 k/\(∀j,j<k->nth xs j=nth ys j)/\∃n,wr=w.drewN n) (λi _=>xs.length - (intOf i).toNat)
  exact⟨0,yu _,rfl,λj X=>absurd X (xW _),0,rfl⟩
  obtain⟨k,E,rfl,ay,n,rfl⟩:=hrel;have ax:=AA ay;clear ay
  by_cases aq:k<xs.length
  .obtain⟨b1,o1,rfl,D1⟩:=H1.at aq
   have fJ:k<ys.length:=by omega
   obtain⟨b2,o2,rfl,D2⟩:=H2.at fJ;clear H1 H2
   by_cases he:nth xs k=nth ys k
   .have gK:(nth xs k !=nth ys k)=false:=by simp[he]
    have He:=AA he;clear he;go_wp2;go_quiet (fail);go_wp2;go_roundw;exact⟨k+1,by omega,by go_num,Al ax.out He.out,_,rfl⟩;simp[intOf];omega
   .have gK:(nth xs k !=nth ys k)=true:=by simp[he]
    have dk:=AA (Yf he);clear he;go_wp2;go_quiet (fail);go_wp2;go_ret
    first|exact⟨AI dk.out.symm,ZV _ _ _⟩|exact⟨AI dk.out.symm,ZU _ _⟩
  .have dk:=AA (ML (xs:=xs) (ys:=ys) (by omega) (λj X=>ax.out j (by omega)))
   go_wp2;go_ret;exact⟨AI (by simp[dk.out]),_,rfl⟩
 .have Y:((xs.length:Int) !=ys.length)=true:=by simp[bk]
  have dk:=AA (Ye (xs:=xs) (ys:=ys) (by omega));clear bk;go_in;go_wp2;go_ret;exact⟨AI dk.out.symm,0,rfl⟩
theorem EX{lo:Nat}{w:World}{ops:Array Oper}{o:Oper}{a:Act}{Q:Exit->Act->World->Prop}{s x:Operand}{t:TypeId}
 (ez:o.guard=none)(ho:o.op=.call {callee:=.builtin .append,args:= #[s,x],argTypes:= #[t,t]})
 (e:TypeId)(hc:Value)(sz bytes:Nat)(K:prog.underlying t=some (.slice e))(A:(prog.info? e).map (λi=>(i.zero,i.size,i.bytes))=some (some hc,sz,bytes))
 (em:hc.cells.size=sz)(cy:0<sz){v u:Value}{n m:Nat}{xs news:List Value}(V:a.eval s=v)(a6:w.ownsRow lo e sz v n xs)
 (N:a.eval x=u)(hr:Rd w u sz m news)(J:∀u∈news,u.oneCell'=true)(gf:n+m<=maxLen)(b0:(n+m)*bytes<=140737488355328)(bm:lo<=w.heap.size)
 (hK:∀v' w',w'.ownsRow lo e sz v' (n+m) (xs++news)->w.grownBy w' v.ownBlock->Below lo w w'->wpList prog ops Q rest (a.put o.dst v') w'):wpList prog ops Q (o::rest) a w:=by
 obtain⟨i0,c7,d8,d4,d7⟩:=tZ A;obtain⟨ao,c,rfl,gF,am,hl,az,z⟩:=hr;have ac:∀w',w.grownBy w' v.ownBlock->Below lo w w':=λw' Z=>(yO lo w).grown Z bm (λk E=>(a6.lt k E).1)
 cases ao with
 |none=>
  have b8:=az rfl;subst b8;obtain rfl:m=0:=by omega
  have ck:news=[]:=yh (by simpa using hl);subst ck;refine sH ez s x t ho lo e i0 sz K c7 v n xs V a6 N ?_;exact hK v w (by simpa using a6) ⟨rfl,rfl,rfl,yG _,λ_ _ _=>rfl⟩ (yO _ _)
 |some ad=>
  refine wpList_append_own w ez s x t ho lo e i0 hc sz bytes K c7 d8 d4 d7 em cy v n xs V a6 ad m c news N hl ?_ J gf b0 bm (λv' w' O h3 _=>hK v' w' O h3 (ac w' h3));intro j u hu
  rcases wC m with rfl|hm
  .simp at hl
   simp[hl] at hu
  .obtain⟨b,D,ga,av⟩:=z hm
   obtain rfl:ad=⟨b,D,none⟩:=by simpa using ga
   have X:j<news.length:=(yE.1 hu).1;have c5:(⟨b,D,none⟩:Addr).add j=⟨b,D+j,none⟩:=by unfold uJ;split<;>simp_all
   rw[c5,av j (by omega),hu]
theorem Rd.news(w:World)(cs:Array Value)(e:TypeId)(sz n:Nat)(V:cs.size=n*sz)(hn:n<=maxLen):Rd (w.alloc (.cells cs e)) (.slice (some ⟨w.heap.size,0,none⟩) n n) sz n cs.toList:=
 Rd.of_owns (World.ownsRow_lit (base:=w.heap.size) w cs n (yG _) hn V)
theorem Lt{xs:List Int}:∀u∈xs.map (ym .i64),u.oneCell'=true:=by intro u hu;obtain⟨x,_,rfl⟩:=vZ.1 hu;rfl
theorem Cu(w:World)(e sz:Nat):(w.alloc (.cells #[] e)).ownsRow w.heap.size e sz (.slice (some ⟨w.heap.size,0,none⟩) 0 0) 0 []:=
 World.ownsRow_made w #[] 0 (yG _) (by simp[maxLen]) (by simp)
theorem KJ(v:Value)(xs:List Int)(w:World)(h:Ax w v xs)(V:xs.length<=1048576):
 Calls prog 45 #[v] w λe w'=>∃v',e=.returned v'/\AG w.heap.size w' v' xs/\Below w.heap.size w w':=by
 have h':=h;obtain⟨a,c,rfl,bw,am,hl,az,z⟩:=h';have hq:=λw=>wQ (P:=prog) w 29 3 a xs.length c 0 0 underlying29
 cases a with
 |none=>have b8:=az rfl;subst b8;have h0:xs=[]:=yh (by omega);subst h0;simp only[wY] at hq;go_in;go_wp2;go_ret;exact⟨_,rfl,xv _ _ _ _,yO _ _⟩
 |some ad=>clear z az;go_in;go_wp2_with (refine EX (lo:=w.heap.size) (v:=.slice (some ⟨w.heap.size,0,none⟩) 0 0) (n:=0) (xs:=[]) (m:=xs.length) (news:=xs.map (ym .i64)) rfl rfl 3 (.int .i64 0) 1 8 underlying29 Tryz.zT rfl (by decide) rfl (Cu _ _ _) rfl (h.alloc _) Lt (by unfold maxLen;omega) (by omega) (by simp) ?_;intro v' w' a6 _ ac);go_ret;refine⟨_,rfl,by simpa[AG] using a6,((yO _ _).alloc (yG _) _).trans ac⟩
theorem Jj{w:World}{lo e sz n:Nat}{v:Value}{xs:List Value}(h:w.ownsRow lo e sz v n xs)(hn:0<n):∃g H,v=.slice (some ⟨g,0,none⟩) n H/\lo<=g/\g<w.heap.size:=by
 have aq:=h.lt
 rcases h.2 with⟨_,rfl⟩|⟨g,H,bn,rfl,Y,Z,_⟩
 .omega
 .exact⟨g,H,rfl,Y,(aq g rfl).2⟩
theorem Fv{xs:List Int}{a:Nat}(h:a<xs.length):(xs.map (ym .i64))[a]?=some (.int .i64 (nth xs a)):=by rw[xz,Qh h];rfl
theorem UL{xs:List Int}{a j:Nat}{x:Int}(ha:a<xs.length):nth (xs.set a x) j=if j=a then x else nth xs j:=by
 unfold nth;rw[yg,yg,we]
 by_cases h:a=j
 .subst h;simp[ha]
 .have h':j≠a:=λe=>h e.symm
  simp[h,h']
def CZ{α:Type}(cs:α->List Value)(xs:List α):List Value:=xs.flatMap cs
theorem H6{α:Type}(cs:α->List Value)(x:α)(xs:List α):CZ cs (x::xs)=cs x++CZ cs xs:=rfl
theorem Bj{α:Type}(cs:α->List Value)(xs ys:List α):CZ cs (xs++ys)=CZ cs xs++CZ cs ys:=List.flatMap_append
theorem Ee{α:Type}(cs:α->List Value)(x:α):CZ cs [x]=cs x:=by simp[CZ]
theorem JA{α:Type}{cs:α->List Value}{sz:Nat}(V:∀x,(cs x).length=sz)(xs:List α):(CZ cs xs).length=xs.length*sz:=by
 induction xs with
 |nil=>simp[CZ]
 |cons x xs ih=>rw[H6,yA,V,ih,vY,uS];omega
theorem Ph{α:Type}{cs:α->List Value}{sz:Nat}(V:∀x,(cs x).length=sz){xs:List α}{k:Nat}{x:α}(h:xs[k]?=some x){j:Nat}(X:j<sz):(CZ cs xs)[k*sz+j]?=(cs x)[j]? :=by
 induction xs generalizing k with
 |nil=>simp at h
 |cons y ys ih=>
  cases k with
  |zero=>simp only[List.getElem?_cons_zero,Option.some.injEq] at h;subst h;rw[H6,xt (by rw[V];omega)];simp
  |succ k=>
   rw[List.getElem?_cons_succ] at h;rw[H6,List.getElem?_append_right (by rw[V,uS];omega),V,<-ih h]
   congr 1
   rw[uS];omega
def Tc{α:Type}(sz:Nat)(cs:α->List Value)(w:World)(a:Option Addr)(xs:List α):Prop:=
 ∀(k:Nat) x,xs[k]?=some x->∃b D,a=some ⟨b,D,none⟩/\b<w.heap.size/\∀(j:Nat) u,(cs x)[j]?=some u->w.cell? ⟨b,D+k*sz+j,none⟩=some u
theorem Tc.below{α:Type}{sz:Nat}{cs:α->List Value}{w w':World}{a:Option Addr}{xs:List α}(h:Tc sz cs w a xs)(Y:Below w.heap.size w w'):Tc sz cs w' a xs:=by
 intro k x E;obtain⟨b,D,rfl,aq,z⟩:=h k x E;exact⟨b,D,rfl,yv aq Y.size,λj u hu=>(Y.cell (p:=⟨b,D+k*sz+j,none⟩) aq).trans (z j u hu)⟩
theorem Tc.of{α:Type}{sz:Nat}{cs:α->List Value}(V:∀x,(cs x).length=sz)(cy:0<sz){w:World}{a:Option Addr}{n c:Nat}{xs:List α}(h:Rd w (.slice a n c) sz xs.length (CZ cs xs)):Tc sz cs w a xs:=by
 obtain⟨a',H,hv,bw,am,hl,_,z⟩:=h;simp only[xS] at hv;obtain⟨rfl,rfl,rfl⟩:=hv;intro k x E;have aq:=(yE.1 E).1;obtain⟨b,D,rfl,av⟩:=z (by omega);have dz:∀(j:Nat) u,(cs x)[j]?=some u->w.cell? ⟨b,D+k*sz+j,none⟩=some u:=by
  intro j u hu;have X:j<sz:=by rw[<-V x];exact(yE.1 hu).1
  have hm:k*sz+sz<=xs.length*sz:=by rw[<-uS];exact wL _ aq
  rw[ut,av (k*sz+j) (by omega),Ph V E X,hu]
 refine⟨b,D,rfl,?_,dz⟩;have h0:(cs x)[0]?=some ((cs x)[0]'(by rw[V];omega)):=yH _;exact yM w _ (dz 0 _ h0)
theorem Rd.shape{w:World}{v:Value}{sz n:Nat}{xs:List Value}(h:Rd w v sz n xs):∃a H,v=.slice a n H/\n<=H/\H<=maxLen:=by obtain⟨a,H,rfl,bw,am,_⟩:=h;exact⟨a,H,rfl,bw,am⟩
def Gw(w:World)(g o:Nat):Nat->List Value->World
 |_,[]=>w
 |j,u::us=>Gw (w.setCell ⟨g,o+j,none⟩ u) g o (j+1) us
def FW(xs:List Value)(o:Nat):Nat->List Value->List Value
 |_,[]=>xs
 |j,u::us=>FW (xs.set (o+j) u) o (j+1) us
theorem L5(hi B C us:List Value)(j:Nat)(hB:B.length=us.length)(o:Nat)(ho:hi.length=o+j):FW (hi++B++C) o j us=hi++us++C:=by
 induction us generalizing hi B j with
 |nil=>simp at hB;subst hB;simp[FW]
 |cons u us ih=>
  cases B with
  |nil=>simp at hB
  |cons b B=>
   rw[FW,<-ho];have e:(hi++b::B++C).set hi.length u=(hi++[u])++B++C:=by simp[List.set_append_right]
   rw[e,ih (hi++[u]) B (j+1) (by simpa using hB) (by simp;omega)];simp
theorem El{w:World}{lo e sz g n H:Nat}{xs:List Value}(h:w.ownsRow lo e sz (.slice (some ⟨g,0,none⟩) n H) n xs)(o j:Nat)(us:List Value):
 (Gw w g o j us).ownsRow lo e sz (.slice (some ⟨g,0,none⟩) n H) n (FW xs o j us)/\w.grownBy (Gw w g o j us) (some g):=by
 induction us generalizing w xs j with
 |nil=>exact⟨h,⟨rfl,rfl,rfl,yG _,λ_ _ _=>rfl⟩⟩
 |cons u us ih=>obtain⟨s1,s2⟩:=World.ownsRow.stored h (o+j) u;obtain⟨t1,t2⟩:=ih s1 (j+1);exact⟨t1,⟨t2.os.trans s2.os,t2.tape.trans s2.tape,t2.output.trans s2.output,yL s2.size t2.size,λb Y a7=>(t2.block b (yv Y s2.size) a7).trans (s2.block b Y a7)⟩⟩
theorem DF{α:Type}{xs:List α}{k:Nat}{x:α}(h:xs[k]?=some x):xs.take (k+1)=xs.take k++[x]:=by obtain⟨aq,rfl⟩:=yE.1 h;exact ul aq
theorem U5{α:Type}{cs:α->List Value}{sz:Nat}(V:∀x,(cs x).length=sz){xs:List α}{k:Nat}(E:k<xs.length)(y:α):FW (CZ cs xs) (k*sz) 0 (cs y)=CZ cs (xs.set k y):=by
 have e1:xs=xs.take k++[xs[k]]++xs.drop (k+1):=by simp
 have e2:xs.set k y=xs.take k++[y]++xs.drop (k+1):=by rw[List.set_eq_take_append_cons_drop,if_pos E];simp
 rw[e2]
 conv=>lhs;rw[e1]
 rw[Bj,Bj,Bj,Bj,Ee,Ee];exact L5 _ _ _ _ 0 (by rw[V,V]) _ (by rw[JA V,yt];congr 1;omega)
theorem AJ(w:World)(a:Obj):Below w.heap.size w (w.alloc a):=(yO _ _).alloc (yG _) _
theorem EH(w:World)(o:Obj):(w.alloc o).heap[w.heap.size]?=some o/\Below w.heap.size w (w.alloc o):=⟨yw w o,AJ w o⟩
theorem IH(w:World)(a b:Obj):Below w.heap.size w ((w.alloc a).alloc b):=(AJ w a).alloc (by simp) _
theorem ZM(w:World)(a b c:Obj):Below w.heap.size w (((w.alloc a).alloc b).alloc c):=(IH w a b).alloc (by simp;omega) _
theorem cJ(w:World)(a b c d:Obj):Below w.heap.size w ((((w.alloc a).alloc b).alloc c).alloc d):=(ZM w a b c).alloc (by simp;omega) _
theorem ZL{W w1:World}(Y:Below W.heap.size W w1):(∀b o,b<W.heap.size->w1.cell? ⟨b,o,none⟩=W.cell? ⟨b,o,none⟩)/\(∀b o,b<W.heap.size->w1.frozen? ⟨b,o,none⟩=W.frozen? ⟨b,o,none⟩):=
 ⟨λb o h=>Y.cell (p:=⟨b,o,none⟩) h,λb o h=>Y.frozen (p:=⟨b,o,none⟩) h⟩
theorem Bm{lo:Nat}{w:World}{ops:Array Oper}{o:Oper}{a:Act}{Q:Exit->Act->World->Prop}{s x:Operand}{t:TypeId}
 (ez:o.guard=none)(ho:o.op=.call {callee:=.builtin .append,args:= #[s,x],argTypes:= #[t,t]})
 (e:TypeId)(hc:Value)(sz bytes:Nat)(K:prog.underlying t=some (.slice e))(A:(prog.info? e).map (λi=>(i.zero,i.size,i.bytes))=some (some hc,sz,bytes))
 (em:hc.cells.size=sz)(cy:0<sz){v u:Value}{n m:Nat}{xs news:List Value}(V:a.eval s=v)(a6:w.ownsRow lo e sz v n xs)
 (N:a.eval x=u)(hr:Rd w u sz m news)(J:∀u∈news,u.oneCell'=true)(gf:n+m<=maxLen)(b0:(n+m)*bytes<=140737488355328)(bm:lo<=w.heap.size)
 (hK:∀v' w',w'.ownsRow lo e sz v' (n+m) (xs++news)->w.grownBy w' v.ownBlock->(v'.ownBlock=v.ownBlock∨v'.ownBlock=some w.heap.size)->Below lo w w'->wpList prog ops Q rest (a.put o.dst v') w'):wpList prog ops Q (o::rest) a w:=by
 obtain⟨i0,c7,d8,d4,d7⟩:=tZ A;obtain⟨ao,c,rfl,gF,am,hl,az,z⟩:=hr;have ac:∀w',w.grownBy w' v.ownBlock->Below lo w w':=λw' Z=>(yO lo w).grown Z bm (λk E=>(a6.lt k E).1)
 cases ao with
 |none=>
  have b8:=az rfl;subst b8;obtain rfl:m=0:=by omega
  have ck:news=[]:=yh (by simpa using hl);subst ck;refine sH ez s x t ho lo e i0 sz K c7 v n xs V a6 N ?_;exact hK v w (by simpa using a6) ⟨rfl,rfl,rfl,yG _,λ_ _ _=>rfl⟩ (.inl rfl) (yO _ _)
 |some ad=>
  refine wpList_append_own_at w ez s x t ho lo e i0 hc sz bytes K c7 d8 d4 d7 em cy v n xs V a6 ad m c news N hl ?_ J gf b0 bm (λv' w' O h3 _ h5=>hK v' w' O h3 h5 (ac w' h3));intro j u hu
  rcases wC m with rfl|hm
  .simp at hl
   simp[hl] at hu
  .obtain⟨b,D,ga,av⟩:=z hm
   obtain rfl:ad=⟨b,D,none⟩:=by simpa using ga
   have X:j<news.length:=(yE.1 hu).1;have c5:(⟨b,D,none⟩:Addr).add j=⟨b,D+j,none⟩:=by unfold uJ;split<;>simp_all
   rw[c5,av j (by omega),hu]
theorem Rd.zN(w:World)(cs:Array Value)(e:TypeId)(sz n g:Nat)(Z:g=w.heap.size)(V:cs.size=n*sz)(hn:n<=maxLen):Rd (w.alloc (.cells cs e)) (.slice (some ⟨g,0,none⟩) n n) sz n cs.toList:=by subst Z;exact Rd.news w cs e sz n V hn
theorem Aw{lo e sz n:Nat}{w w':World}{v:Value}{xs:List Value}{row:Option Nat}(h:w.ownsRow lo e sz v n xs)(Z:w.grownBy w' row)(a7:v.ownBlock=none∨v.ownBlock≠row):w'.ownsRow lo e sz v n xs:=uV h Z a7
theorem BZ{lo e sz n:Nat}{w:World}{v:Value}{xs:List Value}(h:w.ownsRow lo e sz v n xs)(hl:lo'<=lo):w.ownsRow lo' e sz v n xs:=by
 refine⟨h.1,?_⟩
 rcases h.2 with h'|⟨g,H,bn,rfl,Y,rest⟩
 .exact .inl h'
 .exact .inr ⟨g,H,bn,rfl,yL hl Y,rest⟩
theorem AP{w w' cb:World}{row:Option Nat}(h:w.grownBy w' row)(h':w'.grownBy cb row):w.grownBy cb row:=
 ⟨h'.os.trans h.os,h'.tape.trans h.tape,h'.output.trans h.output,yL h.size h'.size,λb Y a7=>(h'.block b (yv Y h.size) a7).trans (h.block b Y a7)⟩
theorem Aa{w w':World}(h:Below w.heap.size w w')(row:Option Nat):w.grownBy w' row:=⟨h.os,h.tape,h.output,h.size,λb Y _=>h.block b Y⟩
def GD(v1 v2:Value):Prop:=∀k,v1.ownBlock=some k->v2.ownBlock≠some k
theorem GD.symm{v1 v2:Value}(h:GD v1 v2):GD v2 v1:=λk J O=>h k O J
theorem GD.ne{v1 v2:Value}(h:GD v1 v2):v1.ownBlock=none∨v1.ownBlock≠v2.ownBlock:=by
 cases hv:v1.ownBlock with
 |none=>exact .inl rfl
 |some k=>exact .inr λe=>h k hv e.symm
theorem GD.grown{v v' u:Value}(h:GD v u)(hv:v'.ownBlock=v.ownBlock∨v'.ownBlock=some B)(hu:∀k,u.ownBlock=some k->k<B):GD v' u:=by
 intro k E gu
 rcases hv with e|e
 .exact h k (e▸E) gu
 .rw[e] at E
  cases E;exact absurd (hu _ gu) (Nat.lt_irrefl _)
theorem mixed:prog.follows .mixedOrders=true:=by kernel_rfl
section
variable {P:Program}
def Ag(l:List Oper)(i:Nat):Nat:=((l[i]?).bind (·.dst)).getD 0
def Aj(l:List Oper)(is:List Nat)(vs:Nat->Value)(b:Array Value):Array Value:=is.foldl (λb i=>b.setIfInBounds (Ag l i) (vs i)) b
def Ih(l:List Oper)(n:Nat):Bool:=
 decide (n<l.length)&&rX .any l.toArray n&&sk .any l.toArray n&&
 ((yN n).all λi=>match l[i]? with|some o=>o.dst.isSome|none=>false)&&
 ((yN n).all λi=>(yN n).all λj=>i==j||Ag l i !=Ag l j)&&
 Region.seqB .any l.toArray (l.length - n) n (sZ (n:=l.length) λi=>decide (i.val<n))&&
 ((yN l.length).all λj=>match l[j]? with|some o=>o.after.all λe=>!ur .any e||decide (e.on<j)|none=>false)
def Gn(L:Nat->Bool)(i:Nat):Nat->Bool:=λj=>if j=i then true else L j
theorem Dg{L:Nat->Bool}{i j:Nat}(h:Gn L i j=false):L j=false:=by
 unfold Gn at h
 split at h
 .cases h
 .exact h
def AY(P:Program)(l:List Oper)(o:Oper)(a:Act)(w:World)(ht:Act->World->Prop)(Q:Exit->Act->World->Prop):Prop:=
 (xy o (yielded l.toArray a.tmps)=true->vg P o a w ht Q)/\(xy o (yielded l.toArray a.tmps)=false->ht (a.put o.dst undef) w)
theorem AY.of{P:Program}{l:List Oper}{o:Oper}{a:Act}{w:World}{ht:Act->World->Prop}{Q:Exit->Act->World->Prop}(Z:o.guard=none)(h:vg P o a w ht Q):AY P l o a w ht Q:=
 ⟨λ_=>h,λhw=>by simp[xy,Z] at hw⟩
theorem yP{P:Program}{l:List Oper}{o:Oper}{a:Act}{w:World}{ht:Act->World->Prop}{Q:Exit->Act->World->Prop}(h:vg P o a w ht Q)(Z:o.guard=none:=by rfl):AY P l o a w ht Q:=AY.of Z h
theorem OF{l:List Oper}{tmps:Array Value}{g d:Nat}{b:Bool}(hd:(l[g]?).bind (·.dst)=some d)(hv:tmps[d]?.getD undef=.bool b):yielded l.toArray tmps g=some b:=by
 have h:(l.toArray[g]?).bind (·.dst)=some d:=by simpa using hd
 cases N:tmps[d]? with
 |none=>rw[N] at hv;simp[undef] at hv
 |some x=>rw[N] at hv;simp at hv;subst hv;unfold yielded;rw[h,vK,N]
theorem AY.yes{P:Program}{l:List Oper}{o:Oper}{a:Act}{w:World}{ht:Act->World->Prop}{Q:Exit->Act->World->Prop}{g d:Nat}{b:Bool}(Z:o.guard=some (g,b))(hd:(l[g]?).bind (·.dst)=some d)(hv:a.tmps[d]?.getD undef=.bool b)(h:vg P o a w ht Q):AY P l o a w ht Q:=
 ⟨λ_=>h,λhw=>by simp[xy,Z,OF hd hv] at hw⟩
theorem AY.no{P:Program}{l:List Oper}{o:Oper}{a:Act}{w:World}{ht:Act->World->Prop}{Q:Exit->Act->World->Prop}{g d:Nat}{b:Bool}(Z:o.guard=some (g,b))(hd:(l[g]?).bind (·.dst)=some d)(hv:a.tmps[d]?.getD undef=.bool (!b))(h:ht (a.put o.dst undef) w):AY P l o a w ht Q:=
 ⟨λhw=>by rw[xy,Z] at hw;simp only[OF hd hv] at hw;cases b<;>simp at hw,λ_=>h⟩
theorem Bp{a:Act}{v:Value}(h:a.tmps[t]?.getD undef=v):a.eval (.tmp t)=v:=by
 show a.tmps.getD t undef=v
 rw[tW];exact h
theorem Cq{P:Program}{o:Oper}{a:Act}{w w':World}{ht:Act->World->Prop}{Q:Exit->Act->World->Prop}{s x:Operand}{t:TypeId}(ho:o.op=.call {callee:=.builtin .append,args:= #[s,x],argTypes:= #[t,t]})
 {v u v':Value}(V:a.eval s=v)(N:a.eval x=u)(ci:(vH #[t,t] o.type #[v,u]).run P w=.ok v' w')(h:ht (a.put o.dst v') w'):vg P o a w ht Q:=by
 unfold vg execOp;simp only[ho,resolve,invoke,builtin,vt,Sem.run_pure,wt,List.map_toArray,vG,uU,V,N,ci];exact h
def Bk(l:List Oper)(i:Nat):Option Nat:=(l[i]?).bind (·.dst)
def EQ(l:List Oper)(tmps:Array Value)(i:Nat):Value:=match Bk l i with|some d=>tmps[d]?.getD undef|none=>undef
theorem Y7{l:List Oper}{a:Act}{i j:Nat}{o:Oper}{v:Value}(ho:l[i]?=some o)(a7:Bk l i=none∨Bk l i≠Bk l j):EQ l (a.put o.dst v).tmps j=EQ l a.tmps j:=by
 have e:Bk l i=o.dst:=by simp[Bk,ho]
 rw[e] at a7;unfold EQ;cases X:Bk l j with
 |none=>rfl
 |some d=>
  cases hd:o.dst with
  |none=>rfl
  |some d'=>
   have:d'≠d:=by
    rintro rfl
    rcases a7 with h|h
    .rw[hd] at h;cases h
    .exact h (by rw[hd,X])
   simp only[Act.put];rw[wD this]
theorem Y6{l:List Oper}{a:Act}{i:Nat}{o:Oper}{v:Value}(ho:l[i]?=some o)(hN:∀d,Bk l i=some d->d<a.tmps.size):EQ l (a.put o.dst v).tmps i=match o.dst with|some _=>v|none=>undef:=by
 have e:Bk l i=o.dst:=by simp[Bk,ho]
 unfold EQ;rw[e];cases hd:o.dst with
 |none=>rfl
 |some d=>have:=hN d (by rw[e,hd]);simp[Act.put,this]
structure cB(l:List Oper)(n:Nat)(a0:Act)(I:(Nat->Bool)->(Nat->Value)->World->Prop)(ae:Array Bool)(a:Act)(w:World):Prop where
 head:HeadInv .any l.toArray n ae
 defers:a.defers=a0.defers
 size:a.tmps.size=a0.tmps.size
 base:∀t,(∀i,i<n->Bk l i≠some t)->a.tmps[t]?=a0.tmps[t]?
 inv:I (λj=>ae.getD j false) (EQ l a.tmps) w
theorem Md{ae:Array Bool}{i:Nat}(h:i<ae.size)(d:Bool):(ae.setIfInBounds i true).getD i d=true:=by simp[h]
def bj(l:List Oper):Bool:=(yN l.length).all λj=>match l[j]? with|some o=>o.after.all λe=>!ur .any e||decide (e.on<j)|none=>false
structure cD(l:List Oper)(n N:Nat):Prop where
 tail:(n<l.length/\rX .any l.toArray n=true/\sk .any l.toArray n=true/\Region.seqB .any l.toArray (l.length - n) n (sZ (n:=l.length) λi=>decide (i.val<n))=true)∨n=l.length
 ne:∀i j,i<n->j<n->i≠j->Bk l i=none∨Bk l i≠Bk l j
 back:bj l=true
 fit:∀i,i<n->∀d,Bk l i=some d->d<N
theorem cB.wpAny{l:List Oper}{n:Nat}{a0:Act}{I:(Nat->Bool)->(Nat->Value)->World->Prop}{Q:Exit->Act->World->Prop}(hB:cD l n a0.tmps.size)
 (bb:∀i,i<n->∀o,l[i]?=some o->∀a w,a.defers=a0.defers->a.tmps.size=a0.tmps.size->(∀t,(∀i,i<n->Bk l i≠some t)->a.tmps[t]?=a0.tmps[t]?)->
  ∀L:Nat->Bool,L i=false->(∀j,yl .any l.toArray i j=true->L j=true/\j<n)->(∀j j',L j=true->yl .any l.toArray j j'=true->L j'=true)->I L (EQ l a.tmps) w->
  ∀ht:Act->World->Prop,(∀v w',(∀cd,cd i=(match o.dst with|some _=>v|none=>undef)->(∀j,j<n->j≠i->cd j=EQ l a.tmps j)->I (Gn L i) cd w')->ht (a.put o.dst v) w')->AY P l o a w ht Q)
 (a8:∀a w,a.defers=a0.defers->a.tmps.size=a0.tmps.size->(∀t,(∀i,i<n->Bk l i≠some t)->a.tmps[t]?=a0.tmps[t]?)->∀L:Nat->Bool,(∀i,i<n->L i=true)->I L (EQ l a.tmps) w->wpList P l.toArray Q (l.drop n) a w):
 ∀(f:Nat)(ae:Array Bool)(a:Act)(w:World),f=(l.length - n)+((yN n).filter λi=>!ae.getD i false).length->cB l n a0 I ae a w->Go.wpAny P .any l.toArray Q f ae a w:=by
 obtain⟨eB,a7,bX,hN⟩:=hB;have bX:=bX;unfold bj at bX;have e9:n<=l.length:=by rcases eB with h|h<;>omega
 have dy:∀i (o:Oper),l[i]?=some o->∀e∈o.after,ur .any e=true->e.on<i:=by intro i o ho e he Y;have:=yr.1 bX i (yj.2 (yE.1 ho).1);rw[ho] at this;simpa[Y] using Array.all_eq_true'.1 this e he
 have none:∀(ae:Array Bool),(∀i,i<n->ae.getD i false=true)->((yN n).filter λi=>!ae.getD i false)=[]:=by intro ae bK;rw[List.filter_eq_nil_iff];intro i A;simp[bK i (yj.1 A)]
 intro f
 induction f with
 |zero=>
  intro ae a w hf inv;have iz:n=l.length:=by omega
  have bK:∀i,i<n->ae.getD i false=true:=by
   intro i A;cases N:ae.getD i false with
   |true=>rfl
   |false=>
    exfalso;have:i∈(yN n).filter λi=>!ae.getD i false:=wO.2 ⟨yj.2 A,by simp[N]⟩
    have:=tC this;omega
  have hT:=a8 a w inv.defers inv.size inv.base _ bK inv.inv;rw[List.drop_eq_nil_of_le (by omega)] at hT;refine⟨?_,hT⟩;rw[List.eq_nil_iff_forall_not_mem];intro i A;obtain⟨eT,o,ho,_⟩:=mem_ready.1 A;have iD:i<l.length:=by have:=(wk.1 ho).1;simpa using this
  have:=getD_both eT;rw[bK i (by omega)] at this;cases this
 |succ f ih=>
  intro ae a w hf inv
  by_cases bK:∀i,i<n->ae.getD i false=true
  .rcases eB with⟨hn,_,_,ep⟩|hn
   .have ea:ae=sZ (n:=l.length) λi=>decide (i.val<n):=by
     have cy:ae.size=l.length:=by have:=inv.head.size;simpa using this
     apply Array.ext
     .simp[cy]
     .intro i J O
      simp only[Array.getElem_ofFn]
      by_cases A:i<n
      .have:=bK i A
       simp[J] at this;simp[A,this]
      .have:=inv.head.tail i (by omega) (by simpa[cy] using J)
       simp[J] at this;simp[A,this]
    have hT:=a8 a w inv.defers inv.size inv.base _ bK inv.inv;have hW:=wpAny_of_seq (P:=P) (md:=.any) (ops:=l.toArray) (Q':=Q) (l.drop n) n ae a w (λj=>by simp[sS]) (by rw[ea];simpa using ep) hT;have e:(l.drop n).length=f+1:=by rw[none ae bK] at hf;simp at hf ⊢;omega
    rw[e] at hW;exact hW
   .rw[none ae bK] at hf
    simp at hf;omega
  .obtain⟨i0,c7⟩:=Classical.not_forall.1 bK
   obtain⟨ex,fT⟩:=Classical.not_imp.1 c7;have fU:ae.getD i0 false=false:=by simpa using fT
   have cy:ae.size=l.length:=by have:=inv.head.size;simpa using this
   have fh:ae.getD i0 true=false:=getD_in (by omega) fU;refine⟨λhr=>?_,λi A=>?_⟩
   .exfalso
    have:∀k,∀i,i<k->i<n->ae.getD i true=false->False:=by
     intro k
     induction k with
     |zero=>intro i A;omega
     |succ k ihk=>
      intro i iE dd eT;have ev:i∉Region.ready .any l.toArray ae:=by rw[hr];simp
      have ho:l[i]?=some l[i]:=yH (by omega);apply ev;rw[mem_ready];refine⟨eT,l[i],by simp,λe he Y=>?_⟩;have aq:=dy i _ ho e he Y;cases N:ae.getD e.on false with
      |true=>rfl
      |false=>exact(ihk e.on (by omega) (by omega) (getD_in (by omega) N)).elim
    exact this n i0 ex ex fh
   .obtain⟨eT,o,fI,fX⟩:=mem_ready.1 A
    have ho:l[i]?=some o:=by simpa using fI
    have dd:i<n:=by
     rcases tu i n with h|h
     .exact h
     .rcases eB with⟨hn,V,z,_⟩|hn
      .exact absurd A (tail_waits V z (by simpa using hn) inv.head _ i0 rfl ex fh i h)
      .have:=(yE.1 ho).1;omega
    have eS:=getD_both eT;unfold Go.wpOp;rw[fI];have fM:∀j,yl .any l.toArray i j=true->ae.getD j false=true/\j<n:=by intro j X;obtain⟨oj,fH,e,he,Y,rfl⟩:=tB X;obtain rfl:oj=o:=yQ (fH.symm.trans fI);have:=dy i _ ho e he Y;exact⟨fX e he Y,by omega⟩
    have f7:∀j j',ae.getD j false=true->yl .any l.toArray j j'=true->ae.getD j' false=true:=by intro j j' X hw;obtain⟨oj,fH,e,he,Y,rfl⟩:=tB hw;exact inv.head.closed j oj fH X e he Y
    have eL:(λj=>(ae.setIfInBounds i true).getD j false)=Gn (λj=>ae.getD j false) i:=by
     funext j
     unfold Gn
     by_cases eH:j=i
     .subst eH
      rw[if_pos rfl,Md (by omega)]
     .rw[if_neg eH,getD_set_ne false (Ne.symm eH)]
    have hK:=bb i dd o ho a w inv.defers inv.size inv.base _ eS fM f7 inv.inv (Go.wpAny P .any l.toArray Q f (ae.setIfInBounds i true)) (λv w' hI=>by
     have cT:f=(l.length - n)+((yN n).filter λk=>!(ae.setIfInBounds i true).getD k false).length:=by
      have e7:i∈(yN n).filter λk=>!ae.getD k false:=by rw[wO];exact⟨yj.2 dd,by rw[eS];rfl⟩
      have hM:((yN n).filter λk=>!ae.getD k false).Nodup:=List.nodup_range.filter _;have he:((yN n).filter λk=>!(ae.setIfInBounds i true).getD k false)=((yN n).filter λk=>!ae.getD k false).erase i:=by
       rw[hM.erase_eq_filter,List.filter_filter];refine List.filter_congr λk E=>?_
       by_cases fO:k=i
       .subst fO
        simp[Md (show k<ae.size by omega)]
       .rw[getD_set_ne false (Ne.symm fO)]
        simp[fO]
      rw[he,List.length_erase_of_mem e7];have:=tC e7;omega
     refine ih _ _ _ cT ⟨inv.head.set A dd,?_,?_,?_,?_⟩
     .cases hd:o.dst<;>simpa[Act.put] using inv.defers
     .cases hd:o.dst<;>simpa[Act.put] using inv.size
     .intro t K
      rw[<-inv.base t K];cases hd:o.dst with
      |none=>rfl
      |some d=>
       have:d≠t:=λe=>K i dd (by simp[Bk,ho,hd,e])
       simp only[Act.put];rw[wD this]
     .rw[eL]
      exact hI _ (Y6 ho (λd hd=>by rw[inv.size];exact hN i dd d hd)) (λj X eH=>Y7 ho (a7 i j dd X (Ne.symm eH))))
    cases fu:xy o (yielded l.toArray a.tmps) with
    |true=>dsimp only;rw[fu,if_pos rfl];exact .inl (hK.1 fu)
    |false=>dsimp only;rw[fu,if_neg Bool.false_ne_true];exact hK.2 fu
theorem MF{Q:Exit->Act->World->Prop}{a0:Act}{l:List Oper}{n:Nat}(hm:P.follows .mixedOrders=true){I:(Nat->Bool)->(Nat->Value)->World->Prop}(hB:cD l n a0.tmps.size)(hI:∀vs,I (λ_=>false) vs {w0 with drawn:=w0.drawn+1})
 (bb:∀i,i<n->∀o,l[i]?=some o->∀a w,a.defers=a0.defers->a.tmps.size=a0.tmps.size->(∀t,(∀i,i<n->Bk l i≠some t)->a.tmps[t]?=a0.tmps[t]?)->
  ∀L:Nat->Bool,L i=false->(∀j,yl .any l.toArray i j=true->L j=true/\j<n)->(∀j j',L j=true->yl .any l.toArray j j'=true->L j'=true)->I L (EQ l a.tmps) w->
  ∀ht:Act->World->Prop,(∀v w',(∀cd,cd i=(match o.dst with|some _=>v|none=>undef)->(∀j,j<n->j≠i->cd j=EQ l a.tmps j)->I (Gn L i) cd w')->ht (a.put o.dst v) w')->AY P l o a w ht Q)
 (a8:∀a w,a.defers=a0.defers->a.tmps.size=a0.tmps.size->(∀t,(∀i,i<n->Bk l i≠some t)->a.tmps[t]?=a0.tmps[t]?)->∀L:Nat->Bool,(∀i,i<n->L i=true)->I L (EQ l a.tmps) w->wpList P l.toArray Q (l.drop n) a w):
 (vR id l.toArray true).wp P Q a0 w0:=by
 refine wp_region_any hm ?_;refine cB.wpAny (a0:=a0) (I:=I) hB bb a8 _ _ _ _ ?_ ⟨⟨by simp,λj oj _ hl=>(by rw[uo] at hl;cases hl),λt _ K=>by simp at K ⊢;simp[K]⟩,rfl,rfl,λ_ _=>rfl,?_⟩
 .have:((yN n).filter λi=>!(sy l.toArray.size false).getD i false)=yN n:=by
   rw[uy];intro i _;rw[uo];rfl
  rw[this];have e9:n<=l.length:=by rcases hB.tail with h|h<;>omega
  simp;omega
 .have e:(λj=>(sy l.toArray.size false).getD j false)=λ_=>false:=funext λj=>uo _ _
  rw[e];exact hI _
theorem Sl(l:List Oper):∀(is:List Nat)(b c:Array Value),c.size=b.size->(∀t,(∀i,i∈is->Ag l i≠t)->c[t]?=b[t]?)->
 c=Aj l is (λi=>c.getD (Ag l i) undef) b:=by
 intro is
 induction is with
 |nil=>intro b c V h;exact sY λt=>h t (λi A=>by cases A)
 |cons i is ih=>
  intro b c V h
  show c=Aj l is _ (b.setIfInBounds (Ag l i) (c.getD (Ag l i) undef))
  refine ih _ c (by simpa using V) λt K=>?_
  by_cases eo:Ag l i=t
  .subst eo
   rcases tu (Ag l i) c.size with h'|h'
   .have:Ag l i<b.size:=by omega
    simp[h',this]
   .have:b.size<=Ag l i:=by omega
    simp[h',this]
  .rw[wD eo]
   exact h t λj X=>by
    rcases xH.1 X with rfl|X
    .exact eo
    .exact K j X
def WH(l:List Oper)(n hx:Nat):Bool:=(yN n).all λi=>decide (Ag l i<hx)
theorem Kk{l:List Oper}{n i:Nat}(hB:Ih l n=true)(A:i<n):Bk l i=some (Ag l i):=by
 simp only[Ih,yD] at hB;have:=yr.1 hB.1.1.1.2 i (yj.2 A);unfold Bk Ag;cases ho:l[i]? with
 |none=>rw[ho] at this;cases this
 |some o=>rw[ho] at this;obtain⟨d,hd⟩:=vi.1 this;simp[hd]
theorem Km{l:List Oper}{n i:Nat}{b:Array Value}(hB:Ih l n=true)(A:i<n):EQ l b i=b[Ag l i]?.getD undef:=by unfold EQ;rw[Kk hB A]
theorem WI{l:List Oper}{n i:Nat}{o:Oper}(hB:Ih l n=true)(A:i<n)(ho:l[i]?=some o):o.dst=some (Ag l i):=by
 have h:=Kk hB A;unfold Bk at h
 rwa [ho,vK] at h
theorem TG{l:List Oper}{n hx:Nat}(hB:Ih l n=true)(hD:WH l n hx=true):cD l n hx:=by
 have fn:=hB;simp only[Ih,yD,decide_eq_true_eq] at fn;obtain⟨⟨⟨⟨⟨⟨hn,V⟩,z⟩,Z⟩,eC⟩,ep⟩,bX⟩:=fn;refine⟨.inl ⟨hn,V,z,ep⟩,λi j A X d5=> .inr ?_,bX,λi A d hd=>?_⟩
 .have:=yr.1 (yr.1 eC i (yj.2 A)) j (yj.2 X)
  rw[Kk hB A,Kk hB X];intro e;simp[d5,yQ e] at this
 .have:=yr.1 hD i (yj.2 A)
  rw[Kk hB A] at hd;cases hd;simpa using this
theorem Jy{l:List Oper}{n:Nat}{b c:Array Value}(hB:Ih l n=true)(h:∀t,(∀i,i<n->Bk l i≠some t)->c[t]?=b[t]?):∀t,(∀i,i<n->Ag l i≠t)->c[t]?=b[t]? :=
 λt K=>h t λi A e=>K i A (by rw[Kk hB A] at e;exact yQ e)
theorem GM{Q:Exit->Act->World->Prop}{a0:Act}{l:List Oper}(n:Nat)(hm:P.follows .mixedOrders=true)(hB:Ih l n=true)
 (hx:Nat)(hN:a0.tmps.size=hx)(hD:WH l n hx=true)(R:Nat->Value->World->Prop)(G:(Nat->Bool)->World->Prop)(hG:G (λ_=>false) {w0 with drawn:=w0.drawn+1})
 (bb:∀i,i<n->∀o,l[i]?=some o->∀a w,Hid (a.defers=a0.defers/\a.tmps.size=a0.tmps.size/\∀t,(∀i,i<n->Ag l i≠t)->a.tmps[t]?=a0.tmps[t]?)->
  Hid (∀j,yl .any l.toArray i j=true->R j (a.tmps[Ag l j]?.getD undef) w)->∀L:Nat->Bool,Hid (L i=false/\(∀j,yl .any l.toArray i j=true->L j=true)/\∀j j',L j=true->yl .any l.toArray j j'=true->L j'=true)->G L w->
  ∀ht:Act->World->Prop,Hid (∀v w',R i v w'->G (Gn L i) w'->(∀j u,j≠i->j<n->L j=true->R j u w->R j u w')->ht (a.put o.dst v) w')->AY P l o a w ht Q)
 (a8:∀(vs:Nat->Value) w,(∀i,i<n->R i (vs i) w)->∀L:Nat->Bool,(∀i,i<n->L i=true)->G L w->wpList P l.toArray Q (l.drop n) {a0 with tmps:=Aj l (yN n) vs a0.tmps} w):
 (vR id l.toArray true).wp P Q a0 w0:=by
 subst hN;refine MF hm (I:=λL vs w=>(∀i,i<n->L i=true->R i (vs i) w)/\G L w) (TG hB hD) (λvs=>⟨λi _ h=>(by cases h),hG⟩) (λi A o ho a w J O h3 L h6 h7 h8 hI ht hK=>?_) (λa w J O h3 L hL hI=>?_)
 .refine bb i A o ho a w (AA ⟨J,O,Jy hB h3⟩) (AA λj X=>by rw[<-Km hB (h7 j X).2];exact hI.1 j (h7 j X).2 (h7 j X).1) L (AA ⟨h6,λj X=>(h7 j X).1,h8⟩) hI.2 ht (AA λv w' hR ge cm=>hK v w' λcd hv dl=>⟨λj X hl=>?_,ge⟩)
  by_cases e:j=i
  .subst e
   rw[hv];simp only[WI hB A ho];exact hR
  .have bx:L j=true:=by unfold Gn at hl;rwa [if_neg e] at hl
   rw[dl j X e];exact cm j _ e X bx (hI.1 j X bx)
 .have e:=Sl l (yN n) a0.tmps a.tmps O (λt K=>Jy hB h3 t λi A=>K i (yj.2 A))
  have:=a8 (λi=>a.tmps.getD (Ag l i) undef) w (λi A=>by rw[tW,<-Km hB A];exact hI.1 i A (hL i A)) L hL hI.2;rw[<-e] at this;obtain⟨tm,df⟩:=a;dsimp only at J this;subst J;exact this
end
section
variable {P:Program} {l:List Oper} {i:Nat} {o o':Oper} {a a0:Act} {w:World} {ht:Act->World->Prop} {Q:Exit->Act->World->Prop} {R:Value->World->Prop} {x y hc:Operand} {v u:Value}
def dE(l:List Oper)(o:Oper)(a:Act):Prop:=xy o (yielded l.toArray a.tmps)=true
theorem gn(h:o.guard=none):dE l o a:=by simp[dE,xy,h]
theorem et(h:a.tmps[t]?.getD undef=v):a.eval (.tmp t)=v:=Bp h
theorem eb(h:a.tmps[t]?=a0.tmps[t]?):a.eval (.tmp t)=a0.tmps[t]?.getD undef:=Bp (by rw[h])
theorem eg(h:a.tmps[t]?=a0.tmps[t]?):a.tmps[t]?.getD undef=a0.tmps[t]?.getD undef:=by rw[h]
theorem bc{b D:Nat}(hG:Below B w0 w)(aq:b<B)(h:w0.cell? ⟨b,D,none⟩=some v):w.cell? ⟨b,D,none⟩=some v:=(hG.cell (p:=⟨b,D,none⟩) aq).trans h
theorem dV(ho:l[i]?=some o)(e:l[i]?=some o')(hw:dE l o' a)(HK:Hid (∀v w',R v w'->Below w.heap.size w w'->ht (a.put o.dst v) w'))(hr:(execOp a.eval o').run P w=.ok (.value v) w)(hR:R v w):AY P l o a w ht Q:=by
 obtain rfl:=yQ (ho.symm.trans e);exact⟨λ_=>by unfold vg;rw[hr];exact HK.out _ _ hR (yO _ _),λh=>by rw[show xy o (yielded l.toArray a.tmps)=true from hw] at h;cases h⟩
theorem dF{s b D k:Nat}(ho:l[i]?=some o)(e:l[i]?=some o')(hw:dE l o' a)(HK:Hid (∀v w',R v w'->Below w.heap.size w w'->ht (a.put o.dst v) w'))(du:o'.op=.fieldAddr s x f)(hf:∀b D w,(vf s (.pointer (some ⟨b,D,none⟩)) f).run P w=.ok (.pointer (some ⟨b,D+k,none⟩)) w)(N:a.eval x=.pointer (some ⟨b,D,none⟩))(hR:R (.pointer (some ⟨b,D+k,none⟩)) w):AY P l o a w ht Q:=
 dV ho e hw HK (by unfold execOp;rw[du];simp only[N,vt,hf,wt];rfl) hR
theorem dL{p:Addr}(ho:l[i]?=some o)(e:l[i]?=some o')(hw:dE l o' a)(HK:Hid (∀v w',R v w'->Below w.heap.size w w'->ht (a.put o.dst v) w'))(du:o'.op=.load t x)(N:a.eval x=.pointer (some p))(hl:(xO t (.pointer (some p))).run P w=.ok v w)(hR:R v w):AY P l o a w ht Q:=
 dV ho e hw HK (by unfold execOp;rw[du];simp only[N,vt,hl,wt];rfl) hR
end
section
variable {b D:Nat} {w:World} {v0 v1 v2 v3 v4 v5 v6 v7 v8 v9:Value}
theorem ZW:∀b D w,(vf 32 (.pointer (some ⟨b,D,none⟩)) 0).run prog w=.ok (.pointer (some ⟨b,D+0,none⟩)) w:=λb D w=>by go_simp
theorem cL:∀b D w,(vf 32 (.pointer (some ⟨b,D,none⟩)) 1).run prog w=.ok (.pointer (some ⟨b,D+4,none⟩)) w:=λb D w=>by go_simp
theorem cM:∀b D w,(vf 32 (.pointer (some ⟨b,D,none⟩)) 2).run prog w=.ok (.pointer (some ⟨b,D+5,none⟩)) w:=λb D w=>by go_simp
theorem cO:∀b D w,(vf 32 (.pointer (some ⟨b,D,none⟩)) 3).run prog w=.ok (.pointer (some ⟨b,D+6,none⟩)) w:=λb D w=>by go_simp
theorem Fy(h:w.cell? ⟨b,D,none⟩=some v0):(xO 3 (.pointer (some ⟨b,D,none⟩))).run prog w=.ok v0 w:=by go_simp
theorem dj(h:w.cell? ⟨b,D,none⟩=some v0):(xO 4 (.pointer (some ⟨b,D,none⟩))).run prog w=.ok v0 w:=by go_simp
theorem YW(h:w.cell? ⟨b,D,none⟩=some v0):(xO 9 (.pointer (some ⟨b,D,none⟩))).run prog w=.ok v0 w:=by go_simp
theorem GQ(h:w.cell? ⟨b,D,none⟩=some v0):(xO 23 (.pointer (some ⟨b,D,none⟩))).run prog w=.ok v0 w:=by go_simp
theorem GV(h:w.cell? ⟨b,D,none⟩=some v0):(xO 24 (.pointer (some ⟨b,D,none⟩))).run prog w=.ok v0 w:=by go_simp
theorem OZ(h:w.cell? ⟨b,D,none⟩=some v0):(xO 25 (.pointer (some ⟨b,D,none⟩))).run prog w=.ok v0 w:=by go_simp
theorem Wk(h:w.cell? ⟨b,D,none⟩=some v0):(xO 26 (.pointer (some ⟨b,D,none⟩))).run prog w=.ok v0 w:=by go_simp
theorem PZ(h0:w.cell? ⟨b,D,none⟩=some v0)(J:w.cell? ⟨b,D+1,none⟩=some v1)(O:w.cell? ⟨b,D+2,none⟩=some v2)(h3:w.cell? ⟨b,D+3,none⟩=some v3):(xO 28 (.pointer (some ⟨b,D,none⟩))).run prog w=.ok (.agg #[v0,v1,v2,v3]) w:=by go_simp
theorem K9(h:w.cell? ⟨b,D,none⟩=some v0):(xO 29 (.pointer (some ⟨b,D,none⟩))).run prog w=.ok v0 w:=by go_simp
theorem bE(h:w.cell? ⟨b,D,none⟩=some v0):(xO 30 (.pointer (some ⟨b,D,none⟩))).run prog w=.ok v0 w:=by go_simp
theorem Wl(h0:w.cell? ⟨b,D,none⟩=some v0)(J:w.cell? ⟨b,D+1,none⟩=some v1)(O:w.cell? ⟨b,D+2,none⟩=some v2)(h3:w.cell? ⟨b,D+3,none⟩=some v3)(h4:w.cell? ⟨b,D+4,none⟩=some v4)(h5:w.cell? ⟨b,D+5,none⟩=some v5)(h6:w.cell? ⟨b,D+6,none⟩=some v6)(h7:w.cell? ⟨b,D+7,none⟩=some v7)(h8:w.cell? ⟨b,D+8,none⟩=some v8):(xO 32 (.pointer (some ⟨b,D,none⟩))).run prog w=.ok (.agg #[v0,v1,v2,v3,v4,v5,v6,v7,v8]) w:=by go_simp
theorem dI(h0:w.cell? ⟨b,D,none⟩=some v0)(J:w.cell? ⟨b,D+1,none⟩=some v1)(O:w.cell? ⟨b,D+2,none⟩=some v2)(h3:w.cell? ⟨b,D+3,none⟩=some v3)(h4:w.cell? ⟨b,D+4,none⟩=some v4)(h5:w.cell? ⟨b,D+5,none⟩=some v5):(xO 34 (.pointer (some ⟨b,D,none⟩))).run prog w=.ok (.agg #[v0,v1,v2,v3,v4,v5]) w:=by go_simp
theorem KN(h:w.cell? ⟨b,D,none⟩=some v0):(xO 64 (.pointer (some ⟨b,D,none⟩))).run prog w=.ok v0 w:=by go_simp
theorem dc(h0:w.cell? ⟨b,D,none⟩=some v0)(J:w.cell? ⟨b,D+1,none⟩=some v1)(O:w.cell? ⟨b,D+2,none⟩=some v2):(xO 74 (.pointer (some ⟨b,D,none⟩))).run prog w=.ok (.agg #[v0,v1,v2]) w:=by go_simp
theorem Nd(h:w.cell? ⟨b,D,none⟩=some v0):(xO 81 (.pointer (some ⟨b,D,none⟩))).run prog w=.ok v0 w:=by go_simp
theorem dJ(h0:w.cell? ⟨b,D,none⟩=some v0)(J:w.cell? ⟨b,D+1,none⟩=some v1)(O:w.cell? ⟨b,D+2,none⟩=some v2)(h3:w.cell? ⟨b,D+3,none⟩=some v3)(h4:w.cell? ⟨b,D+4,none⟩=some v4)(h5:w.cell? ⟨b,D+5,none⟩=some v5)(h6:w.cell? ⟨b,D+6,none⟩=some v6):(xO 83 (.pointer (some ⟨b,D,none⟩))).run prog w=.ok (.agg #[v0,v1,v2,v3,v4,v5,v6]) w:=by go_simp
theorem Zn(h0:w.cell? ⟨b,D,none⟩=some v0)(J:w.cell? ⟨b,D+1,none⟩=some v1)(O:w.cell? ⟨b,D+2,none⟩=some v2)(h3:w.cell? ⟨b,D+3,none⟩=some v3):(xO 96 (.pointer (some ⟨b,D,none⟩))).run prog w=.ok (.agg #[v0,v1,v2,v3]) w:=by go_simp
end
section
variable {P:Program}
theorem MG{Q:Exit->Act->World->Prop}{a0:Act}{l:List Oper}(n:Nat)(hm:P.follows .mixedOrders=true)(hB:Ih l n=true)
 (hx:Nat)(hN:a0.tmps.size=hx)(hD:WH l n hx=true)(R:Nat->Value->World->Prop)(bB:∀i,i<n->∀v w w',Below w.heap.size w w'->R i v w->R i v w')
 (bb:∀i,i<n->∀o,l[i]?=some o->∀a w,Hid (a.defers=a0.defers/\a.tmps.size=a0.tmps.size/\∀t,(∀i,i<n->Ag l i≠t)->a.tmps[t]?=a0.tmps[t]?)->
  Hid (∀j,yl .any l.toArray i j=true->R j (a.tmps[Ag l j]?.getD undef) w)->Below w0.heap.size w0 w->
  ∀ht:Act->World->Prop,Hid (∀v w',R i v w'->Below w.heap.size w w'->ht (a.put o.dst v) w')->AY P l o a w ht Q)
 (a8:∀(vs:Nat->Value) w,(∀i,i<n->R i (vs i) w)->Below w0.heap.size w0 w->wpList P l.toArray Q (l.drop n) {a0 with tmps:=Aj l (yN n) vs a0.tmps} w):
 (vR id l.toArray true).wp P Q a0 w0:=by
 refine GM n hm hB hx hN hD R (λ_ w=>Below w0.heap.size w0 w) ⟨rfl,rfl,rfl,yG _,λ_ _=>rfl⟩ ?_ (λvs w J _ _ O=>a8 vs w J O);intro i A o ho a w Hb Hd L HL hG ht HK;exact bb i A o ho a w Hb Hd hG ht (AA λv w' J O=>HK.out v w' J (hG.trans ⟨O.os,O.tape,O.output,O.size,λk E=>O.block k (yv E hG.size)⟩) (λj u _ X _ h=>bB j X u w w' O h))
end
def At(x:AV):List Value:=[.int .i64 x.k,.string x.g,.int .i64 x.r]
theorem Av(x:AV):(At x).length=3:=rfl
def AV.val(x:AV):Value:=.agg #[.int .i64 x.k,.string x.g,.int .i64 x.r]
def AX(x:Ad):List Value:=[.int .i64 x.e,.int .i64 x.p,.int .i64 x.f,.bool x.w]
theorem Ce(x:Ad):(AX x).length=4:=rfl
def Ad.val(x:Ad):Value:=.agg #[.int .i64 x.e,.int .i64 x.p,.int .i64 x.f,.bool x.w]
def Ay(s:ByteArray):List Value:=[.string s]
theorem FJ(s:ByteArray):(Ay s).length=1:=rfl
def Gc(v:Value):List Value:=[v]
theorem FI(v:Value):(Gc v).length=1:=rfl
def Eu(p:Value×Int):List Value:=[p.1,.int .i64 p.2]
theorem F6(p:Value×Int):(Eu p).length=2:=rfl
def BG{α:Type}(sz:Nat)(cs:α->List Value)(w:World)(v:Value)(xs:List α):Prop:=Rd w v sz xs.length (CZ cs xs)
def AO{α:Type}(lo e sz:Nat)(cs:α->List Value)(w:World)(v:Value)(xs:List α):Prop:=w.ownsRow lo e sz v xs.length (CZ cs xs)
section
variable {α:Type} {sz lo e:Nat} {cs:α->List Value} {w w':World} {v:Value} {xs:List α}
theorem BG.below(h:BG sz cs w v xs)(Y:Below w.heap.size w w'):BG sz cs w' v xs:=Rd.below h Y
theorem AO.rd(h:AO lo e sz cs w v xs):BG sz cs w v xs:=Rd.of_owns h
theorem AO.below(h:AO lo e sz cs w v xs)(Y:Below w.heap.size w w'):AO lo e sz cs w' v xs:=Bl h Y
theorem AO.grown{row:Option Nat}(h:AO lo e sz cs w v xs)(Z:w.grownBy w' row)(a7:v.ownBlock=none∨v.ownBlock≠row):AO lo e sz cs w' v xs:=Aw h Z a7
theorem AO.lower(h:AO lo e sz cs w v xs)(hl:lo'<=lo):AO lo' e sz cs w v xs:=BZ h hl
theorem BG.shape(h:BG sz cs w v xs):∃a H,v=.slice a xs.length H/\xs.length<=H/\H<=maxLen:=Rd.shape h
theorem BG.open(V:∀x,(cs x).length=sz)(cy:0<sz)(h:BG sz cs w v xs):∃a H,v=.slice a xs.length H/\xs.length<=H/\H<=maxLen/\Tc sz cs w a xs:=by obtain⟨a,H,rfl,J,O⟩:=Rd.shape h;exact⟨a,H,rfl,J,O,Tc.of V cy h⟩
end
abbrev BW(w:World)(v:Value)(xs:List AV):Prop:=BG 3 At w v xs
abbrev DY(w:World)(v:Value)(xs:List Ad):Prop:=BG 4 AX w v xs
abbrev BT(w:World)(v:Value)(xs:List ByteArray):Prop:=BG 1 Ay w v xs
def GE{α β:Type}(R:α->β->Prop)(xs:List α)(ys:List β):Prop:=xs.length=ys.length/\∀(i:Nat) x y,xs[i]?=some x->ys[i]?=some y->R x y
theorem GE.mono{α β:Type}{R S:α->β->Prop}{xs:List α}{ys:List β}(h:GE R xs ys)(im:∀x y,R x y->S x y):GE S xs ys:=⟨h.1,λi x y N hy=>im _ _ (h.2 i x y N hy)⟩
theorem GE.nil{α β:Type}{R:α->β->Prop}:GE R [] []:=⟨rfl,λi x y h=>by simp at h⟩
theorem GE.snoc{α β:Type}{R:α->β->Prop}{xs:List α}{ys:List β}{x:α}{y:β}(h:GE R xs ys)(g5:R x y):GE R (xs++[x]) (ys++[y]):=by
 refine⟨by simp[h.1],λi a b ha Y=>?_⟩
 by_cases A:i<xs.length
 .rw[xt A] at ha
  rw[xt (by rw[<-h.1];exact A)] at Y;exact h.2 i a b ha Y
 .have J:=(yE.1 ha).1
  simp at J;obtain rfl:i=xs.length:=by omega
  simp at ha;rw[h.1] at Y;simp at Y;subst ha Y;exact g5
def Bf(w:World)(v:Value)(cr:List (List Int)):Prop:=∃vs,BG 1 Gc w v vs/\GE (Ax w) vs cr
def MI(w:World)(v:Value)(gX:List (List ByteArray)):Prop:=∃vs,BG 1 Gc w v vs/\GE (BT w) vs gX
def GO(w:World)(v:Value)(es:List Em):Prop:=∃ps,BG 2 Eu w v ps/\GE (λp e=>BT w p.1 e.Tj/\p.2=e.root) ps es
def Le(w:World)(m i e c:Value)(k:AN):Prop:=Bf w m k.mem/\BW w i k.Xy/\GO w e k.V3/\DY w c k.V0
section
variable {w w':World} {v:Value}
theorem Bf.below(h:Bf w v cr)(Y:Below w.heap.size w w'):Bf w' v cr:=by
 obtain⟨vs,J,O⟩:=h;exact⟨vs,J.below Y,O.mono λ_ _ h=>Ax.below h Y⟩
theorem GO.below{es:List Em}(h:GO w v es)(Y:Below w.heap.size w w'):GO w' v es:=by
 obtain⟨ps,J,O⟩:=h;exact⟨ps,J.below Y,O.mono λ_ _ h=>⟨BG.below h.1 Y,h.2⟩⟩
theorem Le.below{m i e:Value}{k:AN}(h:Le w m i e c k)(Y:Below w.heap.size w w'):Le w' m i e c k:=⟨h.1.below Y,h.2.1.below Y,h.2.2.1.below Y,h.2.2.2.below Y⟩
end
def DO(vs:List Value):Prop:=∀(i j:Nat) u u',i≠j->vs[i]?=some u->vs[j]?=some u'->GD u u'
theorem DO.nil:DO []:=λi j u u' _ h=>by simp at h
theorem DO.snoc{vs:List Value}{v:Value}(h:DO vs)(hv:∀u∈vs,GD u v):DO (vs++[v]):=by
 intro i j u u' d5 A X;have J:=(yE.1 A).1;have O:=(yE.1 X).1;simp at J O
 by_cases fx:i<vs.length
 .rw[xt fx] at A
  by_cases dv:j<vs.length
  .rw[xt dv] at X
   exact h i j u u' d5 A X
  .obtain rfl:j=vs.length:=by omega
   simp at X;subst X;exact hv u (yx A)
 .obtain rfl:i=vs.length:=by omega
  simp at A;subst A;rw[xt (by omega)] at X;exact(hv u' (yx X)).symm
def Az(lo:Nat)(w:World)(v:Value)(vs:List Value)(cr:List (List Int)):Prop:=AO lo 29 1 Gc w v vs/\GE (AG lo w) vs cr/\DO vs
def DJ(lo:Nat)(w:World)(v:Value)(ps:List (Value×Int))(es:List Em):Prop:=AO lo 66 2 Eu w v ps/\GE (λp e=>AO lo 9 1 Ay w p.1 e.Tj/\p.2=e.root) ps es/\DO (ps.map (·.1))
theorem Az.rd{lo:Nat}{w:World}{v:Value}(h:Az lo w v vs cr):Bf w v cr:=⟨vs,h.1.rd,h.2.1.mono λ_ _ h=>AG.rd h⟩
theorem DJ.rd{lo:Nat}{w:World}{v:Value}{ps:List (Value×Int)}{es:List Em}(h:DJ lo w v ps es):GO w v es:=⟨ps,h.1.rd,h.2.1.mono λ_ _ h=>⟨h.1.rd,h.2⟩⟩
theorem Az.below{lo:Nat}{w w':World}{v:Value}(h:Az lo w v vs cr)(Y:Below w.heap.size w w'):Az lo w' v vs cr:=⟨h.1.below Y,h.2.1.mono λ_ _ h=>AG.below h Y,h.2.2⟩
theorem DJ.below{lo:Nat}{w w':World}{v:Value}{ps:List (Value×Int)}{es:List Em}(h:DJ lo w v ps es)(Y:Below w.heap.size w w'):DJ lo w' v ps es:=⟨h.1.below Y,h.2.1.mono λ_ _ h=>⟨h.1.below Y,h.2⟩,h.2.2⟩
theorem Az.lower{lo:Nat}{w:World}{v:Value}(h:Az lo w v vs cr)(hl:lo'<=lo):Az lo' w v vs cr:=⟨h.1.lower hl,h.2.1.mono λ_ _ h=>BZ h hl,h.2.2⟩
theorem DJ.lower{lo:Nat}{w:World}{v:Value}{ps:List (Value×Int)}{es:List Em}(h:DJ lo w v ps es)(hl:lo'<=lo):DJ lo' w v ps es:=⟨h.1.lower hl,h.2.1.mono λ_ _ h=>⟨h.1.lower hl,h.2⟩,h.2.2⟩
theorem Cd{α:Type}(cs:α->List Value)(w:World)(e sz:Nat):AO w.heap.size e sz cs (w.alloc (.cells #[] e)) (.slice (some ⟨w.heap.size,0,none⟩) 0 0) []:=Cu w e sz
def Dh(lo:Nat)(w:World)(m i e c:Value)(k:AN):Prop:=
 (∃vs,Az lo w m vs k.mem)/\AO lo 91 3 At w i k.Xy/\(∃ps,DJ lo w e ps k.V3)/\AO lo 96 4 AX w c k.V0
theorem Dh.rd{lo:Nat}{w:World}{m i e:Value}{k:AN}(h:Dh lo w m i e c k):Le w m i e c k:=⟨h.1.choose_spec.rd,h.2.1.rd,h.2.2.1.choose_spec.rd,h.2.2.2.rd⟩
theorem Dh.below{lo:Nat}{w w':World}{m i e:Value}{k:AN}(h:Dh lo w m i e c k)(Y:Below w.heap.size w w'):Dh lo w' m i e c k:=
 ⟨⟨_,h.1.choose_spec.below Y⟩,h.2.1.below Y,⟨_,h.2.2.1.choose_spec.below Y⟩,h.2.2.2.below Y⟩
theorem A9{w:World}{lo e sz n:Nat}{v:Value}{xs:List Value}(h:w.ownsRow lo e sz v n xs):∀g,v.ownBlock=some g->∃bn,w.heap[g]?=some (.cells bn e (0,0)):=by
 intro g Z
 rcases h.2 with⟨rfl,_⟩|⟨g',H,bn,rfl,_,hh,_⟩
 .simp[vL] at Z
 .simp[vL] at Z
  subst Z;exact⟨bn,hh⟩
theorem BJ{w:World}{lo e e' sz gY n n':Nat}{v v':Value}{xs gW:List Value}(h:w.ownsRow lo e sz v n xs)(h':w.ownsRow lo' e' gY v' n' gW)(a7:e≠e'):GD v v':=by intro g Z cu;obtain⟨c1,J⟩:=A9 h g Z;obtain⟨c2,O⟩:=A9 h' g cu;rw[J] at O;simp at O;exact a7 O.2
theorem AE{w:World}{g:Nat}{m i e:Value}(h:w.heap[g]?=some (.cells #[m,i,e,c] t (0,0))):w.cell? ⟨g,0,none⟩=some m/\w.cell? ⟨g,1,none⟩=some i/\w.cell? ⟨g,2,none⟩=some e/\w.cell? ⟨g,3,none⟩=some c:=
 ⟨yz w g 0 _ _ _ h,yz w g 1 _ _ _ h,yz w g 2 _ _ _ h,yz w g 3 _ _ _ h⟩
theorem AK{w:World}{g:Nat}{cs:Array Value}(h:w.heap[g]?=some (.cells cs t (0,0))):∀j,w.frozen? ⟨g,j,none⟩=false:=λj=>frozen_of_row w g j _ _ h
theorem AW{w:World}{g:Nat}{o:Obj}(h:w.heap[g]?=some o):g<w.heap.size:=(wk.1 h).1
theorem AB{w w':World}{g:Nat}{o:Obj}(h:w.heap[g]?=some o)(Y:Below w.heap.size w w'):w'.heap[g]?=some o:=(Y.block g (AW h)).trans h
theorem Cw{w:World}{g:Nat}{m i e m' i' e' c':Value}(h:w.heap[g]?=some (.cells #[m,i,e,c] t (0,0))):
 ((((w.setCell ⟨g,0,none⟩ m').setCell ⟨g,1,none⟩ i').setCell ⟨g,2,none⟩ e').setCell ⟨g,3,none⟩ c').heap[g]?=some (.cells #[m',i',e',c'] t (0,0)):=by
 have h0:=yF w g 0 _ t m' h;have J:=yF _ g 1 _ t i' h0;have O:=yF _ g 2 _ t e' J;have h3:=yF _ g 3 _ t c' O;simpa using h3
theorem FR{w w':World}{lo e sz n g T:Nat}{v:Value}{xs:List Value}{bn:Array Value}{fr:Nat×Nat}(h:w.ownsRow lo e sz v n xs)(Z:w.grownBy w' (some g))(Y:w.heap[g]?=some (.cells bn T fr))(a7:e≠T:=by decide):w'.ownsRow lo e sz v n xs:=by
 refine Aw h Z ?_;cases hv:v.ownBlock with
 |none=>exact .inl rfl
 |some k=>
  refine .inr λhe=>?_
  simp only[Option.some.injEq] at he;subst he;obtain⟨c1,J⟩:=A9 h k hv;rw[J] at Y;simp at Y;exact a7 Y.2.1
section
variable {w w':World} {lo g T:Nat} {v:Value} {bn:Array Value} {fr:Nat×Nat}
theorem AO.yW{α:Type}{e sz:Nat}{cs:α->List Value}{xs:List α}(h:AO lo e sz cs w v xs)(Z:w.grownBy w' (some g))(Y:w.heap[g]?=some (.cells bn T fr))(a7:e≠T:=by decide):AO lo e sz cs w' v xs:=FR h Z Y a7
theorem Az.yW(h:Az lo w v vs cr)(Z:w.grownBy w' (some g))(Y:w.heap[g]?=some (.cells bn T fr))(J:29≠T:=by decide)(O:3≠T:=by decide):Az lo w' v vs cr:=
 ⟨h.1.yW Z Y J,h.2.1.mono λ_ _ h=>FR h Z Y O,h.2.2⟩
theorem DJ.yW{ps:List (Value×Int)}{es:List Em}(h:DJ lo w v ps es)(Z:w.grownBy w' (some g))(Y:w.heap[g]?=some (.cells bn T fr))(J:66≠T:=by decide)(O:9≠T:=by decide):DJ lo w' v ps es:=
 ⟨h.1.yW Z Y J,h.2.1.mono λ_ _ h=>⟨h.1.yW Z Y O,h.2⟩,h.2.2⟩
end
theorem Az.kept{w w':World}{lo e sz n:Nat}{v u:Value}{xs:List Value}(h:Az lo w v vs cr)(Z:w.grownBy w' u.ownBlock)(hu:w.ownsRow lo' e sz u n xs)(J:29≠e)(O:3≠e):Az lo w' v vs cr:=
 ⟨Aw h.1 Z (BJ h.1 hu J).ne,h.2.1.mono λ_ _ h=>Aw h Z (BJ h hu O).ne,h.2.2⟩
theorem Ak(w:World)(g j:Nat)(u:Value):w.grownBy (w.setCell ⟨g,j,none⟩ u) (some g):=⟨rfl,rfl,rfl,by simp,λk _ E=>heap_setCell_other w ⟨g,j,none⟩ k u (λe=>E (by simp[e]))⟩
theorem Ao{w:World}{g:Nat}(h:w0.grownBy w (some g))(j:Nat)(u:Value):w0.grownBy (w.setCell ⟨g,j,none⟩ u) (some g):=AP h (Ak w g j u)
section
variable {P:Program}
end
theorem aP{l:List Oper}{tmps:Array Value}{g d:Nat}(hd:(l[g]?).bind (·.dst)=some d)(hv:tmps[d]?.getD undef=undef):yielded l.toArray tmps g=none:=by
 have h:(l.toArray[g]?).bind (·.dst)=some d:=by simpa using hd
 unfold yielded;rw[h,vK];cases N:tmps[d]? with
 |none=>rfl
 |some x=>rw[N] at hv;simp at hv;subst hv;rfl
theorem AY.un{P:Program}{l:List Oper}{o:Oper}{a:Act}{w:World}{ht:Act->World->Prop}{Q:Exit->Act->World->Prop}{g d:Nat}{b:Bool}(Z:o.guard=some (g,b))(hd:(l[g]?).bind (·.dst)=some d)(hv:a.tmps[d]?.getD undef=undef)(h:ht (a.put o.dst undef) w):AY P l o a w ht Q:=
 ⟨λhw=>by rw[xy,Z] at hw;simp only[aP hd hv] at hw;cases b<;>simp at hw,λ_=>h⟩
theorem Hh{w w':World}{row:Option Nat}{b o:Nat}(h:w.grownBy w' row)(Y:b<w.heap.size)(a7:row≠some b):w'.cell? ⟨b,o,none⟩=w.cell? ⟨b,o,none⟩:=wg (h.block b Y (λe=>a7 e.symm))
def DQ(l:List Oper)(is:List Nat)(vs:Nat->Value)(b:Array Value):Array Value:=is.foldl (λb i=>match Bk l i with|some d=>b.setIfInBounds d (vs i)|none=>b) b
def Xe(l:List Oper)(hx:Nat):Bool:=
 ((yN l.length).all λi=>(yN l.length).all λj=>i==j||(Bk l i).isNone||Bk l i !=Bk l j)&&
 ((yN l.length).all λj=>match l[j]? with|some o=>o.after.all λe=>!ur .any e||decide (e.on<j)|none=>false)&&
 ((yN l.length).all λi=>match Bk l i with|some d=>decide (d<hx)|none=>true)
section
variable {P:Program}
theorem U4(l:List Oper):∀(is:List Nat)(b c:Array Value),c.size=b.size->(∀t,(∀i,i∈is->Bk l i≠some t)->c[t]?=b[t]?)->c=DQ l is (λi=>EQ l c i) b:=by
 intro is
 induction is with
 |nil=>intro b c V h;exact sY λt=>h t (λi A=>by cases A)
 |cons i is ih=>
  intro b c V h
  show c=DQ l is _ (match Bk l i with|some d=>b.setIfInBounds d (EQ l c i)|none=>b)
  cases hd:Bk l i with
  |none=>
   exact ih b c V λt K=>h t λj X=>by
    rcases xH.1 X with rfl|X
    .rw[hd];exact(λe=>by cases e)
    .exact K j X
  |some d=>
   refine ih _ c (by simpa using V) λt K=>?_
   by_cases eo:d=t
   .subst eo
    have hv:EQ l c i=c[d]?.getD undef:=by unfold EQ;rw[hd]
    show c[d]?=(b.setIfInBounds d (EQ l c i))[d]?
    rw[hv]
    rcases tu d c.size with h'|h'
    .have:d<b.size:=by omega
     simp[h',this]
    .have:b.size<=d:=by omega
     simp[h',this]
   .show c[t]?=(b.setIfInBounds d (EQ l c i))[t]?
    rw[wD eo];exact h t λj X=>by
     rcases xH.1 X with rfl|X
     .rw[hd];exact λe=>eo (yQ e)
     .exact K j X
theorem Re{Q:Exit->Act->World->Prop}{a0:Act}{l:List Oper}(n:Nat)(hm:P.follows .mixedOrders=true)
 (hx:Nat)(hN:a0.tmps.size=hx)(hB:Xe l hx=true)(hn:l.length=n)(S:Nat->Bool)(R:(Nat->Bool)->Nat->Value->World->Prop)(G:(Nat->Bool)->World->Prop)
 (hG:G (λ_=>false) {w0 with drawn:=w0.drawn+1})
 (bB:∀j,j<n->∀L i v w w',i<n->S i=false->L i=false->L j=true->Below w.heap.size w w'->R L j v w->R (Gn L i) j v w')
 (dw:∀L i w w',i<n->S i=false->L i=false->Below w.heap.size w w'->G L w->G (Gn L i) w')
 (bb:∀i,i<n->S i=false->∀o,l[i]?=some o->∀a w,Hid (a.defers=a0.defers/\a.tmps.size=a0.tmps.size/\∀t,(∀i,i<n->Bk l i≠some t)->a.tmps[t]?=a0.tmps[t]?)->
  ∀L:Nat->Bool,Hid (∀j,L j=true->j<n->R L j (EQ l a.tmps j) w)->Hid (L i=false/\(∀j,yl .any l.toArray i j=true->L j=true)/\∀j j',L j=true->yl .any l.toArray j j'=true->L j'=true)->G L w->
  ∀ht:Act->World->Prop,Hid (∀v w',R (Gn L i) i (match o.dst with|some _=>v|none=>undef) w'->Below w.heap.size w w'->ht (a.put o.dst v) w')->AY P l o a w ht Q)
 (dr:∀i,i<n->S i=true->∀o,l[i]?=some o->∀a w,Hid (a.defers=a0.defers/\a.tmps.size=a0.tmps.size/\∀t,(∀i,i<n->Bk l i≠some t)->a.tmps[t]?=a0.tmps[t]?)->
  ∀L:Nat->Bool,Hid (∀j,L j=true->j<n->R L j (EQ l a.tmps j) w)->Hid (L i=false/\(∀j,yl .any l.toArray i j=true->L j=true)/\∀j j',L j=true->yl .any l.toArray j j'=true->L j'=true)->G L w->
  ∀ht:Act->World->Prop,Hid (∀v w',R (Gn L i) i (match o.dst with|some _=>v|none=>undef) w'->G (Gn L i) w'->(∀j,j≠i->j<n->L j=true->R L j (EQ l a.tmps j) w->R (Gn L i) j (EQ l a.tmps j) w')->ht (a.put o.dst v) w')->AY P l o a w ht Q)
 (a8:∀(vs:Nat->Value) w,∀L:Nat->Bool,(∀i,i<n->L i=true)->(∀i,i<n->R L i (vs i) w)->G L w->wpList P l.toArray Q [] {a0 with tmps:=DQ l (yN n) vs a0.tmps} w):
 (vR id l.toArray true).wp P Q a0 w0:=by
 subst hn;subst hN;have fn:=hB;simp only[Xe,yD] at fn;obtain⟨⟨eC,bX⟩,dd⟩:=fn;refine MF hm (n:=l.length) (I:=λL vs w=>(∀i,i<l.length->L i=true->R L i (vs i) w)/\G L w) ⟨.inr rfl,λi j A X d5=>?_,bX,λi A d hd=>?_⟩ (λvs=>⟨λi _ h=>(by cases h),hG⟩) (λi A o ho a w J O h3 L h6 h7 h8 hI ht hK=>?_) (λa w J O h3 L hL hI=>?_)
 .have:=yr.1 (yr.1 eC i (yj.2 A)) j (yj.2 X)
  simp only[xP,beq_iff_eq,d5,false_or,bne_iff_ne,Option.isNone_iff_eq_none] at this;exact this
 .have:=yr.1 dd i (yj.2 A)
  rw[hd] at this;simpa using this
 .have eO:∀{v w'},R (Gn L i) i (match o.dst with|some _=>v|none=>undef) w'->(∀j,j≠i->j<l.length->L j=true->R L j (EQ l a.tmps j) w->R (Gn L i) j (EQ l a.tmps j) w')->∀cd:Nat->Value,cd i=(match o.dst with|some _=>v|none=>undef)->(∀j,j<l.length->j≠i->cd j=EQ l a.tmps j)->∀j,j<l.length->Gn L i j=true->R (Gn L i) j (cd j) w':=by
   intro v w' hR E cd hv dl j X hl
   by_cases e:j=i
   .subst e
    rw[hv];exact hR
   .have bx:L j=true:=by unfold Gn at hl;rwa [if_neg e] at hl
    rw[dl j X e];exact E j e X bx (hI.1 j X bx)
  cases hS:S i with
  |false=>exact bb i A hS o ho a w (AA ⟨J,O,h3⟩) L (AA λj X fc=>hI.1 j fc X) (AA ⟨h6,λj X=>(h7 j X).1,h8⟩) hI.2 ht (AA λv w' hR Y=>hK v w' λcd hv dl=>⟨eO hR (λj eH fc fw hu=>bB j fc L i _ w w' A hS h6 fw Y hu) cd hv dl,dw L i w w' A hS h6 Y hI.2⟩)
  |true=>exact dr i A hS o ho a w (AA ⟨J,O,h3⟩) L (AA λj X fc=>hI.1 j fc X) (AA ⟨h6,λj X=>(h7 j X).1,h8⟩) hI.2 ht (AA λv w' hR ge E=>hK v w' λcd hv dl=>⟨eO hR E cd hv dl,ge⟩)
 .have e:=U4 l (yN l.length) a0.tmps a.tmps O (λt K=>h3 t λi A=>K i (yj.2 A))
  have:=a8 (λi=>EQ l a.tmps i) w L hL (λi A=>hI.1 i A (hL i A)) hI.2;rw[<-e] at this;rw[List.drop_length];obtain⟨tm,df⟩:=a;dsimp only at J this;subst J;exact this
end
inductive Vx where
 |p (b o:Nat)
 |i (x:Int)
 |s (b n c:Nat)
 |b (x:Bool)
 |t (x:ByteArray)
 |v (x:Value)
 |a (x:Array Value)
 |u
 |z
def Vx.val:Vx->Option Value
 | .p x y=>some (.pointer (some ⟨x,y,none⟩))
 | .i x=>some (.int .i64 x)
 | .s x y k=>some (.slice (some ⟨x,0,none⟩) y k)
 | .b x=>some (.bool x)
 | .t x=>some (.string x)
 | .v x=>some x
 | .a x=>some (.agg x)
 | .u=>some undef
 | .z=>none
def EW(L:List Vx)(i:Nat):Option Value:=(L[i]?).bind Vx.val
def RV(L:List Vx)(R:Nat->Value->World->Prop)(i:Nat)(v:Value)(w:World):Prop:=
 match EW L i with
 |some x=>v=x
 |none=>R i v w
theorem RV.of{L:List Vx}{R:Nat->Value->World->Prop}{i:Nat}{v:Value}{w:World}(h:EW L i=some v):RV L R i v w:=by unfold RV;rw[h]
theorem RV.eq{L:List Vx}{R:Nat->Value->World->Prop}{i:Nat}{v x:Value}{w:World}(h:RV L R i v w)(e:EW L i=some x):v=x:=by unfold RV at h;rw[e] at h;exact h
theorem RV.mono{L:List Vx}{R:Nat->Value->World->Prop}{i:Nat}{v:Value}{w w':World}(hR:R i v w->R i v w')(h:RV L R i v w):RV L R i v w':=by
 unfold RV at h ⊢;cases e:EW L i with
 |some x=>rw[e] at h;exact h
 |none=>rw[e] at h;exact hR h
def Uc(l:List Oper)(n t:Nat):Option Nat:=(yN n).find? λj=>Ag l j==t
def aC(l:List Oper)(n i:Nat)(L:List Vx)(a0 a:Act):Operand->Value
 | .tmp t=>
  match Uc l n t with
  |some j=>
   match yl .any l.toArray i j with
   |true=>match EW L j with
    |some x=>x
    |none=>a.eval (.tmp t)
   |false=>a.eval (.tmp t)
  |none=>a0.tmps[t]?.getD undef
 |x=>a.eval x
def Yp(l:List Oper)(n:Nat)(L:List Vx)(a0:Act):Operand->Value
 | .tmp t=>
  match Uc l n t with
  |some j=>(EW L j).getD undef
  |none=>a0.tmps[t]?.getD undef
 |_=>undef
def LS(l:List Oper)(i:Nat)(L:List Vx)(o:Oper):Option Bool:=
 match o.guard with
 |none=>some true
 |some (g,b)=>
  match yl .any l.toArray i g with
  |true=>
   match(l[g]?).bind (·.dst) with
   |some _=>
    match EW L g with
    |some (.bool c)=>some (c==b)
    |some (.tuple _)=>some false
    |_=>none
   |none=>none
  |false=>none
section
variable {P:Program} {l:List Oper} {n i:Nat} {o o':Oper} {a a0:Act} {w:World} {ht:Act->World->Prop} {Q:Exit->Act->World->Prop} {L:List Vx} {R:Nat->Value->World->Prop} {v:Value}
theorem Qz(Hb:Hid (a.defers=a0.defers/\a.tmps.size=a0.tmps.size/\∀t,(∀i,i<n->Ag l i≠t)->a.tmps[t]?=a0.tmps[t]?))(Hd:Hid (∀j,yl .any l.toArray i j=true->RV L R j (a.tmps[Ag l j]?.getD undef) w)):aC l n i L a0 a=a.eval:=by
 funext x
 cases x with
 |tmp t=>
  show(match Uc l n t with|some j=>_|none=>_)=_
  cases e:Uc l n t with
  |none=>
   simp only;have h:∀j,j<n->Ag l j≠t:=by intro j X O;have:=sR.1 e j (yj.2 X);simp[O] at this
   exact(Bp (by rw[Hb.out.2.2 t h])).symm
  |some j=>
   simp only;have O:Ag l j=t:=by have:=sj e;simpa using this
   cases e3:yl .any l.toArray i j with
   |false=>rfl
   |true=>
    simp only;cases e4:EW L j with
    |none=>rfl
    |some y=>simp only;have:=(Hd.out j e3).eq e4;rw[O] at this;exact(Bp this).symm
 |const v=>rfl
 |global g=>rfl
 |func f=>rfl
theorem Kn{c:Bool}(Hd:Hid (∀j,yl .any l.toArray i j=true->RV L R j (a.tmps[Ag l j]?.getD undef) w))(h:LS l i L o=some c):xy o (yielded l.toArray a.tmps)=c:=by
 unfold LS at h;unfold xy;cases e:o.guard with
 |none=>rw[e] at h;simp only at h ⊢;exact yQ h
 |some gb=>
  obtain⟨g,b⟩:=gb;rw[e] at h;simp only at h ⊢;cases e1:yl .any l.toArray i g with
  |false=>rw[e1] at h;cases h
  |true=>
   rw[e1] at h;simp only at h;cases e2:(l[g]?).bind (·.dst) with
   |none=>rw[e2] at h;cases h
   |some d=>
    rw[e2] at h;simp only at h;have hd:Ag l g=d:=by unfold Ag;rw[e2];rfl
    have O:(l.toArray[g]?).bind (·.dst)=some d:=by simpa using e2
    cases e3:EW L g with
    |none=>rw[e3] at h;cases h
    |some x=>
     have h3:=(Hd.out g e1).eq e3;rw[hd] at h3;rw[e3] at h;cases x with
     |bool c9=>have hv:=yQ h;rw[OF e2 h3,<-hv];cases c9<;>cases b<;>rfl
     |tuple y=>
      have hv:=yQ h;rw[<-hv];unfold yielded;rw[O,vK];cases N:a.tmps[d]? with
      |none=>rfl
      |some y=>rw[N] at h3;simp only[sQ] at h3;subst h3;rfl
     |_=>cases h
theorem sP(ho:l[i]?=some o)(HK:Hid (∀v w',RV L R i v w'->Below w.heap.size w w'->ht (a.put o.dst v) w'))(Hb:Hid (a.defers=a0.defers/\a.tmps.size=a0.tmps.size/\∀t,(∀i,i<n->Ag l i≠t)->a.tmps[t]?=a0.tmps[t]?))(Hd:Hid (∀j,yl .any l.toArray i j=true->RV L R j (a.tmps[Ag l j]?.getD undef) w))
 (e:l[i]?=some o':=by rfl)(hv:EW L i=some v:=by rfl)(hw:LS l i L o'=some true:=by kernel_rfl)(hr:(execOp (aC l n i L a0 a) o').run P w=.ok (.value v) w:=by kernel_rfl):AY P l o a w ht Q:=
 dV ho e (Kn Hd hw) HK (by rw[<-Qz Hb Hd];exact hr) (RV.of hv)
theorem sL{t:Nat}{x:Operand}{p:Value}(ho:l[i]?=some o)(HK:Hid (∀v w',RV L R i v w'->Below w.heap.size w w'->ht (a.put o.dst v) w'))(Hb:Hid (a.defers=a0.defers/\a.tmps.size=a0.tmps.size/\∀t,(∀i,i<n->Ag l i≠t)->a.tmps[t]?=a0.tmps[t]?))(Hd:Hid (∀j,yl .any l.toArray i j=true->RV L R j (a.tmps[Ag l j]?.getD undef) w))
 (e:l[i]?=some o':=by rfl)(du:o'.op=.load t x:=by rfl)(hp:Yp l n L a0 x=p:=by rfl)(hq:aC l n i L a0 a x=Yp l n L a0 x:=by kernel_rfl)(hv:EW L i=some v:=by rfl)(hw:LS l i L o'=some true:=by kernel_rfl)(hl:(xO t p).run P w=.ok v w):AY P l o a w ht Q:=
 dV ho e (Kn Hd hw) HK (by rw[<-Qz Hb Hd];unfold execOp;rw[du];simp only[hq.trans hp,vt,hl,wt];rfl) (RV.of hv)
theorem sB(ho:l[i]?=some o)(HK:Hid (∀v w',RV L R i v w'->Below w.heap.size w w'->ht (a.put o.dst v) w'))(Hd:Hid (∀j,yl .any l.toArray i j=true->RV L R j (a.tmps[Ag l j]?.getD undef) w))
 (e:l[i]?=some o':=by rfl)(hv:EW L i=some undef:=by rfl)(hw:LS l i L o'=some false:=by kernel_rfl):AY P l o a w ht Q:=by
 obtain rfl:=yQ (ho.symm.trans e);exact⟨λh=>absurd ((Kn Hd hw).symm.trans h) (by decide),λ_=>HK.out _ _ (RV.of hv) (yO _ _)⟩
theorem sC{F:FuncId}{vs:Array Value}{Qc:Ending->World->Prop}(ho:l[i]?=some o)(HK:Hid (∀v w',RV L R i v w'->Below w.heap.size w w'->ht (a.put o.dst v) w'))(Hb:Hid (a.defers=a0.defers/\a.tmps.size=a0.tmps.size/\∀t,(∀i,i<n->Ag l i≠t)->a.tmps[t]?=a0.tmps[t]?))(Hd:Hid (∀j,yl .any l.toArray i j=true->RV L R j (a.tmps[Ag l j]?.getD undef) w))
 (z:Calls P F vs w Qc)(hq:∀e w',Qc e w'->∃v,e=.returned v/\RV L R i v w'/\Below w.heap.size w w')
 (e:l[i]?=some o':=by rfl)(hw:LS l i L o'=some true:=by kernel_rfl)(hr:(execOp (aC l n i L a0 a) o').run P w=.ok (.enter F vs) w:=by kernel_rfl):AY P l o a w ht Q:=by
 obtain rfl:=yQ (ho.symm.trans e);refine⟨λ_=>?_,λh=>absurd ((Kn Hd hw).symm.trans h) (by decide)⟩;unfold vg;rw[<-Qz Hb Hd,hr,tM];refine z.mono ?_;intro x w' h;obtain⟨v,rfl,J,O⟩:=hq x w' h;exact HK.out v w' J O
theorem sD{F:FuncId}{vs:Array Value}(ho:l[i]?=some o)(HK:Hid (∀v w',RV L R i v w'->Below w.heap.size w w'->ht (a.put o.dst v) w'))(Hb:Hid (a.defers=a0.defers/\a.tmps.size=a0.tmps.size/\∀t,(∀i,i<n->Ag l i≠t)->a.tmps[t]?=a0.tmps[t]?))(Hd:Hid (∀j,yl .any l.toArray i j=true->RV L R j (a.tmps[Ag l j]?.getD undef) w))
 (z:Calls P F vs w λe w'=>e=.returned v/\Below w.heap.size w w')(e:l[i]?=some o':=by rfl)(hv:EW L i=some v:=by rfl)(hw:LS l i L o'=some true:=by kernel_rfl)(hr:(execOp (aC l n i L a0 a) o').run P w=.ok (.enter F vs) w:=by kernel_rfl):AY P l o a w ht Q:=
 sC ho HK Hb Hd z (λ_ _ h=>⟨v,h.1,RV.of hv,h.2⟩) e hw hr
theorem sE{F:FuncId}{vs:Array Value}(ho:l[i]?=some o)(HK:Hid (∀v w',RV L R i v w'->Below w.heap.size w w'->ht (a.put o.dst v) w'))(Hb:Hid (a.defers=a0.defers/\a.tmps.size=a0.tmps.size/\∀t,(∀i,i<n->Ag l i≠t)->a.tmps[t]?=a0.tmps[t]?))(Hd:Hid (∀j,yl .any l.toArray i j=true->RV L R j (a.tmps[Ag l j]?.getD undef) w))
 (z:Calls P F vs w λe w'=>e=.returned v/\w=w')(e:l[i]?=some o':=by rfl)(hv:EW L i=some v:=by rfl)(hw:LS l i L o'=some true:=by kernel_rfl)(hr:(execOp (aC l n i L a0 a) o').run P w=.ok (.enter F vs) w:=by kernel_rfl):AY P l o a w ht Q:=
 sC ho HK Hb Hd z (λ_ _ h=>⟨v,h.1,RV.of hv,h.2▸yO _ _⟩) e hw hr
theorem sI{t b D ln cp:Nat}{x y:Operand}{j:Int}(ho:l[i]?=some o)(HK:Hid (∀v w',RV L R i v w'->Below w.heap.size w w'->ht (a.put o.dst v) w'))(Hb:Hid (a.defers=a0.defers/\a.tmps.size=a0.tmps.size/\∀t,(∀i,i<n->Ag l i≠t)->a.tmps[t]?=a0.tmps[t]?))(Hd:Hid (∀j,yl .any l.toArray i j=true->RV L R j (a.tmps[Ag l j]?.getD undef) w))
 (e:l[i]?=some o':=by rfl)(du:o'.op=.indexAddr t x y:=by rfl)(hp:Yp l n L a0 x=.slice (some ⟨b,D,none⟩) ln cp:=by rfl)(hy:Yp l n L a0 y=.int .i64 j:=by rfl)(g9:aC l n i L a0 a x=Yp l n L a0 x:=by kernel_rfl)(g0:aC l n i L a0 a y=Yp l n L a0 y:=by kernel_rfl)(hv:EW L i=some v:=by rfl)(hw:LS l i L o'=some true:=by kernel_rfl)(hr:(Instr.indexAt t (.slice (some ⟨b,D,none⟩) ln cp) (.int .i64 j)).run P w=.ok v w):AY P l o a w ht Q:=
 dV ho e (Kn Hd hw) HK (by rw[<-Qz Hb Hd];unfold execOp;rw[du];simp only[g9.trans hp,g0.trans hy,vt,hr,wt];rfl) (RV.of hv)
theorem Ac(n hx:Nat)(L:List Vx)(R:Nat->Value->World->Prop)
 (bb:∀i,i<n->∀o,l[i]?=some o->∀a w,Hid (a.defers=a0.defers/\a.tmps.size=a0.tmps.size/\∀t,(∀i,i<n->Ag l i≠t)->a.tmps[t]?=a0.tmps[t]?)->
  Hid (∀j,yl .any l.toArray i j=true->RV L R j (a.tmps[Ag l j]?.getD undef) w)->Below w0.heap.size w0 w->
  ∀ht:Act->World->Prop,Hid (∀v w',RV L R i v w'->Below w.heap.size w w'->ht (a.put o.dst v) w')->AY P l o a w ht Q)
 (a8:∀(vs:Nat->Value) w,(∀i,i<n->RV L R i (vs i) w)->Below w0.heap.size w0 w->wpList P l.toArray Q (l.drop n) {a0 with tmps:=Aj l (yN n) vs a0.tmps} w)
 (hm:P.follows .mixedOrders=true:=by kernel_rfl)(hB:Ih l n=true:=by kernel_rfl)(hN:a0.tmps.size=hx:=by rfl)(hD:WH l n hx=true:=by kernel_rfl)
 (bB:∀i,i<n->∀v w w',Below w.heap.size w w'->R i v w->R i v w':=by exact λ_ _ _ _ _ _ h=>h):(vR id l.toArray true).wp P Q a0 w0:=
 MG n hm hB hx hN hD (RV L R) (λi A v w w' Y h=>RV.mono (bB i A v w w' Y) h) bb a8
theorem A5(n hx:Nat)(L:List Vx)(R:Nat->Value->World->Prop)
 (bb:∀i,i<n->∀o,l[i]?=some o->∀a w,Hid (a.defers=a0.defers/\a.tmps.size=a0.tmps.size/\∀t,(∀i,i<n->Ag l i≠t)->a.tmps[t]?=a0.tmps[t]?)->
  Hid (∀j,yl .any l.toArray i j=true->RV L R j (a.tmps[Ag l j]?.getD undef) w)->Below w0.heap.size w0 w->
  ∀ht:Act->World->Prop,Hid (∀v w',RV L R i v w'->Below w.heap.size w w'->ht (a.put o.dst v) w')->AY P l o a w ht Q)
 (bB:∀i,i<n->∀v w w',Below w.heap.size w w'->R i v w->R i v w')
 (a8:∀(vs:Nat->Value) w,(∀i,i<n->RV L R i (vs i) w)->Below w0.heap.size w0 w->wpList P l.toArray Q (l.drop n) {a0 with tmps:=Aj l (yN n) vs a0.tmps} w)
 (hm:P.follows .mixedOrders=true:=by kernel_rfl)(hB:Ih l n=true:=by kernel_rfl)(hN:a0.tmps.size=hx:=by rfl)(hD:WH l n hx=true:=by kernel_rfl):(vR id l.toArray true).wp P Q a0 w0:=
 MG n hm hB hx hN hD (RV L R) (λi A v w w' Y h=>RV.mono (bB i A v w w' Y) h) bb a8
end
def RF(hs:List Vx)(R:(Nat->Bool)->Nat->Value->World->Prop)(L:Nat->Bool)(i:Nat)(v:Value)(w:World):Prop:=
 match EW hs i with
 |some x=>v=x
 |none=>R L i v w
section
variable {P:Program} {l:List Oper} {n i:Nat} {o o':Oper} {a a0:Act} {w:World} {ht:Act->World->Prop} {Q:Exit->Act->World->Prop} {hs:List Vx} {R:(Nat->Bool)->Nat->Value->World->Prop} {L:Nat->Bool} {v:Value}
theorem RF.of(h:EW hs i=some v):RF hs R L i v w:=by unfold RF;rw[h]
theorem RF.eq{x:Value}(h:RF hs R L i v w)(e:EW hs i=some x):v=x:=by unfold RF at h;rw[e] at h;exact h
theorem RF.mono{L':Nat->Bool}{w':World}(hR:R L i v w->R L' i v w')(h:RF hs R L i v w):RF hs R L' i v w':=by
 unfold RF at h ⊢;cases e:EW hs i with
 |some x=>rw[e] at h;exact h
 |none=>rw[e] at h;exact hR h
def Xr(l:List Oper)(n t:Nat):Option Nat:=(yN n).find? λj=>Bk l j==some t
def XB(l:List Oper)(n i:Nat)(hs:List Vx)(a0 a:Act):Operand->Value
 | .tmp t=>
  match Xr l n t with
  |some j=>
   match yl .any l.toArray i j with
   |true=>match EW hs j with
    |some x=>x
    |none=>a.eval (.tmp t)
   |false=>a.eval (.tmp t)
  |none=>a0.tmps[t]?.getD undef
 |x=>a.eval x
def dN(l:List Oper)(n:Nat)(hs:List Vx)(a0:Act):Operand->Value
 | .tmp t=>
  match Xr l n t with
  |some j=>(EW hs j).getD undef
  |none=>a0.tmps[t]?.getD undef
 |_=>undef
def PT(l:List Oper)(n i:Nat)(hs:List Vx)(o:Oper):Option Bool:=
 match o.guard with
 |none=>some true
 |some (g,b)=>
  match yl .any l.toArray i g&&decide (g<n) with
  |true=>
   match(l[g]?).bind (·.dst) with
   |some _=>
    match EW hs g with
    |some (.bool c)=>some (c==b)
    |some (.tuple _)=>some false
    |_=>none
   |none=>none
  |false=>none
abbrev Y8(l:List Oper)(n:Nat)(a0 a:Act):Prop:=a.defers=a0.defers/\a.tmps.size=a0.tmps.size/\∀t,(∀i,i<n->Bk l i≠some t)->a.tmps[t]?=a0.tmps[t]?
abbrev Xw(l:List Oper)(n:Nat)(hs:List Vx)(R:(Nat->Bool)->Nat->Value->World->Prop)(L:Nat->Bool)(a:Act)(w:World):Prop:=∀j,L j=true->j<n->RF hs R L j (EQ l a.tmps j) w
abbrev Xb(l:List Oper)(i:Nat)(L:Nat->Bool):Prop:=L i=false/\(∀j,yl .any l.toArray i j=true->L j=true)/\∀j j',L j=true->yl .any l.toArray j j'=true->L j'=true
abbrev cE(hs:List Vx)(R:(Nat->Bool)->Nat->Value->World->Prop)(L:Nat->Bool)(i:Nat)(o:Oper)(a:Act)(w:World)(ht:Act->World->Prop):Prop:=∀v w',RF hs R (Gn L i) i (match o.dst with|some _=>v|none=>undef) w'->Below w.heap.size w w'->ht (a.put o.dst v) w'
theorem Pp(Hb:Hid (Y8 l n a0 a))(Hd:Hid (Xw l n hs R L a w))(HL:Hid (Xb l i L)):XB l n i hs a0 a=a.eval:=by
 funext x
 cases x with
 |tmp t=>
  show(match Xr l n t with|some j=>_|none=>_)=_
  cases e:Xr l n t with
  |none=>
   simp only;have h:∀j,j<n->Bk l j≠some t:=by intro j X O;have:=sR.1 e j (yj.2 X);simp[O] at this
   exact(Bp (by rw[Hb.out.2.2 t h])).symm
  |some j=>
   simp only;have O:Bk l j=some t:=by have:=sj e;simpa using this
   have X:j<n:=yj.1 (List.mem_of_find?_eq_some e);cases e3:yl .any l.toArray i j with
   |false=>rfl
   |true=>
    simp only;cases e4:EW hs j with
    |none=>rfl
    |some y=>simp only;have:=(Hd.out j (HL.out.2.1 j e3) X).eq e4;unfold EQ at this;rw[O] at this;exact(Bp this).symm
 |const v=>rfl
 |global g=>rfl
 |func f=>rfl
theorem OC{c:Bool}(Hd:Hid (Xw l n hs R L a w))(HL:Hid (Xb l i L))(h:PT l n i hs o=some c):xy o (yielded l.toArray a.tmps)=c:=by
 unfold PT at h;unfold xy;cases e:o.guard with
 |none=>rw[e] at h;simp only at h ⊢;exact yQ h
 |some gb=>
  obtain⟨g,b⟩:=gb;rw[e] at h;simp only at h ⊢;cases e1:(yl .any l.toArray i g&&decide (g<n)) with
  |false=>rw[e1] at h;cases h
  |true=>
   rw[e1] at h;simp only at h;obtain⟨e5,e6⟩:=Bool.and_eq_true_iff.1 e1;have e6:=of_decide_eq_true e6;cases e2:(l[g]?).bind (·.dst) with
   |none=>rw[e2] at h;cases h
   |some d=>
    rw[e2] at h;simp only at h;have O:(l.toArray[g]?).bind (·.dst)=some d:=by simpa using e2
    cases e3:EW hs g with
    |none=>rw[e3] at h;cases h
    |some x=>
     have h3:=(Hd.out g (HL.out.2.1 g e5) e6).eq e3;unfold EQ at h3;rw[show Bk l g=some d from e2] at h3;simp only at h3;rw[e3] at h;cases x with
     |bool c9=>have hv:=yQ h;rw[OF e2 h3,<-hv];cases c9<;>cases b<;>rfl
     |tuple y=>
      have hv:=yQ h;rw[<-hv];unfold yielded;rw[O,vK];cases N:a.tmps[d]? with
      |none=>rfl
      |some y=>rw[N] at h3;simp only[sQ] at h3;subst h3;rfl
     |_=>cases h
theorem dh(ho:l[i]?=some o)(e:l[i]?=some o')(hw:xy o' (yielded l.toArray a.tmps)=true)(HK:Hid (cE hs R L i o a w ht))(hv:EW hs i=some v)(hd:o'.dst.isSome=true)(hr:(execOp a.eval o').run P w=.ok (.value v) w):AY P l o a w ht Q:=by
 obtain rfl:=yQ (ho.symm.trans e);refine⟨λ_=>?_,λh=>by rw[hw] at h;cases h⟩;unfold vg;rw[hr,Oper.upon_value];obtain⟨d,O⟩:=vi.1 hd;exact HK.out _ _ (by rw[O];exact RF.of hv) (yO _ _)
theorem WP(ho:l[i]?=some o)(HK:Hid (cE hs R L i o a w ht))(Hb:Hid (Y8 l n a0 a))(Hd:Hid (Xw l n hs R L a w))(HL:Hid (Xb l i L))
 (e:l[i]?=some o':=by rfl)(hd:o'.dst.isSome=true:=by rfl)(hv:EW hs i=some v:=by rfl)(hw:PT l n i hs o'=some true:=by kernel_rfl)(hr:(execOp (XB l n i hs a0 a) o').run P w=.ok (.value v) w:=by kernel_rfl):AY P l o a w ht Q:=
 dh ho e (OC Hd HL hw) HK hv hd (by rw[<-Pp Hb Hd HL];exact hr)
theorem LY{x:Operand}{p:Value}(ho:l[i]?=some o)(HK:Hid (cE hs R L i o a w ht))(Hb:Hid (Y8 l n a0 a))(Hd:Hid (Xw l n hs R L a w))(HL:Hid (Xb l i L))
 (e:l[i]?=some o':=by rfl)(hd:o'.dst.isSome=true:=by rfl)(du:o'.op=.load t x:=by rfl)(hp:dN l n hs a0 x=p:=by rfl)(hq:XB l n i hs a0 a x=dN l n hs a0 x:=by kernel_rfl)(hv:EW hs i=some v:=by rfl)(hw:PT l n i hs o'=some true:=by kernel_rfl)(hl:(xO t p).run P w=.ok v w):AY P l o a w ht Q:=
 dh ho e (OC Hd HL hw) HK hv hd (by rw[<-Pp Hb Hd HL];unfold execOp;rw[du];simp only[hq.trans hp,vt,hl,wt];rfl)
theorem db{F:FuncId}{vs:Array Value}{Qc:Ending->World->Prop}(ho:l[i]?=some o)(HK:Hid (cE hs R L i o a w ht))(Hb:Hid (Y8 l n a0 a))(Hd:Hid (Xw l n hs R L a w))(HL:Hid (Xb l i L))
 (z:Calls P F vs w Qc)(hq:∀e w',Qc e w'->∃v,e=.returned v/\RF hs R (Gn L i) i v w'/\Below w.heap.size w w')
 (e:l[i]?=some o':=by rfl)(hd:o'.dst.isSome=true:=by rfl)(hw:PT l n i hs o'=some true:=by kernel_rfl)(hr:(execOp (XB l n i hs a0 a) o').run P w=.ok (.enter F vs) w:=by kernel_rfl):AY P l o a w ht Q:=by
 obtain rfl:=yQ (ho.symm.trans e);refine⟨λ_=>?_,λh=>absurd ((OC Hd HL hw).symm.trans h) (by decide)⟩;unfold vg;rw[<-Pp Hb Hd HL,hr,tM];refine z.mono ?_;intro x w' h;obtain⟨v,rfl,J,O⟩:=hq x w' h;obtain⟨d,h3⟩:=vi.1 hd;exact HK.out v w' (by rw[h3];exact J) O
theorem de{F:FuncId}{vs:Array Value}(ho:l[i]?=some o)(HK:Hid (cE hs R L i o a w ht))(Hb:Hid (Y8 l n a0 a))(Hd:Hid (Xw l n hs R L a w))(HL:Hid (Xb l i L))
 (z:Calls P F vs w λe w'=>e=.returned v/\Below w.heap.size w w')(e:l[i]?=some o':=by rfl)(hd:o'.dst.isSome=true:=by rfl)(hv:EW hs i=some v:=by rfl)(hw:PT l n i hs o'=some true:=by kernel_rfl)(hr:(execOp (XB l n i hs a0 a) o').run P w=.ok (.enter F vs) w:=by kernel_rfl):AY P l o a w ht Q:=
 db ho HK Hb Hd HL z (λ_ _ h=>⟨v,h.1,RF.of hv,h.2⟩) e hd hw hr
theorem Bb(ai:Hid (Xb l i L))(k:Nat)(h:yl .any l.toArray k i=true:=by kernel_rfl):L k=false:=by
 cases N:L k with
 |false=>rfl
 |true=>exact absurd (ai.out.2.2 k i N h) (by rw[ai.out.1];decide)
theorem Dn(n hx:Nat)(S:Nat->Bool)(hs:List Vx)(R:(Nat->Bool)->Nat->Value->World->Prop)(G:(Nat->Bool)->World->Prop)
 (hG:G (λ_=>false) {w0 with drawn:=w0.drawn+1})
 (bB:∀j,j<n->∀L i v w w',i<n->S i=false->L i=false->L j=true->Below w.heap.size w w'->R L j v w->R (Gn L i) j v w')
 (dw:∀L i w w',i<n->S i=false->L i=false->Below w.heap.size w w'->G L w->G (Gn L i) w')
 (bb:∀i,i<n->S i=false->∀o,l[i]?=some o->∀a w,Hid (Y8 l n a0 a)->∀L:Nat->Bool,Hid (Xw l n hs R L a w)->Hid (Xb l i L)->G L w->∀ht:Act->World->Prop,Hid (cE hs R L i o a w ht)->AY P l o a w ht Q)
 (dr:∀i,i<n->S i=true->∀o,l[i]?=some o->∀a w,Hid (Y8 l n a0 a)->∀L:Nat->Bool,Hid (Xw l n hs R L a w)->Hid (Xb l i L)->G L w->
  ∀ht:Act->World->Prop,Hid (∀v w',RF hs R (Gn L i) i (match o.dst with|some _=>v|none=>undef) w'->G (Gn L i) w'->(∀j,j≠i->j<n->L j=true->RF hs R L j (EQ l a.tmps j) w->RF hs R (Gn L i) j (EQ l a.tmps j) w')->ht (a.put o.dst v) w')->AY P l o a w ht Q)
 (a8:∀(vs:Nat->Value) w,∀L:Nat->Bool,(∀i,i<n->L i=true)->(∀i,i<n->RF hs R L i (vs i) w)->G L w->wpList P l.toArray Q [] {a0 with tmps:=DQ l (yN n) vs a0.tmps} w)
 (hm:P.follows .mixedOrders=true:=by kernel_rfl)(hN:a0.tmps.size=hx:=by rfl)(hB:Xe l hx=true:=by kernel_rfl)(hn:l.length=n:=by rfl):(vR id l.toArray true).wp P Q a0 w0:=
 Re n hm hx hN hB hn S (RF hs R) G hG (λj X L i v w w' J O h3 h4 Y h=>RF.mono (bB j X L i v w w' J O h3 h4 Y) h) dw bb dr a8
end
section
variable {α:Type}
theorem BD{l:List α}{i:Nat}{d:α}(h:i<l.length):l[i]?=some (l.getD i d):=by simp[h]
theorem Di{l:List α}{i:Nat}{d:α}(h:i<l.length):l.getD i d∈l:=yx (BD h)
theorem IM{l:List α}{x d:α}(h:x∈l):∃i,i<l.length/\l.getD i d=x:=by obtain⟨i,A,rfl⟩:=xl h;exact⟨i,A,by simp[A]⟩
theorem Ju{l:List α}{i j:Nat}{x d:α}:(l.set i x).getD j d=if j=i/\i<l.length then x else l.getD j d:=by
 simp only[yg,we]
 by_cases h:i=j
 .subst h
  by_cases O:i<l.length
  .simp[O]
  .simp[O]
 .have h':¬j=i:=λe=>h e.symm
  simp[h,h']
theorem Cz{l:List α}{i:Nat}{f:α->α}:(An l i f).length=l.length:=by
 unfold An
 split<;>simp
theorem My{l:List α}{i j:Nat}{f:α->α}{d:α}:(An l i f).getD j d=if j=i/\i<l.length then f (l.getD i d) else l.getD j d:=by
 unfold An
 split
 .rename_i x N
  have A:=(yE.1 N).1;rw[Ju];have:l.getD i d=x:=by simp[N]
  rw[this]
 .rename_i N
  have A:¬i<l.length:=by simpa using N
  simp[A]
theorem Ji{l:List α}{i:Nat}{f:α->α}{d:α}:An l i f=l.set i (f (l.getD i d)):=by
 unfold An
 split
 .rename_i x N
  simp[N]
 .rename_i N
  have A:l.length<=i:=by simpa using N
  rw[List.set_eq_of_length_le A]
theorem MS{n:Nat}{p:Nat->Bool}:(yN n).all p=true↔∀i,i<n->p i=true:=by simp[yr]
theorem Ks{l:List α}{p:α->Bool}:l.any p=true↔∃x∈l,p x=true:=by simp
end
theorem Kl{G:Nat->Nat}{n:Nat}(h:∀t,t<n->F t=G t):((yN n).map F).sum=((yN n).map G).sum:=by
 induction n with
 |zero=>rfl
 |succ n ih=>rw[xI,xN,xN,wU,wU,ih (λt K=>h t (by omega))];simp[h n (by omega)]
theorem MV{G:Nat->Nat}{n:Nat}(hf:f<n)(h:∀t,t<n->t≠f->F t=G t):((yN n).map F).sum+G f=((yN n).map G).sum+F f:=by
 induction n with
 |zero=>omega
 |succ n ih=>
  rw[xI,xN,xN,wU,wU];simp only[vG,uU,uv,uk,xU]
  by_cases hn:f=n
  .subst hn
   rw[Kl (λt K=>h t (by omega) (by omega))];omega
  .have:=ih (by omega) (λt K a7=>h t (by omega) a7)
   have:=h n (by omega) (by omega);omega
theorem L9{n:Nat}:((yN n).map F).sum=0↔∀t,t<n->F t=0:=by
 induction n with
 |zero=>simp
 |succ n ih=>
  rw[xI,xN,wU];simp only[vG,uU,uv,uk,xU];constructor
  .intro h t K
   by_cases e:t=n
   .subst e;omega
   .exact ih.1 (by omega) t (by omega)
  .intro h
   rw[ih.2 (λt K=>h t (by omega)),h n (by omega)]
theorem cf{n c:Nat}(h:∀t,t<n->F t<=c):((yN n).map F).sum<=c*n:=by
 induction n with
 |zero=>simp
 |succ n ih=>rw[xI,xN,wU,Nat.mul_succ];simp only[vG,uU,uv,uk,xU];have:=ih (λt K=>h t (by omega));have:=h n (by omega);omega
theorem XP{n c g:Nat}(Z:g<n)(h:∀t,t<n->F t<=c)(h0:F g=0):((yN n).map F).sum+c<=c*n:=by
 have J:=MV (F:=F) (G:=λt=>if t=g then c else F t) Z (λt K a7=>by simp[a7]);have O:=cf (F:=λt=>if t=g then c else F t) (n:=n) (c:=c) (λt K=>by
  by_cases e:t=g
  .simp[e]
  .simp only[e,if_false];exact h t K)
 simp only[if_true,h0] at J;omega
theorem ET{w:Int}(h:Bn w=true):BM w<12:=by simp only[Bn,yD,decide_eq_true_eq] at h;unfold BM;omega
theorem Fk{r:List Int}{g:Nat}:g∈named r↔∃w∈r,Bn w=true/\BM w=g:=by simp[named,and_assoc]
theorem Fj{g:Nat}(h:g∈named r):g<12:=by obtain⟨w,_,hw,rfl⟩:=Fk.1 h;exact ET hw
def Du(g:Nat)(w:Int):Bool:=Bn w&&decide (BM w=g)
theorem J8{g:Nat}:(named r).count g=r.countP (Du g):=by
 unfold named
 induction r with
 |nil=>rfl
 |cons w r ih=>
  rw[List.filter_cons];cases hw:Bn w
  .rw[if_neg (by simp),ih,xA]
   simp[Du,hw]
  .rw[if_pos rfl,vG,si,ih,xA]
   by_cases h:BM w=g<;>simp[Du,hw,h]
theorem FG:(named r).length<=r.length:=by unfold named;rw[vq];exact xL _ _
def ER(b:Bool):Nat:=if b then 1 else 0
theorem Uw{p:Int->Bool}{b:Nat}{w:Int}(Y:b<r.length):(r.set b w).countP p+ER (p (r.getD b 0))=r.countP p+ER (p w):=by
 induction r generalizing b with
 |nil=>simp at Y
 |cons x r ih=>
  cases b with
  |zero=>simp only[sO,xA,sX,ER];omega
  |succ b=>simp only[sN,xA,sW];have:=ih (b:=b) (by simpa using Y);omega
theorem Yd{b g:Nat}{w:Int}(Y:b<r.length):(named (r.set b w)).count g+ER (Du g (r.getD b 0))=(named r).count g+ER (Du g w):=by rw[J8,J8];exact Uw Y
theorem SG{b g:Nat}{w:Int}(h:g∈named (r.set b w)):g∈named r∨(Bn w=true/\BM w=g):=by
 obtain⟨x,N,J,O⟩:=Fk.1 h
 rcases vh N with N|rfl
 .exact .inl (Fk.2 ⟨x,N,J,O⟩)
 .exact .inr ⟨J,O⟩
theorem Dl{root:Int}:f∈Ba m root↔0<=root/\(f=root.toNat∨f∈named (AH m root.toNat)∨∃t,t∈named (AH m root.toNat)/\f∈named (AH m t)):=by
 unfold Ba
 split
 .simp;omega
 .simp;omega
theorem PK{m':List (List Int)}{root:Int}(h0:0<=root->AH m' root.toNat=AH m root.toNat)(J:0<=root->∀t,t∈named (AH m root.toNat)->AH m' t=AH m t)(f:Nat):f∈Ba m' root↔f∈Ba m root:=by
 rw[Dl,Dl]
 by_cases hr:0<=root
 .rw[h0 hr]
  simp only[hr,true_and];refine or_congr Iff.rfl (or_congr Iff.rfl (exists_congr λt=>?_));constructor
  .rintro⟨a,b⟩;exact⟨a,by rw[<-J hr t a];exact b⟩
  .rintro⟨a,b⟩;exact⟨a,by rw[J hr t a];exact b⟩
 .simp[hr]
theorem GW{Xy:List AV}{fs:List Nat}{Tj:List ByteArray}:BI Xy fs Tj=true↔∀f,f∈fs->CQ Tj (Sc Xy f).g=true:=by simp[BI,yr]
theorem Rc{m':List (List Int)}{root a:Nat}(h0:AH m' root=AH m root)(J:∀t,t∈named (AH m root)->AH m' t=AH m t):Bv m' root a=Bv m root a:=by
 have e0:Au m' root (a/16)=Au m root (a/16):=by unfold Au;rw[h0]
 unfold Bv;rw[e0]
 split
 .rename_i Z
  have hm:BM (Au m root (a/16))∈named (AH m root):=by
   refine Fk.2 ⟨_,?_,Z,rfl⟩;unfold Au at Z ⊢
   by_cases hl:a/16<(AH m root).length
   .exact Di hl
   .have:(AH m root).getD (a/16) 0=0:=by simp at hl;simp[hl]
    rw[this] at Z;simp[Bn] at Z
  have e1:Au m' (BM (Au m root (a/16))) (a/4%4)=Au m (BM (Au m root (a/16))) (a/4%4):=by unfold Au;unfold Au at hm;rw[J _ hm]
  rw[e1]
 .rfl
theorem J2{i:Nat}(Z:Bn (Au m f i)=true):BM (Au m f i)∈named (AH m f):=by
 refine Fk.2 ⟨_,?_,Z,rfl⟩;unfold Au at Z ⊢
 by_cases hl:i<(AH m f).length
 .exact Di hl
 .have:(AH m f).getD i 0=0:=by simp at hl;simp[hl]
  rw[this] at Z;simp[Bn] at Z
theorem A6{r:List Int}:D8 r=true↔r.length=4/\∀w∈r,0<=w/\w<=9999:=by simp only[D8,yD,yr,decide_eq_true_eq,EB,AZ];exact And.comm
theorem Ah:Bq m=true↔m.length=12/\∀f,f<12->D8 (AH m f)=true:=by
 simp only[Bq,yD,yr,decide_eq_true_eq];constructor
 .rintro⟨J,O⟩
  exact⟨O,λf hf=>J _ (Di (by omega))⟩
 .rintro⟨J,O⟩
  refine⟨λr hr=>?_,J⟩;obtain⟨i,A,rfl⟩:=IM (d:=[]) hr;exact O i (by omega)
theorem Sw(h:Bq m=true)(hr:D8 r=true):Bq (m.set f r)=true:=by
 rw[Ah] at h ⊢;refine⟨by rw[yi];exact h.1,λg Z=>?_⟩;unfold AH;rw[Ju]
 split
 .exact hr
 .exact h.2 g Z
theorem Oh{g:Nat}:AH (m.set f r) g=if g=f/\f<m.length then r else AH m g:=by unfold AH;exact Ju
theorem ID{i g:Nat}{w:Int}:AH (Ci m f i w) g=if g=f/\f<m.length then(AH m f).set i w else AH m g:=by unfold Ci AH;exact My
theorem Nt{i:Nat}{w:Int}:Ci m f i w=m.set f ((AH m f).set i w):=Ji
theorem TP{i:Nat}{w:Int}(h:D8 r=true)(hw:EB w=true):D8 (r.set i w)=true:=by
 rw[A6] at h ⊢;refine⟨by rw[yi];exact h.1,λx N=>?_⟩
 rcases vh N with N|rfl
 .exact h.2 x N
 .exact AZ.1 hw
theorem Xh:∀(x y:List UInt8),wJ x y=decide (x<y)
 | [],[]=>by simp[wJ]
 |_::_,[]=>by simp[wJ]
 | [],_::_=>by simp[wJ]
 |a::x,b::y=>by
  rw[wJ,Xh x y]
  by_cases J:a<b
  .simp[J,uM]
  .by_cases O:a=b
   .subst O;simp[uM]
   .simp[J,O,uM]
def M9(a b:ByteArray):Bool:=wJ a.toList b.toList
theorem LA{a b:ByteArray}:M9 a b=true↔a.toList<b.toList:=by simp[M9,Xh]
theorem Mt{a b:ByteArray}:M8 a b=!M9 a b:=rfl
theorem Oa{a b c:ByteArray}(J:M9 a b=true)(O:M9 b c=true):M9 a c=true:=LA.2 (List.lt_trans (LA.1 J) (LA.1 O))
theorem toList_inj{a b:ByteArray}(h:a.toList=b.toList):a=b:=by have ha:a.toList=a.data.toList:=xC a;have Y:b.toList=b.data.toList:=xC b;rw[ha,Y] at h;cases a;cases b;simp at h;rw[h]
theorem Wn{a b:ByteArray}(h:M9 a b=false)(a7:a≠b):M9 b a=true:=by
 rw[LA];have J:¬a.toList<b.toList:=by rw[<-LA];simp[h]
 have O:a.toList≠b.toList:=λe=>a7 (toList_inj e)
 have h3:b.toList<=a.toList:=List.not_lt.1 J
 rcases List.le_iff_lt_or_eq.1 h3 with h|h
 .exact h
 .exact absurd h.symm O
theorem Eh{ss:List ByteArray}:BS ss=true↔(∀s∈ss,BO s=true)/\ss.Pairwise (λa b=>M9 a b=true)/\ss.length<=6:=by
 unfold BS;simp only[yD,decide_eq_true_eq,MS,Cv,xP,Mt,Bool.not_not];constructor
 .rintro⟨h,hl⟩
  refine⟨λs V=>?_,?_,hl⟩
  .obtain⟨i,A,rfl⟩:=IM (d:=⟨#[]⟩) V
   exact(h i A).1
  .rw[wP]
   have dz:∀d i,i+1+d<ss.length->M9 (Cp ss i) (Cp ss (i+1+d))=true:=by
    intro d
    induction d with
    |zero=>
     intro i A
     rcases(h (i+1) (by omega)).2 with h'|h'
     .omega
     .simpa using h'
    |succ d ih=>
     intro i A;have J:=ih i (by omega)
     rcases(h (i+1+(d+1)) (by omega)).2 with h'|h'
     .omega
     .refine Oa J ?_
      have e:i+1+(d+1) - 1=i+1+d:=by omega
      rw[e] at h';exact h'
   intro i j A X d5;have:=dz (j - i - 1) i (by omega);have e:i+1+(j - i - 1)=j:=by omega
   rw[e] at this;simpa[Cp,A,X] using this
 .rintro⟨J,O,h3⟩
  refine⟨λi A=>⟨J _ (Di A),?_⟩,h3⟩
  by_cases h0:i=0
  .exact .inl h0
  .right
   rw[wP] at O;have:=O (i - 1) i (by omega) A (by omega);simpa[Cp,A,show i - 1<ss.length by omega] using this
theorem NJ{x:ByteArray}:x∈QE ss s↔x=s∨x∈ss:=by
 unfold QE;have e:=xD (p:=λx=>!M8 x s) (l:=ss);constructor
 .intro h
  rcases wM.1 h with h|h
  .right;rw[<-e];exact th _ h
  .rcases xH.1 h with h|h
   .exact .inl h
   .right;rw[<-e];exact uL _ h
 .rintro(rfl|h)
  .simp
  .rw[<-e] at h
   rcases wM.1 h with h|h
   .exact th _ h
   .exact uL _ (uI _ h)
theorem Lu{p:ByteArray->Bool}{l:List ByteArray}{x:ByteArray}(h:x∈l.takeWhile p):p x=true:=by
 induction l with
 |nil=>simp at h
 |cons y l ih=>
  rw[List.takeWhile_cons] at h
  split at h
  .rename_i hy
   rcases xH.1 h with rfl|h
   .exact hy
   .exact ih h
  .simp at h
theorem aY(h:BS ss=true)(V:BO s=true)(hn:s∉ss)(hl:ss.length≠6):BS (QE ss s)=true:=by
 rw[Eh] at h ⊢;obtain⟨J,O,h3⟩:=h;have e:=xD (p:=λx=>!M8 x s) (l:=ss);refine⟨λx N=>?_,?_,?_⟩
 .rcases NJ.1 N with rfl|N
  .exact V
  .exact J x N
 .unfold QE
  rw[<-e] at O;rw[tg] at O ⊢;obtain⟨p1,p2,p3⟩:=O;have cP:∀y∈ss.dropWhile (λx=>!M8 x s),M9 s y=true:=by
   generalize hd:ss.dropWhile (λx=>!M8 x s)=l at p2;cases l with
   |nil=>simp
   |cons y l=>
    have g2:(!M8 y s)=false:=by
     have:=List.head?_dropWhile_not (λx=>!M8 x s) ss;rw[hd] at this;simpa using this
    have g1:y∈ss:=by rw[<-e,hd];exact uL _ (vU ..)
    have hy:M9 s y=true:=Wn (by simpa[Mt] using g2) (λe=>hn (e▸g1));intro hc hz
    rcases xH.1 hz with rfl|hz
    .exact hy
    .exact Oa hy ((sM.1 p2).1 hc hz)
  refine⟨p1,sM.2 ⟨cP,p2⟩,λa ha b Y=>?_⟩;have ik:M9 a s=true:=by simpa[Mt] using Lu ha
  rcases xH.1 Y with rfl|Y
  .exact ik
  .exact p3 a ha b Y
 .have:(QE ss s).length=ss.length+1:=by
   unfold QE;rw[yA,vY];have:=congrArg List.length e;rw[yA] at this;omega
  omega
theorem YC{p:ByteArray->Bool}(h:BS ss=true):BS (ss.filter p)=true:=by
 rw[Eh] at h ⊢;exact⟨λs V=>h.1 s (wO.1 V).1,h.2.1.filter _,yL (xL _ _) h.2.2⟩
theorem IL{Tj:List ByteArray}{g:ByteArray}:CQ Tj g=true↔∃s∈Tj,LX s g=true:=by simp[CQ]
theorem Yb{r r':List ByteArray}{g:ByteArray}(h:∀s∈r,s∈r')(hm:CQ r g=true):CQ r' g=true:=by obtain⟨s,V,z⟩:=IL.1 hm;exact IL.2 ⟨s,h s V,z⟩
theorem Zt(g:ByteArray):CQ [⟨#[]⟩] g=true:=by refine IL.2 ⟨_,vU ..,?_⟩;simp[LX]
theorem ZK(h:BS ss=true)(V:BO s=true):BS (BR ss s).1=true:=by
 unfold BR
 split
 .exact h
 .rename_i hn
  split
  .exact h
  .rename_i hl
   exact aY h V (λhm=>hn (Ks.2 ⟨s,hm,by simp⟩)) hl
theorem ZJ{x:ByteArray}(N:x∈ss):x∈(BR ss s).1:=by
 unfold BR
 split
 .exact N
 .split
  .exact N
  .exact NJ.2 (.inr N)
theorem Ek{c:List Ad}:Bd c=true↔(∀x∈c,Bu x=true)/\c.Pairwise (λx y=>BN y.e y.p x=false)/\c.length<=4:=by
 unfold Bd;simp only[yD,decide_eq_true_eq,MS,DA,uj,um];constructor
 .rintro⟨h,hl⟩
  refine⟨λx N=>?_,?_,hl⟩
  .obtain⟨i,A,rfl⟩:=IM (d:=⟨0,0,0,false⟩) N
   exact(h i A).1
  .rw[wP]
   intro i j A X d5;have O:=(h j X).2 c[i] (tL.2 ⟨i,by omega,rfl⟩);have e:AT c j=c[j]:=by simp[AT,X]
   rw[e] at O;simpa using O
 .rintro⟨J,O,h3⟩
  refine⟨λi A=>⟨J _ (Di A),λx N=>?_⟩,h3⟩;obtain⟨j,X,rfl⟩:=tL.1 N;rw[wP] at O;have:=O j i (by omega) A (by omega);have e:AT c i=c[i]:=by simp[AT,A]
  rw[e];simp[this]
theorem Uz{c:List Ad}{e:Int}(h:Bd c=true):Bd (GI c e)=true:=by
 rw[Ek] at h ⊢;unfold GI;exact⟨λs V=>h.1 s (wO.1 V).1,h.2.1.filter _,yL (xL _ _) h.2.2⟩
theorem Si{c:List Ad}{e:Int}{x:Ad}:x∈GI c e↔x∈c/\x.e≠e:=by simp[GI]
theorem U0{c:List Ad}{es:List Nat}(h:Bd c=true):Bd (es.foldl (λc e=>GI c (e:Nat)) c)=true:=by
 induction es generalizing c with
 |nil=>exact h
 |cons e es ih=>exact ih (Uz h)
theorem YB{c:List Ad}{es:List Nat}{x:Ad}:x∈es.foldl (λc e=>GI c (e:Nat)) c↔x∈c/\∀e∈es,x.e≠(e:Int):=by
 induction es generalizing c with
 |nil=>simp
 |cons e es ih=>rw[yK,ih,Si];simp[and_assoc]
theorem Va{c:List Ad}{x y:Ad}(h:y∈JN c x):y=x∨y∈c:=by
 unfold JN at h
 rcases wM.1 h with h|h
 .right
  split at h
  .exact(wO.1 (uH h)).1
  .exact(wO.1 h).1
 .left;simpa using h
theorem Xn{c:List Ad}{x:Ad}(h:Bd c=true)(N:Bu x=true):Bd (JN c x)=true:=by
 have hm:=λy=>Va (c:=c) (x:=x) (y:=y)
 rw[Ek] at h ⊢;obtain⟨J,O,h3⟩:=h;refine⟨λy hy=>?_,?_,?_⟩
 .rcases hm y hy with rfl|hy
  .exact N
  .exact J y hy
 .unfold JN
  rw[tg];refine⟨?_,by simp,λa ha b Y=>?_⟩
  .split
   .exact(O.filter _).drop
   .exact O.filter _
  .obtain rfl:b=x:=by simpa using Y
   have gd:a∈c.filter λy=>!BN b.e b.p y:=by
    split at ha
    .exact uH ha
    .exact ha
   simpa using(wO.1 gd).2
 .unfold JN
  have hl:=xL (λy=>!BN x.e x.p y) c
  split
  .rw[yA,xm];simp;omega
  .rw[yA];simp;omega
theorem WJ{c:List Ad}{e p:Int}(h:¬Gr c e p<0):∃i,i<c.length/\Gr c e p=(i:Int)/\BN e p (AT c i)=true:=by
 unfold Gr at h ⊢
 split
 .rename_i ha
  obtain⟨x,N,V⟩:=Ks.1 ha;have hl:c.findIdx (BN e p)<c.length:=vQ.2 ⟨x,N,V⟩;refine⟨_,hl,rfl,?_⟩;have:=vF (w:=hl);simpa[AT,hl] using this
 .rename_i ha
  rw[if_neg ha] at h;omega
def Ab(k:AN)(e:Nat):Int:=(AF k.V3 e).root
def BB(k:AN)(e:Nat):List ByteArray:=(AF k.V3 e).Tj
def A2(k:AN)(f:Nat):Int:=(Sc k.Xy f).k
def Tg(x:AV):Prop:=(x.k=0/\x.g=⟨#[]⟩)∨(1<=x.k/\x.k<=3/\BO x.g=true)
def MJ(m:List (List Int))(Xy:List AV)(g t:Nat):Nat:=if Bi (Sc Xy t).k then(named (AH m t)).count g else 0
theorem En{Xy:List AV}{g:Nat}:countP m Xy g=((yN 12).map (MJ m Xy g)).sum:=rfl
theorem IR{k:Int}:Bi k=true↔k=2∨k=3:=by simp[Bi]
structure DP(k:AN):Prop where
 mem:Bq k.mem=true
 len:k.Xy.length=12
 inf:∀f,f<12->Tg (Sc k.Xy f)
 V0:Bd k.V0=true
 zY:k.V3.length=3
 Tj:∀e,e<3->BS (BB k e)=true
 roots:∀e,e<3->Ab k e= -1∨(0<=Ab k e/\Ab k e<=11/\A2 k (Ab k e).toNat=3)
 allow:∀e,e<3->∀f,f∈Ba k.mem (Ab k e)->CQ (BB k e) (Sc k.Xy f).g=true
 tabs:∀f,f<12->Bi (A2 k f)=true->∀w∈AH k.mem f,(Bn w=true/\BM w≠f/\A2 k (BM w)=A2 k f - 1)∨w=0
 refs:∀f,f<12->(Sc k.Xy f).r=(countP k.mem k.Xy f:Int)+(Ei k.V3 f:Int)
 trans:∀x∈k.V0,Cs k x=true
theorem IC{V3:List Em}(h:V3.length=3)(g:Nat):Ei V3 g=ER (decide ((AF V3 0).root=(g:Int)))+ER (decide ((AF V3 1).root=(g:Int)))+ER (decide ((AF V3 2).root=(g:Int))):=by
 match V3,h with
 | [a,b,c],_=>simp only[Ei,xA,List.countP_nil,AF,ER];simp;omega
section
variable {k:AN} (h:DP k)
include h
theorem DP.row(hf:f<12):(AH k.mem f).length=4:=(A6.1 ((Ah.1 h.mem).2 f hf)).1
theorem DP.word{i:Nat}(hf:f<12)(A:i<4):0<=Au k.mem f i/\Au k.mem f i<=9999:=(A6.1 ((Ah.1 h.mem).2 f hf)).2 _ (Di (by rw[h.row hf];exact A))
theorem DP.named{g:Nat}(hf:f<12)(K:Bi (A2 k f)=true)(Z:g∈named (AH k.mem f)):g<12/\g≠f/\A2 k g=A2 k f - 1:=by
 obtain⟨w,hw,J,rfl⟩:=Fk.1 Z
 rcases h.tabs f hf K w hw with⟨_,a,b⟩|rfl
 .exact⟨ET J,a,b⟩
 .simp[Bn] at J
theorem DP.zJ{e:Nat}(he:e<3)(hr:0<=Ab k e):(Ab k e).toNat<12/\A2 k (Ab k e).toNat=3:=by
 rcases h.roots e he with a|⟨a,b,c⟩
 .omega
 .exact⟨by omega,c⟩
theorem DP.zV{e:Nat}(he:e<3)(hr:0<=Ab k e)(K:t∈Go.Proofs.YtaopbdankjkfpaaGreatDoor.named (AH k.mem (Ab k e).toNat)):t<12/\A2 k t=2:=by obtain⟨a,b⟩:=h.zJ he hr;have:=h.named a (by rw[b];rfl) K;exact⟨this.1,by omega⟩
theorem DP.zv{e:Nat}(he:e<3)(hr:0<=Ab k e)(K:t∈Go.Proofs.YtaopbdankjkfpaaGreatDoor.named (AH k.mem (Ab k e).toNat))(hf:f∈Go.Proofs.YtaopbdankjkfpaaGreatDoor.named (AH k.mem t)):f<12/\A2 k f=1:=by obtain⟨a,b⟩:=h.zV he hr K;have:=h.named a (by rw[b];rfl) hf;exact⟨this.1,by omega⟩
theorem DP.zH{e:Nat}(he:e<3)(hf:f∈Ba k.mem (Ab k e)):f<12/\1<=A2 k f:=by
 obtain⟨hr,J⟩:=Dl.1 hf
 rcases J with rfl|J|⟨t,K,J⟩
 .have:=h.zJ he hr;exact⟨this.1,by omega⟩
 .have:=h.zV he hr J;exact⟨this.1,by omega⟩
 .have:=h.zv he hr K J;exact⟨this.1,by omega⟩
theorem DP.cnt_zero{g:Nat}(Z:g<12):MJ k.mem k.Xy g g=0:=by
 unfold MJ
 split
 .rename_i K
  rw[uq];intro hm;exact(h.named Z K hm).2.1 rfl
 .rfl
theorem DP.yZ{g:Nat}(K:t<12):MJ k.mem k.Xy g t<=4:=by
 unfold MJ
 split
 .have J:(Go.Proofs.YtaopbdankjkfpaaGreatDoor.named (AH k.mem t)).count g<=_:=List.count_le_length
  have O:=FG (r:=AH k.mem t);rw[h.row K] at O;omega
 .omega
theorem DP.count_le{g:Nat}(Z:g<12):countP k.mem k.Xy g<=44:=by
 have:((yN 12).map (MJ k.mem k.Xy g)).sum+4<=4*12:=XP Z (λt K=>h.yZ (g:=g) K) (h.cnt_zero Z);rw[En];omega
theorem DP.zb(hf:f<12):0<=(Sc k.Xy f).r/\(Sc k.Xy f).r<=47:=by
 have J:=h.count_le hf;have O:Ei k.V3 f<=3:=by
  have:=vy (p:=λe:Em=>decide (e.root=(f:Int))) (l:=k.V3);rw[h.zY] at this;exact this
 rw[h.refs f hf];omega
theorem DP.unused(hf:f<12)(h0:(Sc k.Xy f).r=0):(∀t,t<12->Bi (A2 k t)=true->f∉Go.Proofs.YtaopbdankjkfpaaGreatDoor.named (AH k.mem t))/\∀e,e<3->Ab k e≠(f:Int):=by
 have J:=h.refs f hf;have O:countP k.mem k.Xy f=0:=by omega
 have h3:Ei k.V3 f=0:=by omega
 rw[En,L9] at O;constructor
 .intro t K c8 hm
  have:=O t K;unfold MJ A2 at*;rw[if_pos c8,uq] at this;exact this hm
 .intro e he
  rw[IC h.zY] at h3;unfold ER at h3;have:e=0∨e=1∨e=2:=by omega
  intro hr;unfold Ab at hr
  rcases this with rfl|rfl|rfl<;>simp[hr] at h3
theorem DP.zD(hf:f<12)(h0:A2 k f=0):(Sc k.Xy f).r=0:=by
 rw[h.refs f hf];have O:countP k.mem k.Xy f=0:=by
  rw[En,L9];intro t K;unfold MJ
  split
  .rename_i c8
   rw[uq];intro hm;have:=(h.named K c8 hm).2.2;have:A2 k t=2∨A2 k t=3:=IR.1 c8;omega
  .rfl
 have h3:Ei k.V3 f=0:=by
  rw[IC h.zY];have dz:∀e,e<3->ER (decide ((AF k.V3 e).root=(f:Int)))=0:=by
   intro e he;unfold ER
   by_cases hr:(AF k.V3 e).root=(f:Int)
   .exfalso
    have:Ab k e=(f:Int):=hr;have:=h.zJ he (by omega);rw[‹Ab k e=(f:Int)›] at this;simp at this;omega
   .simp[hr]
  rw[dz 0 (by omega),dz 1 (by omega),dz 2 (by omega)]
 omega
theorem DP.zd{e a:Nat}(he:e<3)(hr:0<=Ab k e)(hw:(Bv k.mem (Ab k e).toNat a).1=0):(Bv k.mem (Ab k e).toNat a).2.1<12/\A2 k (Bv k.mem (Ab k e).toNat a).2.1=1/\(Bv k.mem (Ab k e).toNat a).2.1∈Ba k.mem (Ab k e):=by
 unfold Bv at hw ⊢
 split at hw
 .rename_i J
  split at hw
  .rename_i O
   rw[if_pos J,if_pos O];have m1:=J2 J;have m2:=J2 O;have:=h.zv he hr m1 m2;exact⟨this.1,this.2,Dl.2 ⟨hr,.inr (.inr ⟨_,m1,m2⟩)⟩⟩
  .simp at hw
 .simp at hw
end
theorem YO{x:AV}(h:Tg x)(h0:0<=x.r)(J:x.r<=50)(hz:x.k=0->x.r=0):DT x=true:=by
 rcases h with⟨a,b⟩|⟨a,b,c⟩
 .have:x=AV.zero:=by
   obtain⟨k,g,r⟩:=x;simp at a b hz;subst a b;simp[AV.zero,hz rfl]
  simp[DT,this]
 .simp[DT,Bh,a,b,c,h0,J]
theorem YN{x:AV}(h:DT x=true):Tg x:=by
 unfold DT at h;simp only[xP,decide_eq_true_eq,yD,AZ] at h
 rcases h with rfl|⟨⟨⟨a,b⟩,c⟩,_⟩
 .exact .inl ⟨rfl,rfl⟩
 .exact .inr ⟨a,b,c⟩
theorem A1{l:List AV}:A8 l=true↔l.length=12/\∀f,f<12->DT (Sc l f)=true:=by
 simp only[A8,yD,yr,decide_eq_true_eq];constructor
 .rintro⟨J,O⟩
  exact⟨O,λf hf=>J _ (Di (by omega))⟩
 .rintro⟨J,O⟩
  refine⟨λr hr=>?_,J⟩;obtain⟨i,A,rfl⟩:=IM (d:=AV.zero) hr;exact O i (by omega)
theorem MN{Xy:List AV}{kind:Int}{Tj:List ByteArray}{w:Int}:Fp Xy f kind Tj w=true↔(Bn w=true/\BM w≠f/\(Sc Xy (BM w)).k=kind - 1/\CQ Tj (Sc Xy (BM w)).g=true)∨(Bn w=false/\w=0):=by unfold Fp;cases h:Bn w<;>simp[and_assoc]
theorem MM{m:List (List Int)}{Xy:List AV}{f:Nat}{kind:Int}{Tj:List ByteArray}:IU m Xy f kind Tj=true↔∀w∈AH m f,Fp Xy f kind Tj w=true:=by simp[IU,yr]
theorem Sk{V3:List Em}(h:V3.length=3){p:Em->Bool}:V3.all p=true↔∀e,e<3->p (AF V3 e)=true:=by
 rw[yr];constructor
 .intro hp e he
  exact hp _ (Di (by omega))
 .intro hp x N
  obtain⟨i,A,rfl⟩:=IM (d:=⟨[],0⟩) N;exact hp i (by omega)
theorem EZ{k:AN}:Cr k=true↔DP k:=by
 unfold Cr;simp only[yD,MS];constructor
 .rintro⟨⟨⟨⟨⟨⟨J,O⟩,h3⟩,h4⟩,h5⟩,h6⟩,h7⟩
  unfold JL at h4;simp only[yD,decide_eq_true_eq] at h4;obtain⟨h4,hl⟩:=h4;rw[Sk hl] at h4;rw[A1] at O;have hE:∀e,e<3->BS (BB k e)=true/\(Ab k e= -1∨(0<=Ab k e/\Ab k e<=11)/\A2 k (Ab k e).toNat=3)/\BI k.Xy (Ba k.mem (Ab k e)) (BB k e)=true:=by intro e he;have:=h4 e he;unfold EI at this;simp only[yD,xP,decide_eq_true_eq,AZ] at this;exact⟨this.1.1,this.1.2,this.2⟩
  refine⟨J,O.1,λf hf=>YN (O.2 f hf),h3,hl,λe he=>(hE e he).1,λe he=>?_,λe he=>GW.1 (hE e he).2.2,λf hf K w hw=>?_,λf hf=>?_,λx N=>yr.1 h7 x N⟩
  .rcases(hE e he).2.1 with a|⟨⟨a,b⟩,c⟩
   .exact .inl a
   .exact .inr ⟨a,b,c⟩
  .have:=h5 f hf
   unfold Dp at this;unfold A2 at K;rw[K,Bool.not_true,Bool.false_or,MM] at this
   rcases MN.1 (this w hw) with⟨a,b,c,_⟩|⟨_,a⟩
   .exact .inl ⟨a,b,c⟩
   .exact .inr a
  .have:=h6 f hf
   simpa[IB] using this
 .intro h
  refine⟨⟨⟨⟨⟨⟨h.mem,?_⟩,h.V0⟩,?_⟩,λf hf=>?_⟩,λf hf=>?_⟩,yr.2 h.trans⟩
  .rw[A1]
   refine⟨h.len,λf hf=>YO (h.inf f hf) (h.zb hf).1 (by have:=(h.zb hf).2;omega) (λh0=>h.zD hf h0)⟩
  .unfold JL
   simp only[yD,decide_eq_true_eq];refine⟨?_,h.zY⟩;rw[Sk h.zY];intro e he;unfold EI;simp only[yD,xP,decide_eq_true_eq,AZ];refine⟨⟨h.Tj e he,?_⟩,GW.2 (h.allow e he)⟩
   rcases h.roots e he with a|⟨a,b,c⟩
   .exact .inl a
   .exact .inr ⟨⟨a,b⟩,c⟩
  .unfold Dp
   simp only[xP,uj];cases K:Bi (Sc k.Xy f).k
   .exact .inl rfl
   .right
    rw[MM];intro w hw;rw[MN]
    rcases h.tabs f hf K w hw with⟨a,b,c⟩|rfl
    .exact .inl ⟨a,b,c,Zt _⟩
    .exact .inr ⟨rfl,rfl⟩
  .simp[IB,h.refs f hf]
theorem Hj{l:List AV}{g:Nat}{x:AV}:Sc (l.set f x) g=if g=f/\f<l.length then x else Sc l g:=Ju
theorem Fb{l:List AV}{g:Nat}{u:AV->AV}:Sc (An l f u) g=if g=f/\f<l.length then u (Sc l f) else Sc l g:=My
theorem Gk{l:List Em}{g:Nat}{u:Em->Em}:AF (An l f u) g=if g=f/\f<l.length then u (AF l f) else AF l g:=My
theorem DP.data{k:AN}(h:DP k){f:Nat}(hf:f<12)(E:A2 k f=0∨A2 k f=1){row:List Int}(cz:D8 row=true){x:AV}(N:Tg x)(iv:x.k=0∨x.k=1)(hr:x.r=(Sc k.Xy f).r)
 (eV:(x.k=A2 k f/\x.g=(Sc k.Xy f).g)∨(Sc k.Xy f).r=0){V0:List Ad}(z:Bd V0=true)(K:∀y∈V0,Cs k y=true):DP ⟨k.mem.set f row,k.Xy.set f x,k.V3,V0⟩:=by
 have hX:=(Ah.1 h.mem).1;have b5:∀g,g≠f->AH (k.mem.set f row) g=AH k.mem g:=λg Z=>by rw[Oh,if_neg (by rintro⟨a,_⟩;exact Z a)]
 have bO:∀g,g≠f->Sc (k.Xy.set f x) g=Sc k.Xy g:=λg Z=>by rw[Hj,if_neg (by rintro⟨a,_⟩;exact Z a)]
 have cn:Sc (k.Xy.set f x) f=x:=by rw[Hj,if_pos ⟨rfl,by rw[h.len];exact hf⟩]
 have c8:∀t,Bi (Sc (k.Xy.set f x) t).k=true->t≠f/\Bi (A2 k t)=true:=by
  intro t K
  by_cases e:t=f
  .subst e
   rw[cn,IR] at K;omega
  .rw[bO t e] at K
   exact⟨e,K⟩
 have gD:∀t,Bi (A2 k t)=true->t≠f:=by intro t K e;subst e;rw[IR] at K;omega
 have cm:∀t g,t<12->Bi (A2 k t)=true->g∈Go.Proofs.YtaopbdankjkfpaaGreatDoor.named (AH k.mem t)->(Sc (k.Xy.set f x) g).k=A2 k g/\(Sc (k.Xy.set f x) g).g=(Sc k.Xy g).g:=by
  intro t g K cc Z
  by_cases e:g=f
  .subst e
   rw[cn]
   rcases eV with V|h0
   .exact V
   .exact absurd Z ((h.unused hf h0).1 t K cc)
  .rw[bO g e];exact⟨rfl,rfl⟩
 have bN:∀e,e<3->0<=Ab k e->(Ab k e).toNat≠f:=λe he h0=>gD _ (by rw[(h.zJ he h0).2];rfl)
 have e8:∀e,e<3->0<=Ab k e->∀t,t∈Go.Proofs.YtaopbdankjkfpaaGreatDoor.named (AH k.mem (Ab k e).toNat)->t≠f:=λe he h0 t K=>gD _ (by rw[(h.zV he h0 K).2];rfl)
 have eu:∀e,e<3->∀g,g∈Ba (k.mem.set f row) (Ab k e)↔g∈Ba k.mem (Ab k e):=λe he=>PK (λh0=>b5 _ (bN e he h0)) (λh0 t K=>b5 _ (e8 e he h0 t K))
 refine⟨Sw h.mem cz,by simp[h.len],λg Z=>?_,z,h.zY,h.Tj,λe he=>?_,λe he g Z=>?_,λt K cc w hw=>?_,λg Z=>?_,λy hy=>?_⟩
 .by_cases e:g=f
  .subst e;rw[cn];exact N
  .rw[bO g e];exact h.inf g Z
 .rcases h.roots e he with a|⟨a,b,c⟩
  .exact .inl a
  .refine .inr ⟨a,b,?_⟩
   show(Sc (k.Xy.set f x) (Ab k e).toNat).k=3
   rw[bO _ (bN e he a)];exact c
 .have cu:=(eu e he g).1 Z
  have hm:=h.allow e he g cu
  show CQ (BB k e) (Sc (k.Xy.set f x) g).g=true
  obtain⟨h0,J⟩:=Dl.1 cu;have eW:=h.zJ he h0;have e:(Sc (k.Xy.set f x) g).g=(Sc k.Xy g).g:=by
   rcases J with rfl|J|⟨t,J,O⟩
   .rw[bO _ (bN e he h0)]
   .exact(cm _ g eW.1 (by rw[eW.2];rfl) J).2
   .have fv:=h.zV he h0 J
    exact(cm _ g fv.1 (by rw[fv.2];rfl) O).2
  rw[e];exact hm
 .obtain⟨a7,d9⟩:=c8 t cc
  rw[show AH (k.mem.set f row) t=AH k.mem t from b5 t a7] at hw
  rcases h.tabs t K d9 w hw with⟨a,b,c⟩|rfl
  .refine .inl ⟨a,b,?_⟩
   have:=(cm t (BM w) K d9 (Fk.2 ⟨w,hw,a,rfl⟩)).1
   show(Sc (k.Xy.set f x) (BM w)).k=(Sc (k.Xy.set f x) t).k - 1
   rw[this,bO t a7];exact c
  .exact .inr rfl
 .have cT:countP (k.mem.set f row) (k.Xy.set f x) g=countP k.mem k.Xy g:=by
   rw[En,En];refine Kl λt K=>?_
   unfold MJ
   by_cases e:t=f
   .subst e
    rw[cn,if_neg (by rw[IR];omega),if_neg (by rw[IR];unfold A2 at E;omega)]
   .rw[bO t e,b5 t e]
  show(Sc (k.Xy.set f x) g).r=(countP (k.mem.set f row) (k.Xy.set f x) g:Int)+(Ei k.V3 g:Int)
  rw[cT,<-h.refs g Z]
  by_cases e:g=f
  .subst e;rw[cn,hr]
  .rw[bO g e]
 .have J:=K y hy
  have ei:=(Ek.1 z).1 y hy;unfold Bu at ei;simp only[yD,AZ] at ei;have he:y.e.toNat<3:=by omega
  unfold Cs at J ⊢;simp only[yD,decide_eq_true_eq] at J ⊢;refine⟨J.1,?_⟩;have hw:=Rc (m:=k.mem) (m':=k.mem.set f row) (root:=(Ab k y.e.toNat).toNat) (a:=4*y.p.toNat) (b5 _ (bN _ he J.1)) (λt K=>b5 _ (e8 _ he J.1 t K));exact hw.trans J.2
theorem Jk{Xy:List AV}{fs:List Nat}{n:Int}:(BK Xy fs n).length=Xy.length:=by
 unfold BK
 induction fs generalizing Xy with
 |nil=>rfl
 |cons f fs ih=>rw[yK,ih,Cz]
theorem Np{Xy:List AV}{fs:List Nat}{n:Int}{g:Nat}(Z:g<Xy.length):Sc (BK Xy fs n) g= {Sc Xy g with r:=(Sc Xy g).r+n*(fs.count g:Int)}:=by
 unfold BK
 induction fs generalizing Xy with
 |nil=>simp
 |cons f fs ih=>
  rw[yK,ih (by rw[Cz];exact Z),Fb,si]
  by_cases e:g=f
  .subst e
   rw[if_pos ⟨rfl,Z⟩];simp[Ic];rw[Int.mul_add];omega
  .rw[if_neg (by rintro⟨a,_⟩;exact e a)]
   have e':¬f=g:=λa=>e a.symm
   simp[e']
theorem DP.retype{k:AN}(h:DP k){f:Nat}(hf:f<12)(h0:(Sc k.Xy f).r=0){kind n:Int}(fP:1<=kind)(ib:kind<=3)(ie:A2 k f≠0)
 (hn:(n=1/\Bi (A2 k f)=false/\Bi kind=true)∨(n= -1/\Bi (A2 k f)=true/\Bi kind=false))
 (ej:Bi kind=true->∀w∈AH k.mem f,(Bn w=true/\BM w≠f/\A2 k (BM w)=kind - 1)∨w=0):
 DP {k with Xy:=An (BK k.Xy (Go.Proofs.YtaopbdankjkfpaaGreatDoor.named (AH k.mem f)) n) f (DU kind)}:=by
 obtain⟨u1,u2⟩:=h.unused hf h0;have hl:(BK k.Xy (Go.Proofs.YtaopbdankjkfpaaGreatDoor.named (AH k.mem f)) n).length=12:=by rw[Jk,h.len]
 have bA:∀g,g<12->Sc (An (BK k.Xy (Go.Proofs.YtaopbdankjkfpaaGreatDoor.named (AH k.mem f)) n) f (DU kind)) g= {(Sc k.Xy g) with k:=if g=f then kind else A2 k g,r:=(Sc k.Xy g).r+n*((Go.Proofs.YtaopbdankjkfpaaGreatDoor.named (AH k.mem f)).count g:Int)}:=by
  intro g Z;rw[Fb,hl]
  by_cases e:g=f
  .subst e
   rw[if_pos ⟨rfl,hf⟩,Np (by rw[h.len];exact Z)];simp[DU]
  .rw[if_neg (by rintro⟨a,_⟩;exact e a),Np (by rw[h.len];exact Z)]
   simp[e,A2]
 have gx:f∉Go.Proofs.YtaopbdankjkfpaaGreatDoor.named (AH k.mem f):=by
  intro hm
  rcases hn with⟨_,_,c⟩|⟨_,b,_⟩
  .obtain⟨w,hw,J,O⟩:=Fk.1 hm
   rcases ej c w hw with⟨_,a,_⟩|rfl
   .exact a O
   .simp[Bn] at J
  .exact u1 f hf b hm
 refine⟨h.mem,by rw[Cz];exact hl,λg Z=>?_,h.V0,h.zY,h.Tj,λe he=>?_,λe he g Z=>?_,λt K cc w hw=>?_,λg Z=>?_,h.trans⟩
 .show Tg (Sc (An _ f (DU kind)) g)
  rw[bA g Z]
  by_cases e:g=f
  .subst e
   rcases h.inf g Z with⟨a,b⟩|⟨a,b,c⟩
   .exact absurd a ie
   .right;simp;exact⟨fP,ib,c⟩
  .simp only[e,if_false]
   exact h.inf g Z
 .rcases h.roots e he with a|⟨a,b,c⟩
  .exact .inl a
  .refine .inr ⟨a,b,?_⟩
   show(Sc (An _ f (DU kind)) (Ab k e).toNat).k=3
   rw[bA _ (by omega)];have:(Ab k e).toNat≠f:=λe'=>u2 e he (by omega)
   simp only[this,if_false];exact c
 .show CQ (BB k e) (Sc (An _ f (DU kind)) g).g=true
  have:=h.allow e he g Z;rw[bA _ (h.zH he Z).1];exact this
 .have bL:Bi (Sc (An (BK k.Xy (Go.Proofs.YtaopbdankjkfpaaGreatDoor.named (AH k.mem f)) n) f (DU kind)) t).k=true:=cc
  rw[bA t K] at bL
  show(Bn w=true/\BM w≠t/\(Sc (An (BK k.Xy (Go.Proofs.YtaopbdankjkfpaaGreatDoor.named (AH k.mem f)) n) f (DU kind)) (BM w)).k=(Sc (An (BK k.Xy (Go.Proofs.YtaopbdankjkfpaaGreatDoor.named (AH k.mem f)) n) f (DU kind)) t).k - 1)∨w=0
  rw[bA t K]
  by_cases e:t=f
  .subst e
   simp only[if_true] at bL
   rcases ej bL w hw with⟨a,b,c⟩|rfl
   .refine .inl ⟨a,b,?_⟩
    rw[bA _ (ET a)];simp only[if_true,b,if_false];exact c
   .exact .inr rfl
  .simp only[e,if_false] at bL
   rcases h.tabs t K bL w hw with⟨a,b,c⟩|rfl
   .refine .inl ⟨a,b,?_⟩
    rw[bA _ (ET a)];have:BM w≠f:=λe'=>u1 t K bL (Fk.2 ⟨w,hw,a,e'⟩)
    simp only[this,if_false,e];exact c
   .exact .inr rfl
 .show(Sc (An (BK k.Xy (Go.Proofs.YtaopbdankjkfpaaGreatDoor.named (AH k.mem f)) n) f (DU kind)) g).r=(countP k.mem (An (BK k.Xy (Go.Proofs.YtaopbdankjkfpaaGreatDoor.named (AH k.mem f)) n) f (DU kind)) g:Int)+(Ei k.V3 g:Int)
  rw[bA g Z];have b9:=MV (F:=MJ k.mem (An (BK k.Xy (Go.Proofs.YtaopbdankjkfpaaGreatDoor.named (AH k.mem f)) n) f (DU kind)) g) (G:=MJ k.mem k.Xy g) hf (λt K a7=>by unfold MJ;rw[bA t K];simp only[a7,if_false];rfl)
  rw[<-En,<-En] at b9;have c1:MJ k.mem (An (BK k.Xy (Go.Proofs.YtaopbdankjkfpaaGreatDoor.named (AH k.mem f)) n) f (DU kind)) g f=if Bi kind then(Go.Proofs.YtaopbdankjkfpaaGreatDoor.named (AH k.mem f)).count g else 0:=by unfold MJ;rw[bA f hf];simp
  have c2:MJ k.mem k.Xy g f=if Bi (A2 k f) then(Go.Proofs.YtaopbdankjkfpaaGreatDoor.named (AH k.mem f)).count g else 0:=rfl
  rw[c1,c2] at b9;have:=h.refs g Z
  rcases hn with⟨rfl,a,b⟩|⟨rfl,a,b⟩
  .rw[a,b] at b9
   simp at b9 ⊢;omega
  .rw[a,b] at b9
   simp at b9 ⊢;omega
theorem GZ{Xy:List AV}(h:¬Ar Xy<0):(Ar Xy).toNat<Xy.length/\(Sc Xy (Ar Xy).toNat).k=0/\0<=Ar Xy:=by
 unfold Ar at h ⊢
 split
 .rename_i ha
  obtain⟨x,N,V⟩:=Ks.1 ha;have hl:Xy.findIdx (λx=>decide (x.k=0))<Xy.length:=vQ.2 ⟨x,N,V⟩;refine⟨by simpa using hl,?_,by omega⟩;have:=vF (w:=hl);simpa[Sc,hl] using this
 .rename_i ha
  rw[if_neg ha] at h;omega
theorem Nu{α:Type}{l:List α}{i:Nat}{d:α}:l.set i (l.getD i d)=l:=by
 apply sG;intro j;rw[we]
 by_cases h:i=j
 .subst h
  by_cases O:i<l.length
  .simp[O]
  .simp[O]
 .simp[h]
theorem aL{k:AN}(h:DP k){c:AU}:DP (JU k c).1:=by
 unfold JU
 split
 .exact h
 .rename_i hn
  split
  .exact h
  .split
   .exact h
   .rename_i hf
    obtain⟨a,b,_⟩:=GZ hf;rw[h.len] at a;have hr:=h.zD a b;refine h.data (x:=⟨1,c.nm,0⟩) a (.inl b) (by decide) (.inr ⟨by show(1:Int)<=1;omega,by show(1:Int)<=3;omega,by simpa using hn⟩) (.inr rfl) hr.symm (.inr hr) h.V0 h.trans
theorem Zb{k:AN}(h:DP k){c:AU}(ha:c.a.toNat<12):DP (Kb k c).1:=by
 unfold Kb
 split
 .exact h
 .rename_i E
  split
  .exact h
  .rename_i hr
   have hr:(Sc k.Xy c.a.toNat).r=0:=by omega
   have:=h.data (x:=AV.zero) ha (.inr (by unfold A2;omega)) ((Ah.1 h.mem).2 _ ha) (.inl ⟨rfl,rfl⟩) (.inl rfl) hr.symm (.inr hr) h.V0 h.trans;rw[show k.mem.set c.a.toNat (AH k.mem c.a.toNat)=k.mem from Nu] at this;exact this
theorem Xl{k:AN}(h:DP k){f i:Nat}{w:Int}(hf:f<12)(E:A2 k f=1)(hw:EB w=true){V0:List Ad}(z:Bd V0=true)(K:∀y∈V0,Cs k y=true):DP {k with mem:=Ci k.mem f i w,V0:=V0}:=by have:=h.data (x:=Sc k.Xy f) hf (.inr E) (TP (i:=i) (w:=w) ((Ah.1 h.mem).2 _ hf) hw) (h.inf f hf) (.inr E) rfl (.inl ⟨rfl,rfl⟩) z K;rw[show k.Xy.set f (Sc k.Xy f)=k.Xy from Nu] at this;rw[Nt];exact this
theorem Z9{k:AN}(h:DP k){c:AU}(ha:c.a.toNat<12):DP (Kg k c).1:=by
 unfold Kg
 split
 .exact h
 .rename_i hn
  simp only[not_or] at hn;obtain⟨J,O,h3⟩:=hn;exact Xl h ha (by unfold A2;omega) (by simpa using h3) h.V0 h.trans
theorem TF{k:AN}(h:DP k){r:List AV×Int}(hr:r.2=0->DP {k with Xy:=r.1}):DP (Do k r).1:=by
 unfold Do
 split
 .exact hr ‹_›
 .exact h
theorem bQ{k:AN}(h:DP k){f:Nat}(hf:f<12){kind:Int}{Tj:List ByteArray}(E:Bi kind=true):(F7 k.mem k.Xy f kind Tj).2=0->DP {k with Xy:=(F7 k.mem k.Xy f kind Tj).1}:=by
 unfold F7
 split
 .intro h;simp at h
 .rename_i hn
  simp only[not_or,uB] at hn
  split
  .intro h;simp at h
  .rename_i Z
   have Z:IU k.mem k.Xy f kind Tj=true:=by simpa using Z
   split
   .intro _
    have ia:=IR.1 E;refine h.retype hf hn.2 (by omega) (by omega) (by unfold A2;omega) (.inl ⟨rfl,?_,E⟩) (λ_ w hw=>?_)
    .unfold A2;rw[hn.1];rfl
    .rcases MN.1 (MM.1 Z w hw) with⟨a,b,c,_⟩|⟨_,a⟩
     .exact .inl ⟨a,b,c⟩
     .exact .inr a
   .intro h;simp at h
theorem Y2{k:AN}(h:DP k){f:Nat}(hf:f<12):(Cy k.mem k.Xy f).2=0->DP {k with Xy:=(Cy k.mem k.Xy f).1}:=by
 unfold Cy
 split
 .intro h;simp at h
 .rename_i hn
  simp only[not_or,uB,wW] at hn
  split
  .intro _
   have ia:=IR.1 hn.1;exact h.retype hf hn.2 (by omega) (by omega) (by unfold A2;omega) (.inr ⟨rfl,hn.1,rfl⟩) (λhh=>by simp[Bi] at hh)
  .intro h;simp at h
theorem Co{Xy:List AV}{w n:Int}:(A7 Xy w n).length=Xy.length:=by
 unfold A7
 split
 .exact Cz
 .rfl
theorem Fl{Xy:List AV}{w n:Int}{g:Nat}(hl:Xy.length=12):Sc (A7 Xy w n) g= {Sc Xy g with r:=(Sc Xy g).r+n*(ER (Du g w):Int)}:=by
 unfold A7
 split
 .rename_i Z
  rw[Fb]
  by_cases e:g=BM w
  .subst e
   rw[if_pos ⟨rfl,by rw[hl];exact ET Z⟩];simp[Ic,Du,Z,ER]
  .have e':¬BM w=g:=λx=>e x.symm
   rw[if_neg (by rintro⟨a,_⟩;exact e a)];simp[Du,Z,ER,e']
 .rename_i Z
  simp[Du,Z,ER]
theorem Ol{k:AN}{a e:Nat}:e∈F9 k a↔e<3/\a∈Ba k.mem (Ab k e):=by simp[F9,Ab]
theorem bV{k:AN}(h:DP k){c:AU}(ha:c.a.toNat<12)(iw:0<=c.c->c.c<=9999∨Bn c.c=true∨c.c=0->EB c.c=true):DP (IF k c).1:=by
 unfold IF
 split
 .exact h
 rename_i hn
 simp only[not_or,wW] at hn;obtain⟨J,O,h3⟩:=hn;unfold D6 at h3
 split
 .exact h
 rename_i bK
 have bK:((F9 k c.a.toNat).all λe=>BI k.Xy (Da k c.c) (AF k.V3 e).Tj)=true:=by simpa using bK
 split
 .exact h
 rename_i hmay
 generalize hfd:c.a.toNat=f at*;have Y:c.b.toNat<4:=by have:=AZ.1 O;omega
 generalize dx:c.b.toNat=b at*;generalize hwd:c.c=w at*;have hl:=h.len;have hX:=(Ah.1 h.mem).1;have iy:=h.row ha;have fF:Bn w=true->A2 k (BM w)=A2 k f - 1:=by intro Z;rw[if_pos Z] at h3;simpa[A2] using h3
 have gr:Bn w=false->w=0:=by intro Z;rw[if_neg (by simp[Z])] at h3;simpa using h3
 have iA:=IR.1 J;have eR:EB w=true:=by
  cases Z:Bn w
  .rw[gr Z];rfl
  .have cu:=Z
   simp only[Bn,yD,decide_eq_true_eq] at cu;refine AZ.2 ⟨by omega,by omega⟩
 have fE:Bn w=true->BM w≠f:=by intro Z e;have:=fF Z;rw[e] at this;omega
 have bA:∀g,Sc (A7 (A7 k.Xy (Au k.mem f b) (-1)) w 1) g= {Sc k.Xy g with r:=(Sc k.Xy g).r+(-1)*(ER (Du g (Au k.mem f b)):Int)+1*(ER (Du g w):Int)}:=by intro g;rw[Fl (by rw[Co];exact hl),Fl hl]
 have b7:∀g,(Sc (A7 (A7 k.Xy (Au k.mem f b) (-1)) w 1) g).k=A2 k g:=λg=>by rw[bA];rfl
 have ey:∀g,(Sc (A7 (A7 k.Xy (Au k.mem f b) (-1)) w 1) g).g=(Sc k.Xy g).g:=λg=>by rw[bA]
 have ds:AH (Ci k.mem f b w) f=(AH k.mem f).set b w:=by rw[ID,if_pos ⟨rfl,by omega⟩]
 have cz:∀g,g≠f->AH (Ci k.mem f b w) g=AH k.mem g:=λg Z=>by rw[ID,if_neg (by rintro⟨a,_⟩;exact Z a)]
 have cN:∀t g,g∈Go.Proofs.YtaopbdankjkfpaaGreatDoor.named (AH (Ci k.mem f b w) t)->g∈Go.Proofs.YtaopbdankjkfpaaGreatDoor.named (AH k.mem t)∨(t=f/\Bn w=true/\BM w=g):=by
  intro t g Z
  by_cases e:t=f
  .subst e
   rw[ds] at Z
   rcases SG Z with a|a
   .exact .inl a
   .exact .inr ⟨rfl,a⟩
  .rw[cz t e] at Z
   exact .inl Z
 have gz:∀e,e<3->f∉Ba k.mem (Ab k e)->(0<=Ab k e->AH (Ci k.mem f b w) (Ab k e).toNat=AH k.mem (Ab k e).toNat)/\(0<=Ab k e->∀t,t∈Go.Proofs.YtaopbdankjkfpaaGreatDoor.named (AH k.mem (Ab k e).toNat)->AH (Ci k.mem f b w) t=AH k.mem t):=by
  intro e he ev;rw[Dl] at ev;refine⟨λh0=>cz _ (λe'=>ev ⟨h0,.inl e'.symm⟩),λh0 t K=>cz _ (λe'=>ev ⟨h0,.inr (.inl (e'▸K))⟩)⟩
 refine⟨?_,by rw[Co,Co];exact hl,λg Z=>?_,U0 h.V0,h.zY,h.Tj,λe he=>?_,λe he g Z=>?_,λt K cc x N=>?_,λg Z=>?_,λy hy=>?_⟩
 .show Bq (Ci k.mem f b w)=true
  rw[Nt];exact Sw h.mem (TP ((Ah.1 h.mem).2 f ha) eR)
 .show Tg (Sc (A7 (A7 k.Xy (Au k.mem f b) (-1)) w 1) g)
  rw[bA];exact h.inf g Z
 .rcases h.roots e he with x|⟨x,y,hc⟩
  .exact .inl x
  .exact .inr ⟨x,y,by show(Sc (A7 (A7 k.Xy (Au k.mem f b) (-1)) w 1) (Ab k e).toNat).k=3;rw[b7];exact hc⟩
 .show CQ (BB k e) (Sc (A7 (A7 k.Xy (Au k.mem f b) (-1)) w 1) g).g=true
  rw[ey]
  by_cases hr:f∈Ba k.mem (Ab k e)
  .have hu:∀g,g∈Da k w->CQ (BB k e) (Sc k.Xy g).g=true:=GW.1 (yr.1 bK e (Ol.2 ⟨he,hr⟩))
   have b6:∀g,Bn w=true->(BM w=g∨(Bi (A2 k (BM w))=true/\g∈Go.Proofs.YtaopbdankjkfpaaGreatDoor.named (AH k.mem (BM w))))->g∈Da k w:=by
    intro g Z hh;unfold Da;rw[if_pos Z]
    rcases hh with rfl|⟨J,O⟩
    .exact vU ..
    .unfold A2 at J
     rw[if_pos J];exact uI _ O
   obtain⟨h0,cu⟩:=Dl.1 Z
   change 0<=Ab k e at h0
   have old:∀g,(g=(Ab k e).toNat∨g∈Go.Proofs.YtaopbdankjkfpaaGreatDoor.named (AH k.mem (Ab k e).toNat)∨∃t,t∈Go.Proofs.YtaopbdankjkfpaaGreatDoor.named (AH k.mem (Ab k e).toNat)/\g∈Go.Proofs.YtaopbdankjkfpaaGreatDoor.named (AH k.mem t))->CQ (BB k e) (Sc k.Xy g).g=true:=λg hh=>h.allow e he g (Dl.2 ⟨h0,hh⟩)
   rcases cu with cu|cu|⟨t,K,cu⟩
   .exact old g (.inl cu)
   .rcases cN _ _ cu with a|⟨_,a,b⟩
    .exact old g (.inr (.inl a))
    .exact hu g (b6 g a (.inl b))
   .rcases cN _ _ cu with a|⟨_,a,b⟩
    .rcases cN _ _ K with a'|⟨er,a',b'⟩
     .exact old g (.inr (.inr ⟨t,a',a⟩))
     .have eW:=(h.zJ he h0).2
      change (Ab k e).toNat=f at er
      rw[er] at eW;refine hu g (b6 g a' (.inr ⟨?_,by rw[b'];exact a⟩));rw[fF a',eW];rfl
    .exact hu g (b6 g a (.inl b))
  .obtain⟨r0,r1⟩:=gz e he hr
   exact h.allow e he g ((PK r0 r1 g).1 Z)
 .have bL:Bi (Sc (A7 (A7 k.Xy (Au k.mem f b) (-1)) w 1) t).k=true:=cc
  rw[b7] at bL
  show(Bn x=true/\BM x≠t/\(Sc (A7 (A7 k.Xy (Au k.mem f b) (-1)) w 1) (BM x)).k=(Sc (A7 (A7 k.Xy (Au k.mem f b) (-1)) w 1) t).k - 1)∨x=0
  rw[b7,b7];have eG:x∈AH (Ci k.mem f b w) t:=N
  by_cases e:t=f
  .subst e
   rw[ds] at eG
   rcases vh eG with eG|rfl
   .exact h.tabs t K bL x eG
   .cases Z:Bn x
    .exact .inr (gr Z)
    .exact .inl ⟨rfl,fE Z,fF Z⟩
  .rw[cz t e] at eG
   exact h.tabs t K bL x eG
 .show(Sc (A7 (A7 k.Xy (Au k.mem f b) (-1)) w 1) g).r=(countP (Ci k.mem f b w) (A7 (A7 k.Xy (Au k.mem f b) (-1)) w 1) g:Int)+(Ei k.V3 g:Int)
  have b9:=MV (F:=MJ (Ci k.mem f b w) (A7 (A7 k.Xy (Au k.mem f b) (-1)) w 1) g) (G:=MJ k.mem k.Xy g) ha (λt K a7=>by unfold MJ;rw[b7,cz t a7];rfl)
  rw[<-En,<-En] at b9;have c1:MJ (Ci k.mem f b w) (A7 (A7 k.Xy (Au k.mem f b) (-1)) w 1) g f=(Go.Proofs.YtaopbdankjkfpaaGreatDoor.named ((AH k.mem f).set b w)).count g:=by unfold MJ;rw[b7,ds];exact if_pos J
  have c2:MJ k.mem k.Xy g f=(Go.Proofs.YtaopbdankjkfpaaGreatDoor.named (AH k.mem f)).count g:=if_pos J;have c3:(Go.Proofs.YtaopbdankjkfpaaGreatDoor.named ((AH k.mem f).set b w)).count g+ER (Du g (Au k.mem f b))=(Go.Proofs.YtaopbdankjkfpaaGreatDoor.named (AH k.mem f)).count g+ER (Du g w):=Yd (show b<(AH k.mem f).length by omega);rw[c1,c2] at b9;have:=h.refs g Z;rw[bA];simp only;omega
 .obtain⟨eQ,gq⟩:=YB.1 hy
  have h4:=h.trans y eQ;have ei:=(Ek.1 h.V0).1 y eQ;unfold Bu at ei;simp only[yD,AZ] at ei;have he:y.e.toNat<3:=by omega
  have ev:f∉Ba k.mem (Ab k y.e.toNat):=λhr=>gq y.e.toNat (Ol.2 ⟨he,hr⟩) (by omega)
  obtain⟨r0,r1⟩:=gz _ he ev;unfold Cs at h4 ⊢;simp only[yD,decide_eq_true_eq] at h4 ⊢;exact⟨h4.1,(Rc (a:=4*y.p.toNat) (r0 h4.1) (r1 h4.1)).trans h4.2⟩
def Ge(Xy:List AV)(old new:Int):List AV:=
 if 0<=new then An (if 0<=old then An Xy old.toNat (Ic (-1)) else Xy) new.toNat (Ic 1) else(if 0<=old then An Xy old.toNat (Ic (-1)) else Xy)
theorem XD{Xy:List AV}{old new:Int}:(Ge Xy old new).length=Xy.length:=by
 unfold Ge
 split<;>split<;>simp[Cz]
theorem TN{Xy:List AV}{old new:Int}{g:Nat}(hl:Xy.length=12)(Z:g<12):Sc (Ge Xy old new) g= {Sc Xy g with r:=(Sc Xy g).r - (ER (decide (old=(g:Int))):Int)+(ER (decide (new=(g:Int))):Int)}:=by
 have J:Sc (if 0<=old then An Xy old.toNat (Ic (-1)) else Xy) g= {Sc Xy g with r:=(Sc Xy g).r - (ER (decide (old=(g:Int))):Int)}:=by
  split
  .rw[Fb]
   by_cases e:g=old.toNat
   .rw[if_pos ⟨e,by omega⟩,<-e]
    have:old=(g:Int):=by omega
    simp[Ic,ER,this];omega
   .rw[if_neg (by rintro⟨a,_⟩;exact e a)]
    have:¬old=(g:Int):=by omega
    simp[ER,this]
  .have:¬old=(g:Int):=by omega
   simp[ER,this]
 have O:(if 0<=old then An Xy old.toNat (Ic (-1)) else Xy).length=12:=by split<;>simp[Cz,hl]
 unfold Ge
 split
 .rw[Fb,O]
  by_cases e:g=new.toNat
  .rw[if_pos ⟨e,by omega⟩,<-e,J]
   have:new=(g:Int):=by omega
   simp[Ic,ER,this]
  .rw[if_neg (by rintro⟨a,_⟩;exact e a),J]
   have:¬new=(g:Int):=by omega
   simp[ER,this]
 .rw[J]
  have:¬new=(g:Int):=by omega
  simp[ER,this]
theorem Yt{V3:List Em}(hl:V3.length=3){e g:Nat}(he:e<3){n:Int}:Ei (An V3 e (Dz n)) g+ER (decide ((AF V3 e).root=(g:Int)))=Ei V3 g+ER (decide (n=(g:Int))):=by
 rw[IC (by rw[Cz];exact hl),IC hl];simp only[Gk,hl];have:e=0∨e=1∨e=2:=by omega
 rcases this with rfl|rfl|rfl<;>simp[Dz]<;>omega
theorem XE{V3:List Em}(hl:V3.length=3){e g:Nat}{ss:List ByteArray}:Ei (An V3 e (BQ ss)) g=Ei V3 g:=by
 rw[IC (by rw[Cz];exact hl),IC hl];simp only[Gk]
 by_cases h0:0=e/\e<V3.length<;>by_cases J:1=e/\e<V3.length<;>by_cases O:2=e/\e<V3.length<;>simp only[h0,J,O,if_true,if_false,BQ]<;>(try (obtain⟨rfl,_⟩:=h0))<;>(try (obtain⟨rfl,_⟩:=J))<;>(try (obtain⟨rfl,_⟩:=O))<;>simp
theorem aD{k:AN}(h:DP k){c:AU}(he:0<=c.e/\c.e<=2):DP (LP k c).1:=by
 unfold LP
 split
 .exact h
 rename_i J
 split
 .exact h
 rename_i O
 have O:BI k.Xy (Ba k.mem c.a) (BB k c.e.toNat)=true:=by simpa[BB] using O
 rw[GW] at O;have fl:c.e.toNat<3:=by omega
 generalize hed:c.e.toNat=e at*;generalize c.a=n at*;have J:n= -1∨(0<=n/\n<=11/\A2 k n.toNat=3):=by
  by_cases hn:n= -1
  .exact .inl hn
  .right
   have J:¬(Bh n 0 11=false∨(Sc k.Xy n.toNat).k≠3):=λhh=>J ⟨hn,hh⟩
   simp only[not_or,wW,uB] at J;have:=AZ.1 J.1;exact⟨this.1,this.2,J.2⟩
 show DP ⟨k.mem,Ge k.Xy (Ab k e) n,An k.V3 e (Dz n),GI k.V0 c.e⟩
 have bA:=λg (Z:g<12)=>TN (Xy:=k.Xy) (old:=Ab k e) (new:=n) (g:=g) h.len Z
 have cq:∀j,AF (An k.V3 e (Dz n)) j=if j=e then⟨BB k e,n⟩ else AF k.V3 j:=by
  intro j;rw[Gk,h.zY]
  by_cases X:j=e
  .rw[if_pos ⟨X,fl⟩,if_pos X];rfl
  .rw[if_neg (by rintro⟨a,_⟩;exact X a),if_neg X]
 refine⟨h.mem,by rw[XD];exact h.len,λg Z=>?_,Uz h.V0,by rw[Cz];exact h.zY,λj X=>?_,λj X=>?_,λj X g Z=>?_,λt K cc x N=>?_,λg Z=>?_,λy hy=>?_⟩
 .show Tg (Sc (Ge _ _ _) g)
  rw[bA g Z];exact h.inf g Z
 .show BS (AF (An k.V3 e (Dz n)) j).Tj=true
  rw[cq]
  split
  .exact h.Tj e fl
  .exact h.Tj j X
 .show(AF (An k.V3 e (Dz n)) j).root= -1∨(0<=(AF (An k.V3 e (Dz n)) j).root/\(AF (An k.V3 e (Dz n)) j).root<=11/\(Sc (Ge k.Xy (Ab k e) n) (AF (An k.V3 e (Dz n)) j).root.toNat).k=3)
  rw[cq]
  split
  .rcases J with J|⟨a,b,d⟩
   .exact .inl J
   .refine .inr ⟨a,b,?_⟩
    rw[bA _ (by simp;omega)];exact d
  .rcases h.roots j X with x|⟨x,y,hc⟩
   .exact .inl x
   .refine .inr ⟨x,y,?_⟩
    have N:(AF k.V3 j).root=Ab k j:=rfl;rw[N,bA _ (by omega)];exact hc
 .have dn:g∈Ba k.mem (AF (An k.V3 e (Dz n)) j).root:=Z
  show CQ (AF (An k.V3 e (Dz n)) j).Tj (Sc (Ge k.Xy (Ab k e) n) g).g=true
  rw[cq] at dn ⊢
  by_cases dv:j=e
  .simp only[dv,if_true] at dn ⊢
   have fW:g<12:=by
    obtain⟨h0,hh⟩:=Dl.1 dn
    rcases hh with rfl|hh|⟨t,_,hh⟩
    .rcases J with J|J<;>omega
    .exact Fj hh
    .exact Fj hh
   rw[bA g fW];exact O g dn
  .simp only[dv,if_false] at dn ⊢
   rw[bA g (h.zH X dn).1];exact h.allow j X g dn
 .have bL:Bi (Sc (Ge k.Xy (Ab k e) n) t).k=true:=cc
  rw[bA t K] at bL
  show(Bn x=true/\BM x≠t/\(Sc (Ge k.Xy (Ab k e) n) (BM x)).k=(Sc (Ge k.Xy (Ab k e) n) t).k - 1)∨x=0
  rcases h.tabs t K bL x N with⟨a,b,d⟩|rfl
  .refine .inl ⟨a,b,?_⟩
   rw[bA t K,bA _ (ET a)];exact d
  .exact .inr rfl
 .show(Sc (Ge k.Xy (Ab k e) n) g).r=(countP k.mem (Ge k.Xy (Ab k e) n) g:Int)+(Ei (An k.V3 e (Dz n)) g:Int)
  have z:countP k.mem (Ge k.Xy (Ab k e) n) g=countP k.mem k.Xy g:=by
   rw[En,En];refine Kl λt K=>?_
   unfold MJ;rw[bA t K]
  have hr:=Yt (g:=g) h.zY fl (n:=n);have:=h.refs g Z;rw[z,bA g Z];have e':(AF k.V3 e).root=Ab k e:=rfl;rw[e'] at hr;simp only;omega
 .obtain⟨eQ,gq⟩:=Si.1 hy
  have h4:=h.trans y eQ;have ei:=(Ek.1 h.V0).1 y eQ;unfold Bu at ei;simp only[yD,AZ] at ei;have a7:y.e.toNat≠e:=by omega
  unfold Cs at h4 ⊢;rw[show AF (AN.V3 ⟨k.mem,Ge k.Xy (Ab k e) n,An k.V3 e (Dz n),GI k.V0 c.e⟩) y.e.toNat=AF k.V3 y.e.toNat from by show AF (An k.V3 e (Dz n)) y.e.toNat=_;rw[cq,if_neg a7]];exact h4
theorem DP.zu{k:AN}(h:DP k){e:Nat}(he:e<3){ss:List ByteArray}(V:BS ss=true)(ha:∀f,f∈Ba k.mem (Ab k e)->CQ ss (Sc k.Xy f).g=true):DP {k with V3:=An k.V3 e (BQ ss)}:=by
 have cq:∀j,AF (An k.V3 e (BQ ss)) j=if j=e then⟨ss,Ab k e⟩ else AF k.V3 j:=by
  intro j;rw[Gk,h.zY]
  by_cases X:j=e
  .rw[if_pos ⟨X,he⟩,if_pos X];rfl
  .rw[if_neg (by rintro⟨a,_⟩;exact X a),if_neg X]
 have bN:∀j,(AF (An k.V3 e (BQ ss)) j).root=Ab k j:=by
  intro j;rw[cq]
  split
  .rename_i X;rw[X]
  .rfl
 refine⟨h.mem,h.len,h.inf,h.V0,by rw[Cz];exact h.zY,λj X=>?_,λj X=>?_,λj X g Z=>?_,h.tabs,λg Z=>?_,λy hy=>?_⟩
 .show BS (AF (An k.V3 e (BQ ss)) j).Tj=true
  rw[cq]
  split
  .exact V
  .exact h.Tj j X
 .show(AF (An k.V3 e (BQ ss)) j).root= -1∨(0<=(AF (An k.V3 e (BQ ss)) j).root/\(AF (An k.V3 e (BQ ss)) j).root<=11/\(Sc k.Xy (AF (An k.V3 e (BQ ss)) j).root.toNat).k=3)
  rw[bN];exact h.roots j X
 .have dn:g∈Ba k.mem (AF (An k.V3 e (BQ ss)) j).root:=Z
  show CQ (AF (An k.V3 e (BQ ss)) j).Tj (Sc k.Xy g).g=true
  rw[bN] at dn;rw[cq]
  split
  .rename_i dv
   rw[dv] at dn;exact ha g dn
  .exact h.allow j X g dn
 .show(Sc k.Xy g).r=(countP k.mem k.Xy g:Int)+(Ei (An k.V3 e (BQ ss)) g:Int)
  rw[XE h.zY];exact h.refs g Z
 .have h4:=h.trans y hy
  unfold Cs at h4 ⊢;rw[show(AF (AN.V3 {k with V3:=An k.V3 e (BQ ss)}) y.e.toNat).root=(AF k.V3 y.e.toNat).root from bN _];exact h4
theorem YM{k:AN}(h:DP k){c:AU}:DP (Fa k c).1:=by
 unfold Fa
 split
 .exact h
 rename_i J
 simp only[not_or,wW] at J;have:=AZ.1 J.1
 split
 .exact h
 split
 .exact h
 exact h.zu (by omega) (ZK (h.Tj _ (by omega)) J.2) (λf hf=>Yb (λs V=>ZJ V) (h.allow _ (by omega) f hf))
theorem XA{k:AN}(h:DP k){c:AU}:DP (EC k c).1:=by
 unfold EC
 split
 .exact h
 rename_i J
 simp only[not_or,wW] at J;have:=AZ.1 J.1
 split
 .exact h
 split
 .exact h
 rename_i h3
 have h3:=GW.1 (show BI k.Xy (Ba k.mem (Ab k c.a.toNat)) (Bc (AF k.V3 c.a.toNat).Tj c.nm)=true by simpa[Ab] using h3);exact h.zu (by omega) (YC (h.Tj _ (by omega))) h3
theorem ba{k:AN}(h:DP k){c:AU}(he:0<=c.e/\c.e<=2):DP (Nz k c).1:=by
 unfold Nz;simp only
 split
 .exact h
 rename_i J
 simp only[not_or,wW] at J;obtain⟨ha,hr,Y⟩:=J
 split
 .exact h
 rename_i hw
 split
 .exact h
 have fl:c.e.toNat<3:=by omega
 have hr:0<=Ab k c.e.toNat:=by unfold Ab;omega
 have hw:(Bv k.mem (Ab k c.e.toNat).toNat c.a.toNat).1=0:=by simpa[Ab] using hw
 obtain⟨hf,E,_⟩:=h.zd fl hr hw;have ha:=AZ.1 ha;have hC:Bd (if Gr k.V0 c.e (c.a/4)<0 then JN k.V0 ⟨c.e,c.a/4,((Bv k.mem (Ab k c.e.toNat).toNat c.a.toNat).2.1:Nat),(Bv k.mem (Ab k c.e.toNat).toNat c.a.toNat).2.2⟩ else k.V0)=true:=by
  split
  .refine Xn h.V0 ?_
   simp only[Bu,yD,AZ];omega
  .exact h.V0
 have hT:∀y∈(if Gr k.V0 c.e (c.a/4)<0 then JN k.V0 ⟨c.e,c.a/4,((Bv k.mem (Ab k c.e.toNat).toNat c.a.toNat).2.1:Nat),(Bv k.mem (Ab k c.e.toNat).toNat c.a.toNat).2.2⟩ else k.V0),Cs k y=true:=by
  intro y hy
  split at hy
  .rcases Va hy with rfl|hy
   .unfold Cs
    simp only[yD,decide_eq_true_eq];refine⟨hr,?_⟩;have e1:4*(c.a/4).toNat/16=c.a.toNat/16:=by omega
    have e2:4*(c.a/4).toNat/4%4=c.a.toNat/4%4:=by omega
    have e3:Bv k.mem (AF k.V3 c.e.toNat).root.toNat (4*(c.a/4).toNat)=Bv k.mem (Ab k c.e.toNat).toNat c.a.toNat:=by unfold Bv;rw[e1,e2];rfl
    rw[e3,yq];exact Prod.ext hw rfl
   .exact h.trans y hy
  .exact h.trans y hy
 split
 .rename_i h11
  refine Xl h hf E ?_ hC hT;simp only[not_and,wW] at Y;exact Y h11
 .have:=h.data (x:=Sc k.Xy (Bv k.mem (Ab k c.e.toNat).toNat c.a.toNat).2.1) hf (.inr E) ((Ah.1 h.mem).2 _ hf) (h.inf _ hf) (.inr E) rfl (.inl ⟨rfl,rfl⟩) hC hT
  rw[show k.Xy.set _ (Sc k.Xy (Bv k.mem (Ab k c.e.toNat).toNat c.a.toNat).2.1)=k.Xy from Nu,show k.mem.set _ (AH k.mem (Bv k.mem (Ab k c.e.toNat).toNat c.a.toNat).2.1)=k.mem from Nu] at this;exact this
theorem YG{k:AN}(h:DP k){c:AU}:DP (HZ k c).1:=by
 unfold HZ
 split
 .exact h
 rename_i J
 simp only[not_or,wW,not_and] at J;have ha:=AZ.1 J.1;have fm:c.a.toNat<12:=by omega
 split
 .exact h
 split
 .exact Zb h fm
 split
 .exact Z9 h fm
 split
 .rename_i h4
  exact TF h (bQ h fm (J.2.2 h4))
 split
 .exact TF h (Y2 h fm)
 exact bV h fm (λh0 hh=>by
  rcases hh with hh|hh|hh
  .exact AZ.2 ⟨h0,hh⟩
  .simp only[Bn,yD,decide_eq_true_eq] at hh
   exact AZ.2 ⟨by omega,by omega⟩
  .rw[hh];rfl)
theorem Ll{k:AN}(h:DP k){c:AU}(he:0<=c.e/\c.e<=2):DP (Ae k c).1:=by
 unfold Ae
 split
 .exact aL h
 split
 .exact YG h
 split
 .exact aD h he
 split
 .exact YM h
 split
 .exact XA h
 split
 .exact ba h he
 .exact h
structure Bs where
 w:Int
 a:Int
 u:Bool
 deriving DecidableEq
structure AR where
 Vw:AN
 swap:List (List Int)
 low:List Int
 Xx:List Bs
 Il:Int
 UQ:Int
 deriving DecidableEq
def gA:ByteArray:=⟨#[97]⟩
def AC(l:List Bs)(n:Nat):Bs:=l.getD n ⟨0,0,false⟩
def Be(l:List Int)(n:Nat):Int:=l.getD n 0
def Ff(s:List (List Int)):Bool:=s.all (λr=>r.isEmpty||D8 r)&&decide (s.length=16)
def Iy(f:Int):Int:=4*f+3
def GK(Xy:List AV)(f:Nat):Bool:=decide ((Sc Xy f).g=gA)&&decide ((Sc Xy f).r=1)
def Fz(p:AR)(i:Nat):Bool:=Bh (Be p.low i) 0 11&&decide (Au p.Vw.mem (Ab p.Vw 0).toNat i=Iy (Be p.low i))&&GK p.Vw.Xy (Be p.low i).toNat
def Bz(p:AR):Bool:=decide (0<=Ab p.Vw 0)&&decide (p.low.length=4)&&GK p.Vw.Xy (Ab p.Vw 0).toNat&&(yN 4).all (Fz p)
def Bx(p:AR)(n:Nat):Int:=Au p.Vw.mem (Be p.low (n/4)).toNat (n%4)
def Gm(p:AR)(n:Nat):Bool:=
 if(AC p.Xx n).w=0 then decide ((AC p.Xx n).a=0)&&!(AC p.Xx n).u&&decide (Bx p n=0)
 else if(AC p.Xx n).w=1 then Bh (AC p.Xx n).a 0 11&&decide (Bx p n=Iy (AC p.Xx n).a)&&GK p.Vw.Xy (AC p.Xx n).a.toNat
 else if(AC p.Xx n).w=2 then Bh (AC p.Xx n).a 0 15&&!(AH p.swap (AC p.Xx n).a.toNat).isEmpty&&!(AC p.Xx n).u&&decide (Bx p n=0)
 else false
def DB(s:Nat)(x:Bs):Bool:=decide (x.w=2)&&decide (x.a=(s:Int))
def Ch(Xx:List Bs)(s:Nat):Nat:=Xx.countP (DB s)
def ED(p:AR)(s:Nat):Bool:=decide (Ch p.Xx s=if(AH p.swap s).isEmpty then 0 else 1)
def Gx(k:AN):Bool:=CQ (BB k 0) gA&&!CQ (BB k 1) gA&&!CQ (BB k 2) gA
def OY(w:Int)(x:Bs):Bool:=decide (x.w=w)
def As(Xx:List Bs)(w:Int):Nat:=Xx.countP (OY w)
def CU(p:AR):Bool:=
 Cr p.Vw&&Ff p.swap&&Gx p.Vw&&Bz p&&decide (p.Xx.length=16)&&(yN 16).all (ED p)&&(yN 16).all (Gm p)&&Bh p.Il 0 15&&Bh p.UQ 1 6&&decide ((As p.Xx 1:Int)<=p.UQ)
def Ai(kind a b c:Int):AU:=⟨kind,0,a,b,c,gA⟩
def LH(p:AR)(n:Nat)(w:Int):AU:=Ai 6 (Be p.low (n/4)) ((n%4:Nat):Int) w
def FQ(h:Int):Int:=(h+1)%16
def PR(x:Bs):Bs:= {x with u:=false}
def Ct:Nat->List Bs->Int->List Bs×Int×Option Nat
 |0,Xx,Il=>(Xx,Il,none)
 |n+1,Xx,Il=>
  if(AC Xx Il.toNat).w=1/\(AC Xx Il.toNat).u=false then(Xx,FQ Il,some Il.toNat)
  else Ct n (Xx.set Il.toNat (PR (AC Xx Il.toNat))) (FQ Il)
def Bo(s:List (List Int)):Int:=if s.any ui then(s.findIdx ui:Nat) else -1
def Ep(p:AR)(n:Nat):AR:=
 {p with Vw:=(Ae (Ae p.Vw (LH p n 0)).1 (Ai 2 (AC p.Xx n).a 0 0)).1,swap:=p.swap.set (Bo p.swap).toNat (AH p.Vw.mem (AC p.Xx n).a.toNat),Xx:=p.Xx.set n ⟨2,Bo p.swap,false⟩}
def VY(k:AN)(f:Int)(ws:List Int):AN:=(yN 4).foldl (λk i=>(Ae k (Ai 3 f (i:Nat) (ws.getD i 0))).1) k
def Pi(p:AR)(n:Nat):AR×Bool:=
 let r:=Ae p.Vw (Ai 1 0 0 0)
 if r.2.2≠0 then(p,false)
 else
  let x:=AC p.Xx n
  let k2:=if x.w=2 then VY r.1 r.2.1 (AH p.swap x.a.toNat) else r.1
  ({p with Vw:=(Ae k2 (LH p n (Iy r.2.1))).1,swap:=if x.w=2 then p.swap.set x.a.toNat [] else p.swap,Xx:=p.Xx.set n ⟨1,r.2.1,true⟩},true)
def Fg(Xx:List Bs)(n:Nat):List Bs:=Xx.set n {AC Xx n with u:=true}
def Jt(p:AR):Bool:=decide (Ar p.Vw.Xy<0)||decide ((As p.Xx 1:Int)=p.UQ)
def CJ(p:AR)(n:Nat):AR×Bool:=
 if(AC p.Xx n).w=1 then({p with Xx:=Fg p.Xx n},true)
 else if Ar p.Vw.Xy<0/\As p.Xx 1=0 then(p,false)
 else if Jt p then
  match Ct 32 p.Xx p.Il with
  |(Xx,Il,some m)=>Pi (Ep {p with Xx:=Xx,Il:=Il} m) n
  |(_,_,none)=>(p,false)
 else Pi p n
def LN(p:AR)(a:Nat):AR×Int×Bool:=
 let t:=CJ p (a/4)
 if t.2 then({t.1 with Vw:=(Ae t.1.Vw (Ai 10 (a:Int) 0 0)).1},(Ae t.1.Vw (Ai 10 (a:Int) 0 0)).2.1,true) else(t.1,0,false)
def JP(p:AR)(a:Nat)(w:Int):AR×Bool:=
 let t:=CJ p (a/4)
 if t.2 then({t.1 with Vw:=(Ae t.1.Vw (Ai 11 (a:Int) w 0)).1},true) else(t.1,false)
def Ig(p:AR)(c:AU):AR×Int:=({p with Vw:=(Ae p.Vw c).1},(Ae p.Vw c).2.2)
def EL(p:AR)(a:Nat):Int:=
 if(AC p.Xx (a/4)).w=1 then Au p.Vw.mem (AC p.Xx (a/4)).a.toNat (a%4)
 else if(AC p.Xx (a/4)).w=2 then Au p.swap (AC p.Xx (a/4)).a.toNat (a%4) else 0
def LU(Xy:List AV)(f:Nat):Prop:=(Sc Xy f).g=gA/\(Sc Xy f).r=1
theorem Sx{Xy:List AV}:GK Xy f=true↔LU Xy f:=by simp[GK,LU]
def Kr(p:AR)(n:Nat):Prop:=
 ((AC p.Xx n).w=0/\(AC p.Xx n).a=0/\(AC p.Xx n).u=false/\Bx p n=0)∨
 ((AC p.Xx n).w=1/\(0<=(AC p.Xx n).a/\(AC p.Xx n).a<=11)/\Bx p n=Iy (AC p.Xx n).a/\LU p.Vw.Xy (AC p.Xx n).a.toNat)∨
 ((AC p.Xx n).w=2/\(0<=(AC p.Xx n).a/\(AC p.Xx n).a<=15)/\AH p.swap (AC p.Xx n).a.toNat≠[]/\(AC p.Xx n).u=false/\Bx p n=0)
theorem JY{α:Type}{l:List α}:l.isEmpty=true↔l=[]:=tS
theorem Wv{p:AR}{n:Nat}:Gm p n=true↔Kr p n:=by
 unfold Gm Kr
 by_cases h0:(AC p.Xx n).w=0
 .simp[h0,and_assoc]
 .by_cases J:(AC p.Xx n).w=1
  .simp[J,and_assoc,AZ,Sx]
  .by_cases O:(AC p.Xx n).w=2
   .simp[O,and_assoc,AZ]
   .simp[h0,J,O]
structure Ec(p:AR):Prop where
 k:DP p.Vw
 zO:p.swap.length=16
 zG:∀s,s<16->AH p.swap s=[]∨D8 (AH p.swap s)=true
 may:CQ (BB p.Vw 0) gA=true
 alone:∀e,1<=e->e<3->CQ (BB p.Vw e) gA=false
 root:0<=Ab p.Vw 0
 zE:p.low.length=4
 yX:LU p.Vw.Xy (Ab p.Vw 0).toNat
 lows:∀i,i<4->0<=Be p.low i/\Be p.low i<=11/\Au p.Vw.mem (Ab p.Vw 0).toNat i=Iy (Be p.low i)/\LU p.Vw.Xy (Be p.low i).toNat
 zZ:p.Xx.length=16
 slots:∀s,s<16->Ch p.Xx s=if(AH p.swap s).isEmpty then 0 else 1
 Xx:∀n,n<16->Kr p n
 Il:0<=p.Il/\p.Il<=15
 UQ:1<=p.UQ/\p.UQ<=6
 count:(As p.Xx 1:Int)<=p.UQ
theorem Gf{s:List (List Int)}:Ff s=true↔s.length=16/\∀i,i<16->AH s i=[]∨D8 (AH s i)=true:=by
 simp only[Ff,yD,yr,decide_eq_true_eq,xP,JY];constructor
 .rintro⟨J,O⟩
  exact⟨O,λf hf=>J _ (Di (by omega))⟩
 .rintro⟨J,O⟩
  refine⟨λr hr=>?_,J⟩;obtain⟨i,A,rfl⟩:=IM (d:=[]) hr;exact O i (by omega)
theorem EP{p:AR}:CU p=true↔Ec p:=by
 unfold CU Bz Gx;simp only[yD,MS,Wv,AZ,decide_eq_true_eq,EZ,Gf,ED,Fz,Sx,uj];constructor
 .rintro⟨⟨⟨⟨⟨⟨⟨⟨⟨J,O⟩,h3⟩,h4⟩,h5⟩,h6⟩,h7⟩,h8⟩,h9⟩,h10⟩
  obtain⟨⟨⟨a,b⟩,c⟩,d⟩:=h4;refine⟨J,O.1,O.2,h3.1.1,λe he gK=>?_,a,b,c,λi A=>?_,h5,h6,h7,h8,h9,h10⟩
  .have:e=1∨e=2:=by omega
   rcases this with rfl|rfl
   .exact h3.1.2
   .exact h3.2
  .obtain⟨⟨x,y⟩,hc⟩:=d i A
   exact⟨x.1,x.2,y,hc⟩
 .intro h
  exact⟨⟨⟨⟨⟨⟨⟨⟨⟨h.k,h.zO,h.zG⟩,⟨h.may,h.alone 1 (by omega) (by omega)⟩,h.alone 2 (by omega) (by omega)⟩,⟨⟨h.root,h.zE⟩,h.yX⟩,λi A=>by obtain⟨x,y,hc,u⟩:=h.lows i A;exact⟨⟨⟨x,y⟩,hc⟩,u⟩⟩,h.zZ⟩,h.slots⟩,h.Xx⟩,h.Il⟩,h.UQ⟩,h.count⟩
theorem H5{f:Int}(h0:0<=f)(J:f<=11):Bn (Iy f)=true/\BM (Iy f)=f.toNat/\Kv (Iy f)=true:=by unfold Bn BM Kv Iy;simp only[yD,decide_eq_true_eq];refine⟨⟨⟨?_,?_⟩,?_⟩,?_,?_⟩<;>omega
theorem XU{n a b:Nat}(ha:a<n)(Y:b<n)(a7:a≠b)(J:1<=F a)(O:1<=F b):2<=((yN n).map F).sum:=by
 have e1:=MV (F:=F) (G:=λt=>if t=a then 0 else F t) ha (λt _ a7=>by simp[a7]);have e2:=MV (F:=λt=>if t=a then 0 else F t) (G:=λt=>if t=b then 0 else if t=a then 0 else F t) Y (λt _ a7=>by simp[a7]);have ee:¬b=a:=λe=>a7 e.symm
 simp only[if_true,ee,if_false] at e1 e2;omega
theorem Qi{n a:Nat}(ha:a<n):F a<=((yN n).map F).sum:=by
 have e1:=MV (F:=F) (G:=λt=>if t=a then 0 else F t) ha (λt _ a7=>by simp[a7]);simp only[if_true] at e1;omega
theorem YA{p:Int->Bool}{i j:Nat}(A:i<r.length)(X:j<r.length)(a7:i≠j)(J:p (r.getD i 0)=true)(O:p (r.getD j 0)=true):2<=r.countP p:=by
 induction r generalizing i j with
 |nil=>simp at A
 |cons x r ih=>
  rw[xA];cases i with
  |zero=>
   cases j with
   |zero=>omega
   |succ j=>simp at J O X;have:0<r.countP p:=ux.2 ⟨_,Di (d:=0) X,by simpa using O⟩;rw[if_pos (by simpa using J)];omega
  |succ i=>
   cases j with
   |zero=>simp at J O A;have:0<r.countP p:=ux.2 ⟨_,Di (d:=0) A,by simpa using J⟩;rw[if_pos (by simpa using O)];omega
   |succ j=>have:=ih (i:=i) (j:=j) (by simpa using A) (by simpa using X) (by omega) (by simpa using J) (by simpa using O);omega
section
variable {k:AN} (h:DP k)
include h
theorem DP.yY{i:Nat}(K:t<12)(cc:Bi (A2 k t)=true)(A:i<4)(hn:Du f (Au k.mem t i)=true):1<=MJ k.mem k.Xy f t:=by unfold MJ;unfold A2 at cc;rw[if_pos cc,J8];exact ux.2 ⟨_,Di (d:=0) (by rw[h.row K];exact A),hn⟩
theorem DP.once{i t' i':Nat}(hf:f<12)(J:(Sc k.Xy f).r=1)(K:t<12)(cc:Bi (A2 k t)=true)(A:i<4)(hn:Du f (Au k.mem t i)=true)
 (gv:t'<12)(d9:Bi (A2 k t')=true)(fx:i'<4)(gE:Du f (Au k.mem t' i')=true):t=t'/\i=i':=by
 have hr:=h.refs f hf;have z:countP k.mem k.Xy f<=1:=by omega
 rw[En] at z
 by_cases e:t=t'
 .subst e
  refine⟨rfl,?_⟩
  by_cases e:i=i'
  .exact e
  .exfalso
   have O:2<=MJ k.mem k.Xy f t:=by unfold MJ;unfold A2 at cc;rw[if_pos cc,J8];exact YA (by rw[h.row K];exact A) (by rw[h.row K];exact fx) e hn gE
   have:=Qi (F:=MJ k.mem k.Xy f) K;omega
 .exfalso
  have:=XU (F:=MJ k.mem k.Xy f) K gv e (h.yY K cc A hn) (h.yY gv d9 fx gE);omega
theorem DP.zo{i e:Nat}(hf:f<12)(J:(Sc k.Xy f).r=1)(K:t<12)(cc:Bi (A2 k t)=true)(A:i<4)(hn:Du f (Au k.mem t i)=true)(he:e<3):Ab k e≠(f:Int):=by
 intro hr;have eX:=h.refs f hf;have O:=Qi (F:=MJ k.mem k.Xy f) K;have h3:=h.yY K cc A hn;rw[<-En] at O;rw[IC h.zY] at eX;unfold Ab at hr;have:e=0∨e=1∨e=2:=by omega
 unfold ER at eX
 rcases this with rfl|rfl|rfl<;>simp[hr] at eX<;>split at eX<;>(try split at eX)<;>omega
theorem DP.named_at{g:Nat}(K:t<12)(Z:g∈Go.Proofs.YtaopbdankjkfpaaGreatDoor.named (AH k.mem t)):∃i,i<4/\Du g (Au k.mem t i)=true:=by obtain⟨w,hw,J,O⟩:=Fk.1 Z;obtain⟨i,A,rfl⟩:=IM (d:=0) hw;rw[h.row K] at A;exact⟨i,A,by simp only[Du,Au,yD];exact⟨J,decide_eq_true O⟩⟩
end
section
variable {p:AR} (h:Ec p)
include h
theorem Ec.zL:(Ab p.Vw 0).toNat<12/\A2 p.Vw (Ab p.Vw 0).toNat=3:=h.k.zJ (by omega) h.root
theorem Ec.zx{i:Nat}(A:i<4):Du (Be p.low i).toNat (Au p.Vw.mem (Ab p.Vw 0).toNat i)=true:=by obtain⟨a,b,c,_⟩:=h.lows i A;obtain⟨x,y,_⟩:=H5 a b;rw[c];simp[Du,x,y]
theorem Ec.zV{i:Nat}(A:i<4):(Be p.low i).toNat<12/\A2 p.Vw (Be p.low i).toNat=2:=by obtain⟨a,b,c,_⟩:=h.lows i A;obtain⟨x,y,_⟩:=H5 a b;have hm:=J2 (m:=p.Vw.mem) (f:=(Ab p.Vw 0).toNat) (i:=i) (by rw[c];exact x);rw[c,y] at hm;exact h.k.zV (by omega) h.root hm
theorem Ec.zf{i j:Nat}(A:i<4)(X:j<4)(e:(Be p.low i).toNat=(Be p.low j).toNat):i=j:=by have hr:=h.zL;have hl:=h.zV A;have J:=h.zx A;have O:=h.zx X;rw[<-e] at O;exact(h.k.once hl.1 (h.lows i A).2.2.2.2 hr.1 (by rw[hr.2];rfl) A J hr.1 (by rw[hr.2];rfl) X O).2
theorem Ec.zR{n:Nat}(hn:n<16)(hw:(AC p.Xx n).w=1):Du (AC p.Xx n).a.toNat (Bx p n)=true/\(0<=(AC p.Xx n).a/\(AC p.Xx n).a<=11)/\LU p.Vw.Xy (AC p.Xx n).a.toNat:=by
 rcases h.Xx n hn with⟨a,_⟩|⟨_,b,c,d⟩|⟨a,_⟩
 .omega
 .obtain⟨x,y,_⟩:=H5 b.1 b.2
  refine⟨?_,b,d⟩;rw[c];simp[Du,x,y]
 .omega
theorem Ec.zS{n:Nat}(hn:n<16)(hw:(AC p.Xx n).w=1):(AC p.Xx n).a.toNat<12/\A2 p.Vw (AC p.Xx n).a.toNat=1:=by
 obtain⟨a,b,_⟩:=h.zR hn hw;have hl:=h.zV (i:=n/4) (by omega);have ha:Bn (Bx p n)=true/\BM (Bx p n)=(AC p.Xx n).a.toNat:=by simpa[Du] using a
 have hm:=J2 (m:=p.Vw.mem) (f:=(Be p.low (n/4)).toNat) (i:=n%4) ha.1;have:=h.k.named hl.1 (by rw[hl.2];rfl) hm;have e:BM (Au p.Vw.mem (Be p.low (n/4)).toNat (n%4))=(AC p.Xx n).a.toNat:=ha.2;rw[e] at this;exact⟨this.1,by omega⟩
theorem Ec.zm{n m:Nat}(hn:n<16)(hm:m<16)(hw:(AC p.Xx n).w=1)(g6:(AC p.Xx m).w=1)(e:(AC p.Xx n).a.toNat=(AC p.Xx m).a.toNat):n=m:=by obtain⟨a,b,c⟩:=h.zR hn hw;obtain⟨a',_,_⟩:=h.zR hm g6;rw[<-e] at a';have hl:=h.zV (i:=n/4) (by omega);have bx:=h.zV (i:=m/4) (by omega);have E:=h.zS hn hw;have:=h.k.once E.1 c.2 hl.1 (by rw[hl.2];rfl) (i:=n%4) (by omega) a bx.1 (by rw[bx.2];rfl) (i':=m%4) (by omega) a';have:=h.zf (by omega) (by omega) this.1;omega
end
theorem cS{k:AN}(h:CQ (BB k 0) gA=true){g:ByteArray}(Z:g=gA):FF k 0 g=true:=by subst Z;exact h
theorem Ms{k:AN}{kind a b c:Int}(J:2<=kind)(h6:kind<=6)(eE:0<=a)(ha:a<=11)(E:A2 k a.toNat≠0)(h4:kind≠4)(hm:CQ (BB k 0) gA=true)(Z:(Sc k.Xy a.toNat).g=gA):
 Ae k (Ai kind a b c)=if kind=2 then Kb k (Ai kind a b c) else if kind=3 then Kg k (Ai kind a b c) else if kind=5 then Do k (Cy k.mem k.Xy a.toNat) else IF k (Ai kind a b c):=by
 have e1:¬(Ai kind a b c).k=1:=by show ¬kind=1;omega
 have e2:Bh (Ai kind a b c).k 2 6=true:=AZ.2 ⟨J,h6⟩;have e3:¬(Bh (Ai kind a b c).a 0 11=false∨(Sc k.Xy (Ai kind a b c).a.toNat).k=0∨((Ai kind a b c).k=4/\Bi (Ai kind a b c).b=false)):=by
  rintro(x|x|x)
  .rw[show Bh (Ai kind a b c).a 0 11=true from AZ.2 ⟨eE,ha⟩] at x;cases x
  .exact E x
  .exact h4 x.1
 have e4:¬FF k (Ai kind a b c).e (Sc k.Xy (Ai kind a b c).a.toNat).g=false:=by rw[show FF k (Ai kind a b c).e (Sc k.Xy (Ai kind a b c).a.toNat).g=true from cS hm Z];simp
 unfold Ae HZ;rw[if_neg e1,if_pos e2,if_neg e3,if_neg e4]
 show(if kind=2 then _ else if kind=3 then _ else if kind=4 then _ else if kind=5 then _ else _)=_
 rw[if_neg h4];rfl
def Im(k:AN)(t b:Nat)(w:Int):AN:= {k with mem:=Ci k.mem t b w,Xy:=A7 (A7 k.Xy (Au k.mem t b) (-1)) w 1,V0:=(F9 k t).foldl (λc e=>GI c (e:Nat)) k.V0}
theorem Vg{k:AN}(h:DP k)(hm:CQ (BB k 0) gA=true)(il:∀e,1<=e->e<3->CQ (BB k e) gA=false){a:Int}(eE:0<=a)(ha:a<=11)(fG:A2 k a.toNat=2)(Z:(Sc k.Xy a.toNat).g=gA){b:Nat}(Y:b<4){w:Int}
 (hw:w=0∨∃f,0<=f/\f<=11/\w=Iy f/\A2 k f.toNat=1/\(Sc k.Xy f.toNat).g=gA):Ae k (Ai 6 a b w)=(Im k a.toNat b w,0,0):=by
 rw[Ms (by omega) (by omega) eE ha (by omega) (by omega) hm Z,if_neg (by omega),if_neg (by omega),if_neg (by omega)];have hf:D6 k (Ai 6 a b w)=true:=by
  unfold D6
  show(if Bn w then decide ((Sc k.Xy (BM w)).k=(Sc k.Xy a.toNat).k - 1) else decide (w=0))=true
  rcases hw with rfl|⟨f,f0,f1,rfl,fk,fg⟩
  .simp[Bn]
  .obtain⟨x,y,_⟩:=H5 f0 f1
   rw[if_pos x,y];unfold A2 at fk fG;rw[fk,fG];rfl
 have e1:¬(Bi (Sc k.Xy (Ai 6 a b w).a.toNat).k=false∨Bh (Ai 6 a b w).b 0 3=false∨D6 k (Ai 6 a b w)=false):=by
  rintro(x|x|x)
  .have:Bi (Sc k.Xy (Ai 6 a b w).a.toNat).k=true:=IR.2 (.inl fG)
   rw[this] at x;cases x
  .rw[show Bh (Ai 6 a b w).b 0 3=true from AZ.2 ⟨by show(0:Int)<=(b:Int);omega,by show(b:Int)<=3;omega⟩] at x;cases x
  .rw[hf] at x;cases x
 have b6:∀g,g∈Da k w->(Sc k.Xy g).g=gA:=by
  intro g Z
  rcases hw with rfl|⟨f,f0,f1,rfl,fk,fg⟩
  .simp[Da,Bn] at Z
  .obtain⟨x,y,_⟩:=H5 f0 f1
   unfold Da at Z;rw[if_pos x,y] at Z;unfold A2 at fk;rw[if_neg (by rw[fk];decide)] at Z;simp at Z;rw[Z];exact fg
 have e2:¬(F9 k (Ai 6 a b w).a.toNat).all (λe=>BI k.Xy (Da k (Ai 6 a b w).c) (AF k.V3 e).Tj)=false:=by
  rw[wW,yr];intro e he;rw[GW];intro g cu;obtain⟨u1,u2⟩:=Ol.1 he;rw[b6 g cu]
  rcases wC e with h0|h0
  .rw[h0];exact hm
  .have:=h.allow e u1 _ u2
   rw[show(Sc k.Xy (Ai 6 a b w).a.toNat).g=gA from Z,il e h0 u1] at this;cases this
 have e3:¬(Bn (Ai 6 a b w).c=true/\FF k (Ai 6 a b w).e (Sc k.Xy (BM (Ai 6 a b w).c)).g=false):=by rintro⟨x,y⟩;have x':Bn w=true:=x;have y':FF k 0 (Sc k.Xy (BM w)).g=false:=y;rw[cS hm (b6 (BM w) (by unfold Da;rw[if_pos x'];exact vU ..))] at y';cases y'
 unfold IF;rw[if_neg e1,if_neg e2,if_neg e3];rfl
theorem YJ{k:AN}(hm:CQ (BB k 0) gA=true){a b c:Int}(eE:0<=a)(ha:a<=11)(E:A2 k a.toNat=1)(Z:(Sc k.Xy a.toNat).g=gA)(hr:(Sc k.Xy a.toNat).r=0):
 Ae k (Ai 2 a b c)=({k with Xy:=k.Xy.set a.toNat AV.zero},0,0):=by
 rw[Ms (by omega) (by omega) eE ha (by omega) (by omega) hm Z,if_pos rfl];unfold Kb;rw[if_neg (by show ¬(Sc k.Xy a.toNat).k≠1;unfold A2 at E;omega),if_neg (by show ¬(Sc k.Xy a.toNat).r≠0;omega)];rfl
theorem Yl{k:AN}(hm:CQ (BB k 0) gA=true){a w:Int}(eE:0<=a)(ha:a<=11)(E:A2 k a.toNat=1)(Z:(Sc k.Xy a.toNat).g=gA){i:Nat}(A:i<4)(hw:EB w=true):
 Ae k (Ai 3 a i w)=({k with mem:=Ci k.mem a.toNat i w},0,0):=by
 rw[Ms (by omega) (by omega) eE ha (by omega) (by omega) hm Z,if_neg (by omega),if_pos rfl];unfold Kg;rw[if_neg]
 .rfl
 .rintro(x|x|x)
  .exact x E
  .rw[show Bh (Ai 3 a i w).b 0 3=true from AZ.2 ⟨by show(0:Int)<=(i:Int);omega,by show(i:Int)<=3;omega⟩] at x;cases x
  .rw[show EB (Ai 3 a i w).c=true from hw] at x;cases x
theorem Oj{k:AN}(hm:CQ (BB k 0) gA=true)(hf:0<=Ar k.Xy){a b c:Int}:
 Ae k (Ai 1 a b c)=({k with Xy:=k.Xy.set (Ar k.Xy).toNat ⟨1,gA,0⟩,mem:=k.mem.set (Ar k.Xy).toNat [0,0,0,0]},Ar k.Xy,0):=by
 unfold Ae;rw[if_pos (show(Ai 1 a b c).k=1 from rfl)];unfold JU;rw[if_neg,if_neg,if_neg]
 .rfl
 .omega
 .rw[show FF k (Ai 1 a b c).e (Ai 1 a b c).nm=true from cS hm rfl];simp
 .rw[show BO (Ai 1 a b c).nm=true from(by decide:BO gA=true)];simp
theorem Oq{α:Type}{q:α->Bool}{l:List α}{n:Nat}{y d:α}(hn:n<l.length):(l.set n y).countP q+ER (q (l.getD n d))=l.countP q+ER (q y):=by
 induction l generalizing n with
 |nil=>simp at hn
 |cons x r ih=>
  cases n with
  |zero=>simp only[sO,xA,sX,ER];omega
  |succ n=>simp only[sN,xA,sW];have:=ih (n:=n) (by simpa using hn);omega
theorem Ea{l:List Bs}{n m:Nat}{x:Bs}:AC (l.set n x) m=if m=n/\n<l.length then x else AC l m:=Ju
theorem OV{l:List Bs}{n:Nat}{y:Bs}{w:Int}(hn:n<l.length):As (l.set n y) w+ER (OY w (AC l n))=As l w+ER (OY w y):=Oq hn
theorem Nv{l:List Bs}{n s:Nat}{y:Bs}(hn:n<l.length):Ch (l.set n y) s+ER (DB s (AC l n))=Ch l s+ER (DB s y):=Oq hn
theorem Yw(m:Nat)(x:Bs):((yN m).map λs=>ER (DB s x)).sum<=ER (OY 2 x):=by
 by_cases hw:x.w=2
 .have J:ER (OY 2 x)=1:=by simp[OY,hw,ER]
  rw[J]
  induction m with
  |zero=>simp
  |succ m ih=>
   rw[xI,xN,wU];simp only[vG,uU,uv,uk,xU]
   by_cases ha:x.a=(m:Int)
   .have h0:((yN m).map λs=>ER (DB s x)).sum=0:=by
     rw[L9];intro t K;have:¬x.a=(t:Int):=by omega
     simp[DB,this,ER]
    rw[h0];unfold ER;split<;>omega
   .have:ER (DB m x)=0:=by simp[DB,ha,ER]
    omega
 .have h0:((yN m).map λs=>ER (DB s x)).sum=0:=by
   rw[L9];intro t K;simp[DB,hw,ER]
  omega
theorem bW{G:Nat->Nat}{n:Nat}:((yN n).map λt=>F t+G t).sum=((yN n).map F).sum+((yN n).map G).sum:=by
 induction n with
 |zero=>rfl
 |succ n ih=>rw[xI,xN,xN,xN,wU,wU,wU,ih];simp;omega
theorem Yv(m:Nat)(l:List Bs):((yN m).map λs=>Ch l s).sum<=As l 2:=by
 induction l with
 |nil=>
  have:((yN m).map λs=>Ch [] s).sum=0:=by rw[L9];intro t _;rfl
  omega
 |cons x l ih=>
  have e:∀s,s<m->Ch (x::l) s=Ch l s+ER (DB s x):=λs _=>by unfold Ch ER;rw[xA]
  rw[Kl e,bW];have e2:As (x::l) 2=As l 2+ER (OY 2 x):=by unfold As ER;rw[xA]
  have:=Yw m x;have it:((yN m).map (Ch l)).sum<=As l 2:=ih;omega
theorem count_le{l:List Bs}{n:Nat}(hn:n<l.length){w:Int}(hw:(AC l n).w≠w):As l w+1<=l.length:=by
 have J:=OV (y:=⟨w,0,false⟩) (w:=w) hn;have O:As (l.set n ⟨w,0,false⟩) w<=(l.set n ⟨w,0,false⟩).length:=vy;rw[yi] at O;have h3:ER (OY w (AC l n))=0:=by simp[OY,hw,ER]
 have h4:ER (OY w ⟨w,0,false⟩)=1:=by simp[OY,ER]
 omega
theorem Rp{s:List (List Int)}(h:∃i,i<s.length/\AH s i=[]):0<=Bo s/\(Bo s).toNat<s.length/\AH s (Bo s).toNat=[]:=by obtain⟨i,A,he⟩:=h;have ha:s.any ui=true:=Ks.2 ⟨_,Di (d:=[]) A,by unfold AH at he;rw[he];rfl⟩;unfold Bo;rw[if_pos ha];have hl:s.findIdx ui<s.length:=vQ.2 (Ks.1 ha);refine⟨by omega,by simpa using hl,?_⟩;have:=vF (w:=hl);unfold AH;simpa[hl] using this
theorem Ec.slot{p:AR}(h:Ec p){n:Nat}(hn:n<16)(hw:(AC p.Xx n).w≠2):0<=Bo p.swap/\(Bo p.swap).toNat<16/\AH p.swap (Bo p.swap).toNat=[]:=by
 rw[<-h.zO];refine Rp (Classical.byContradiction λhJ=>?_);have J:∀s,s<16->Ch p.Xx s=1:=by
  intro s V;have:=h.slots s V;rw[if_neg] at this
  .exact this
  .intro he
   exact hJ ⟨s,by rw[h.zO];exact V,JY.1 he⟩
 have O:=Yv 16 p.Xx;rw[Kl J] at O;have h3:=count_le (l:=p.Xx) (n:=n) (by rw[h.zZ];exact hn) hw;rw[h.zZ] at h3;have h4:((yN 16).map λ_=>1).sum=16:=by decide
 omega
theorem Oc{p:AR}(h:Ec p){n:Nat}(hn:n<16)(hw:(AC p.Xx n).w=1):
 (Ep p n).Vw= {Im p.Vw (Be p.low (n/4)).toNat (n%4) 0 with Xy:=(Im p.Vw (Be p.low (n/4)).toNat (n%4) 0).Xy.set (AC p.Xx n).a.toNat AV.zero}:=by
 have hl:=h.lows (n/4) (by omega);have fv:=h.zV (i:=n/4) (by omega);obtain⟨f1,f2,f3⟩:=h.zR hn hw;have fk:=h.zS hn hw;unfold Ep LH;rw[Vg h.k h.may h.alone hl.1 hl.2.1 fv.2 hl.2.2.2.1 (by omega) (.inl rfl)];have hQ:Du (AC p.Xx n).a.toNat (Au p.Vw.mem (Be p.low (n/4)).toNat (n%4))=true:=f1;have bA:Sc (Im p.Vw (Be p.low (n/4)).toNat (n%4) 0).Xy (AC p.Xx n).a.toNat= {Sc p.Vw.Xy (AC p.Xx n).a.toNat with r:=0}:=by
  unfold Im
  show Sc (A7 (A7 p.Vw.Xy (Au p.Vw.mem (Be p.low (n/4)).toNat (n%4)) (-1)) 0 1) _=_
  rw[Fl (by rw[Co];exact h.k.len),Fl h.k.len,hQ,f3.2];simp[Du,Bn,ER]
 rw[YJ (k:=Im p.Vw (Be p.low (n/4)).toNat (n%4) 0) h.may f2.1 f2.2]
 .show(Sc (Im p.Vw (Be p.low (n/4)).toNat (n%4) 0).Xy (AC p.Xx n).a.toNat).k=1
  rw[bA];exact fk.2
 .rw[bA];exact f3.1
 .rw[bA]
theorem RJ{b i:Nat}{w:Int}(K:t<m.length)(Y:b<(AH m t).length):Au (Ci m t b w) f i=if f=t/\i=b then w else Au m f i:=by
 unfold Au;rw[ID]
 by_cases e:f=t
 .subst e
  rw[if_pos ⟨rfl,K⟩,Ju]
  by_cases e2:i=b
  .simp[e2,Y]
  .simp[e2]
 .simp[e]
theorem Tk{P:Program}{f:FuncId}{al:Array Value}{w1:World}{v:Value}(h:∀w',Below w1.heap.size w1 w'->Calls P f al w' λe cb=>e=.returned v/\Below w'.heap.size w' cb):
 ∀d os,Calls P f al (vp (redrawn w1 d) os) λe cb=>e=.returned v/\∃p:Regrown,cb=vp (redrawn w1 p.d) p.os:=λd os=>Calls.regrown_of (h _ (below_regrown w1 d os))
theorem Uo{P:Program}{f:FuncId}{al:Array Value}{w1:World}{v:Value}(h:∀w',Calls P f al w' λe cb=>e=.returned v/\w'=cb):
 ∀d os,Calls P f al (vp (redrawn w1 d) os) λe cb=>e=.returned v/\∃p:Regrown,cb=vp (redrawn w1 p.d) p.os:=Tk λw' _=>(h w').mono λe cb ⟨he,hw⟩=>⟨he,hw▸yO _ _⟩
theorem A3{P:Program}{f:FuncId}{al:Array Value}{w:World}{v:Value}(h:Calls P f al w λe w'=>e=.returned v/\w=w'):Calls P f al w λe w'=>e=.returned v/\Below w.heap.size w w':=h.mono λe cb ⟨he,hw⟩=>⟨he,hw▸yO _ _⟩
theorem Nn{P:Program}{f:FuncId}{al:Array Value}{w:World}{v:Value}(h:Calls P f al w λe w'=>e=.returned v/\∃n,w'=w.drewN n):Calls P f al w λe w'=>e=.returned v/\Below w.heap.size w w':=
 h.mono λe cb ⟨he,n,hw⟩=>⟨he,hw▸A0 (yO _ _) n⟩
theorem Og{a b:Value}(h:a=b):Ending.returned a=.returned b:=by rw[h]
section
variable {w:World} {a:Option Addr}
theorem Tc.Dq{xs:List AV}(h:Tc 3 At w a xs){k:Nat}(E:k<xs.length):∃b D,a=some ⟨b,D,none⟩/\b<w.heap.size/\w.cell? ⟨b,D+k*3,none⟩=some (.int .i64 (Sc xs k).k)/\w.cell? ⟨b,D+k*3+1,none⟩=some (.string (Sc xs k).g)/\w.cell? ⟨b,D+k*3+2,none⟩=some (.int .i64 (Sc xs k).r):=by obtain⟨b,D,rfl,aq,z⟩:=h k (Sc xs k) (by simp[Sc,E]);exact⟨b,D,rfl,aq,z 0 _ rfl,z 1 _ rfl,z 2 _ rfl⟩
theorem Tc.zW{xs:List Ad}(h:Tc 4 AX w a xs){k:Nat}(E:k<xs.length):∃b D,a=some ⟨b,D,none⟩/\b<w.heap.size/\w.cell? ⟨b,D+k*4,none⟩=some (.int .i64 (AT xs k).e)/\w.cell? ⟨b,D+k*4+1,none⟩=some (.int .i64 (AT xs k).p)/\w.cell? ⟨b,D+k*4+2,none⟩=some (.int .i64 (AT xs k).f)/\w.cell? ⟨b,D+k*4+3,none⟩=some (.bool (AT xs k).w):=by obtain⟨b,D,rfl,aq,z⟩:=h k (AT xs k) (by simp[AT,E]);exact⟨b,D,rfl,aq,z 0 _ rfl,z 1 _ rfl,z 2 _ rfl,z 3 _ rfl⟩
end
theorem JG.cellAt{w:World}{a:Option Addr}{xs:List Int}(h:JG w a xs){k:Nat}(E:k<xs.length):∃b D,a=some ⟨b,D,none⟩/\b<w.heap.size/\w.cell? ⟨b,D+k,none⟩=some (.int .i64 (nth xs k)):=by obtain⟨b,D,rfl,z⟩:=h.at E;exact⟨b,D,rfl,yM w _ z,z⟩
def LZ(w:World)(a:Option Addr)(m:List (List Int)):Prop:=∀f,f<m.length->∃b D u,a=some ⟨b,D,none⟩/\b<w.heap.size/\w.cell? ⟨b,D+f,none⟩=some u/\Ax w u (AH m f)
theorem Bf.open{w:World}{v:Value}(h:Bf w v m):∃a H,v=.slice a m.length H/\m.length<=H/\H<=maxLen/\LZ w a m:=by
 obtain⟨vs,J,O⟩:=h;obtain⟨a,H,rfl,z,am,ai⟩:=BG.open FI (by decide) J;refine⟨a,H,by rw[O.1],by rw[<-O.1];exact z,am,λf hf=>?_⟩;have hv:f<vs.length:=by rw[O.1];exact hf
 obtain⟨b,D,rfl,aq,av⟩:=ai f _ (yH hv);refine⟨b,D,vs[f],rfl,aq,by simpa using av 0 _ rfl,O.2 f _ _ (yH hv) ?_⟩;unfold AH;exact BD hf
theorem LZ.below{w w':World}{a:Option Addr}(h:LZ w a m)(Y:Below w.heap.size w w'):LZ w' a m:=by intro f hf;obtain⟨b,D,u,rfl,aq,z,hr⟩:=h f hf;exact⟨b,D,u,rfl,yv aq Y.size,(Y.cell (p:=⟨b,D+f,none⟩) aq).trans z,hr.below Y⟩
theorem BV{Q:Exit->Act->World->Prop}{a:Act}{w:World}{l:List Oper}
 (h:wpQuiet prog l.toArray (λw'=>∃p:Regrown,w'=vp (redrawn w p.d) p.os) (λa'=>∀w',(∃p:Regrown,w'=vp (redrawn w p.d) p.os)->Q .normal a' w') l a)(hB:Region.lexB .any l.toArray=true:=by kernel_rfl):(vR id l.toArray true).wp prog Q a w:=
 wp_region_quiet_below mixed hB h
theorem BU{P:Program}{ops:Array Oper}{w:World}{Q:Act->World->Prop}{a:Act}(h:∀wq,Below w.heap.size w wq->Q a wq):wpQuiet P ops (λw'=>∃p:Regrown,w'=vp (redrawn w p.d) p.os) (λa'=>∀w',(∃p:Regrown,w'=vp (redrawn w p.d) p.os)->Q a' w') [] a:=by refine wpQuiet_nil ?_;rintro w' ⟨⟨d,os⟩,rfl⟩;exact h _ (below_regrown w d os)
def Ta(w:World)(a:Option Addr)(bs:List Int):Prop:=
 ∀k,k<bs.length->∃b D,a=some ⟨b,D,none⟩/\∀j,j<bs.length->w.cell? ⟨b,D+j,none⟩=some (.int .u8 (nth bs j))/\0<=nth bs j/\nth bs j<256
theorem GT.open{w:World}{v:Value}{xs:List Int}(h:GT w v xs):
 ∃a H,v=.slice a xs.length H/\xs.length<=H/\H<=maxLen/\Ta w a xs:=by
 obtain⟨⟨a,H,rfl,bw,am,hl,_,z⟩,f9⟩:=h;refine⟨a,H,rfl,bw,am,λk E=>?_⟩;obtain⟨b,D,rfl,av⟩:=z (by omega);refine⟨b,D,rfl,λj X=>⟨?_,?_⟩⟩
 .rw[av j (by omega),xz,Qh X]
  rfl
 .rw[Mz X]
  exact f9 _ (ue X)
theorem Ta.at{w:World}{a:Option Addr}{xs:List Int}(h:Ta w a xs){k:Nat}(E:k<xs.length):
 ∃b D,a=some ⟨b,D,none⟩/\w.cell? ⟨b,D+k,none⟩=some (.int .u8 (nth xs k))/\0<=nth xs k/\nth xs k<256:=by
 obtain⟨b,D,rfl,z⟩:=h k E;exact⟨b,D,rfl,z k E⟩
def FD(w0 w:World)(R:Value)(hx:Nat):Prop:=
 ∃g c6 bs,∃p:Nat,R=.pointer (some ⟨g,0,none⟩)/\w0.heap.size<=g/\w.heap[g]?=some (.cells #[c6,.int .i64 p] 71 (0,0))/\GT w0 c6 bs/\bs.length<=2000/\p<=hx
theorem Xa{hj:Int}(h0:0<=hj)(J:hj<=1000000000):0<=bits .xor .i64 hj (hj/64):=by
 obtain⟨x,rfl⟩:=Int.eq_ofNat_of_zero_le h0;have e:((x:Int)/64)=((x/64:Nat):Int):=by omega
 have ha:x<2 ^ 40:=by omega
 have Y:x/64<2 ^ 40:=by omega
 have gd:x%2 ^ xj.bits=x:=sh (yv ha (by decide));have gP:x/64%2 ^ xj.bits=x/64:=sh (yv Y (by decide));have N:x ^^^ (x/64)<2 ^ 40:=Nat.xor_lt_two_pow ha Y;rw[e];simp only[bits,BitVec.ofInt_natCast,BitVec.toNat_xor,BitVec.toNat_ofNat,gd,gP];rw[xM _ (by omega)];omega
def V5(w0 w:World)(R:Value)(hx:Nat)(n:Int)(e:Ending)(w':World):Prop:=
 ∃x:Int,e=.returned (.int .i64 x)/\(0<=x/\(0<n->x<n)/\(n<=0->x=0))/\FD w0 w' R (hx+1)/\Below w0.heap.size w0 w'/\∃g,R=.pointer (some ⟨g,0,none⟩)/\w.grownBy w' (some g)
theorem FD.stored{w:World}{g p hx:Nat}{c6:Value}{bs:List Int}{n:Int}(Z:w0.heap.size<=g)(ca:w.heap[g]?=some (.cells #[c6,.int .i64 p] 71 (0,0)))(hr:GT w0 c6 bs)(bk:bs.length<=2000)(hp:p<=hx)(Y:Below w0.heap.size w0 w):
 ∀(k:Nat)(x:Int),0<=x->(0<n->x<n)->(n<=0->x=0)->V5 w0 w (.pointer (some ⟨g,0,none⟩)) hx n (.returned (.int .i64 x)) ((w.setCell ⟨g,1,none⟩ (.int .i64 (p+1))).drewN k):=by
 intro k x J O h3;refine⟨x,rfl,⟨J,O,h3⟩,⟨g,c6,bs,p+1,rfl,Z,?_,hr,bk,by omega⟩,A0 (Y.setCell Z _) k,g,rfl,?_⟩
 .have:=yF w g 1 #[c6,.int .i64 p] 71 (.int .i64 (p+1)) ca
  simpa using this
 .refine⟨rfl,rfl,rfl,by simp[World.drewN],λb gP a7=>?_⟩
  exact heap_setCell_other w ⟨g,1,none⟩ b _ (λe=>a7 (by simp[e]))
theorem Z7(w0:World)(R:Value)(hx:Nat)(n:Int)(w:World)(h:FD w0 w R hx)(Y:Below w0.heap.size w0 w)(hN:hx<=1000000)(hn:n<=1000000):
 Calls prog 17 #[R,.int .i64 n] w (V5 w0 w R hx n):=by
 obtain⟨g,c6,bs,p,rfl,Z,ca,hR,bk,hp⟩:=h;have S:=AA (FD.stored (n:=n) Z ca hR bk hp Y);have c0:w.cell? ⟨g,0,none⟩=some c6:=yz w g 0 _ _ _ ca;have c1:w.cell? ⟨g,1,none⟩=some (.int .i64 p):=yz w g 1 _ _ _ ca;have f1:w.frozen? ⟨g,1,none⟩=false:=frozen_of_row w g 1 _ _ ca;clear ca
 by_cases J:n<1
 .go_in
  go_wp2;go_ret;exact S.out 0 0 (by omega) (by omega) (by omega)
 obtain⟨a,c,hv,z,am,hA⟩:=hR.open;subst hv;unfold maxLen at am
 by_cases O:bs.length=0
 .have io:((bs.length:Int)==0)=true:=by simp[O]
  clear O;go_in;go_wp2;go_ret;exact S.out 0 0 (by omega) (by omega) (by omega)
 have io:((bs.length:Int)==0)=false:=by simp[O]
 have fo:0<bs.length:=by omega
 clear O
 by_cases h3:p<bs.length
 .obtain⟨b,D,rfl,D0,ij,br⟩:=hA.at h3
  have bC:=yM w0 _ D0;have ab:w.cell? ⟨b,D+p,none⟩=some (.int .u8 (nth bs p)):=(Y.cell bC).trans D0;clear D0 hA;have a7:b≠g:=by rintro rfl;simp at bC;omega
  clear bC;go_in;go_wp2;go_ret;exact S.out 0 _ (tR _ (by omega)) (λ_=>vk _ (by omega)) (by omega)
 .have m1:(p:Int).tmod bs.length=(p:Int)%bs.length:=wG (by omega)
  have m2:0<=(p:Int)%bs.length:=tR _ (by omega);have m3:(p:Int)%bs.length<bs.length:=vk _ (by omega);have m4:((p:Int)%bs.length).toNat=p%bs.length:=by rw[show(p:Int)%bs.length=((p%bs.length:Nat):Int) from rfl,yq]
  have q1:0<=(p:Int)/bs.length:=Int.ediv_nonneg (by omega) (by omega);have q2:(p:Int)/bs.length<=p:=Int.ediv_le_self _ (by omega);have s1:xj.wrap ((p:Int)*7)=p*7:=xM _ (by omega);have s2:xj.wrap ((p:Int)*7+3)=p*7+3:=xM _ (by omega);have k1:((p:Int)*7+3).tmod bs.length=((p:Int)*7+3)%bs.length:=wG (by omega);have k2:0<=((p:Int)*7+3)%bs.length:=tR _ (by omega);have k3:((p:Int)*7+3)%bs.length<bs.length:=vk _ (by omega);have k4:(((p:Int)*7+3)%bs.length).toNat=(p*7+3)%bs.length:=by rw[show((p:Int)*7+3)%bs.length=(((p*7+3)%bs.length:Nat):Int) by push_cast;rfl,yq]
  have hZ:p%bs.length<bs.length:=sF _ fo;have gH:(p*7+3)%bs.length<bs.length:=sF _ fo;obtain⟨b,D,rfl,D0,ij,br⟩:=hA.at hZ;obtain⟨b',dq,ek,E0,b8,gN⟩:=hA.at gH;obtain⟨rfl,rfl⟩:b=b'/\D=dq:=by simpa using ek
  clear ek hA;have bC:=yM w0 _ D0;have ab:w.cell? ⟨b,D+p%bs.length,none⟩=some (.int .u8 (nth bs (p%bs.length))):=(Y.cell bC).trans D0;have hk:w.cell? ⟨b,D+(p*7+3)%bs.length,none⟩=some (.int .u8 (nth bs ((p*7+3)%bs.length))):=(Y.cell (p:=⟨b,D+(p*7+3)%bs.length,none⟩) bC).trans E0;clear D0 E0;have a7:b≠g:=by rintro rfl;simp at bC;omega
  clear bC;go_in;go_wp2;go_quiet (fail);have x0:0<=nth bs (p%bs.length)*131+nth bs ((p*7+3)%bs.length)*1117+(p:Int)*29+(p:Int)/bs.length*53:=by omega
  have x1:nth bs (p%bs.length)*131+nth bs ((p*7+3)%bs.length)*1117+(p:Int)*29+(p:Int)/bs.length*53<=1000000000:=by omega
  generalize nth bs (p%bs.length)*131+nth bs ((p*7+3)%bs.length)*1117+(p:Int)*29+(p:Int)/bs.length*53=hj at x0 x1 ⊢;go_wp2;go_ret;have y0:=Xa x0 (by omega:hj<=1000000000);exact S.out _ _ (Int.tmod_nonneg _ y0) (λhU=>by rw[wG y0];exact vk _ hU) (by omega)
def ZF(w:World)(e:Ending)(w':World):Prop:=∃R,e=.returned R/\FD w w' R 0/\Below w.heap.size w w'
theorem GT.take{w:World}{a:Option Addr}{c:Nat}{bs:List Int}(h:GT w (.slice a bs.length c) bs)(k:Nat)(E:k<=bs.length):GT w (.slice a k c) (bs.take k):=by
 obtain⟨⟨a',H,hv,bw,am,hl,az,z⟩,f9⟩:=h;simp only[xS,true_and] at hv;obtain⟨rfl,rfl⟩:=hv;have e:(bs.take k).length=k:=by rw[yt];omega
 refine⟨⟨a,c,by rw[e],by omega,am,by simp,az,λhn=>?_⟩,λb Y=>f9 b (tj Y)⟩;rw[e] at hn ⊢;obtain⟨b,D,rfl,av⟩:=z (by omega);refine⟨b,D,rfl,λj X=>?_⟩;rw[av j (by omega),tI,uX,if_pos (by omega)]
theorem FD.opened{w:World}{c6:Value}{bs:List Int}(h:GT w c6 bs)(hl:bs.length<=2000):ZF w (.returned (.pointer (some ⟨w.heap.size,0,none⟩))) (w.alloc (.cells #[c6,.int .i64 0] 71)):=
 ⟨_,rfl,⟨_,c6,bs,0,rfl,yG _,yw w _,h,hl,yG _⟩,(yO _ _).alloc (yG _) _⟩
theorem Wh(v:Value)(bs:List Int)(w:World)(h:GT w v bs):
 Calls prog 14 #[v] w (ZF w):=by
 obtain⟨a,c,hv,z,am,hA⟩:=h.open;subst hv;unfold maxLen at am
 by_cases hl:bs.length<=2000
 .have S:=AA (FD.opened h hl)
  have bx:¬(2000<bs.length):=by omega
  clear hl hA;go_in;go_wp2;go_ret;exact S.out
 .have S:=AA (FD.opened (h.take 2000 (by omega)) (by rw[yt];omega))
  have bx:2000<bs.length:=by omega
  have gH:2000<=c:=by omega
  obtain⟨b,D,rfl,_⟩:=hA.at (k:=0) (by omega);clear hl hA;go_in;go_wp2;go_ret;exact S.out
theorem FD.mono{w:World}{R:Value}{hx M:Nat}(h:FD w0 w R hx)(hm:hx<=M):FD w0 w R M:=by obtain⟨g,c6,bs,p,e1,Z,ca,hr,hl,hp⟩:=h;exact⟨g,c6,bs,p,e1,Z,ca,hr,hl,yL hp hm⟩
theorem M5{lo:Nat}{w:World}{v:Value}{xs:List Int}(h:AG lo w v xs)(hl:lo'<=lo):AG lo' w v xs:=by
 refine⟨h.1,?_⟩
 rcases h.2 with h'|⟨g,H,bn,rfl,Y,rest⟩
 .exact .inl h'
 .exact .inr ⟨g,H,bn,rfl,yL hl Y,rest⟩
def LL(xs:List Int):Bool:=xs.length==4&&xs.all (Bh · 0 9999)
theorem Mw(n:Int)(w:World):
 Calls prog 133 #[.int .i64 n] w λe w'=>e=.returned (.bool (Bh n 0 9999))/\w=w':=by
 go_in;go_wp2_with (go_at_call 36;refine(D5 _ _ _ _).mono ?_;rintro e w' ⟨rfl,rfl⟩);go_ret;exact⟨rfl,rfl⟩
theorem Tz(n:Int)(w:World):
 Calls prog 132 #[.int .i64 n] w λe w'=>e=.returned (.bool (!Bh n 0 9999))/\w=w':=by
 go_in;go_wp2_with (go_at_call 133;refine(Mw _ _).mono ?_;rintro e w' ⟨rfl,rfl⟩);go_ret;exact⟨rfl,rfl⟩
theorem Vs(xs:List Int):(!xs.any λx=>!Bh x 0 9999)=xs.all (Bh · 0 9999):=by simp[tD]
theorem Ow(v:Value)(xs:List Int)(w:World)(h:Ax w v xs):
 Calls prog 74 #[v] w λe w'=>e=.returned (.bool (LL xs))/\w=w':=by
 obtain⟨a,c,rfl,z,am,H0⟩:=h.open;unfold maxLen at am
 by_cases h4:xs.length=4
 .have e1:LL xs=xs.all (Bh · 0 9999):=by simp[LL,h4]
  have Y:((xs.length:Int)==4)=true:=by simp[h4]
  have ai:=AA e1;clear e1;clear h4;go_in;go_wp2_with (go_at_call 123;refine(OK 132 #[] (λx=>!Bh x 0 9999) _ xs _ h (λ_ _=>by kernel_rfl) (λx w=>Tz x w)).mono ?_;rintro e w' ⟨rfl,rfl⟩);go_ret;exact⟨AI (by rw[ai.out,Vs]),rfl⟩
 .have e1:LL xs=false:=by simp[LL,h4]
  have Y:((xs.length:Int)==4)=false:=by simp;omega
  have ai:=AA e1;clear e1;clear h4;go_in;go_wp2_with fail;go_ret;exact⟨AI ai.out.symm,rfl⟩
theorem KL(n:Int)(w:World):
 Calls prog 81 #[.int .i64 n] w λe w'=>e=.returned (.bool (Bh n 0 63))/\w=w':=by
 go_in;go_wp2_with (go_at_call 36;refine(D5 _ _ _ _).mono ?_;rintro e w' ⟨rfl,rfl⟩);go_ret;exact⟨rfl,rfl⟩
theorem Ou(n:Int)(w:World):
 Calls prog 18 #[.int .i64 n] w λe w'=>e=.returned (.bool (Bh n 1 2))/\w=w':=by
 go_in;go_wp2_with (go_at_call 36;refine(D5 _ _ _ _).mono ?_;rintro e w' ⟨rfl,rfl⟩);go_ret;exact⟨rfl,rfl⟩
theorem KM(n:Int)(w:World):
 Calls prog 139 #[.int .i64 n] w λe w'=>e=.returned (.bool (Bh n 0 63))/\w=w':=by
 go_in;go_wp2_with (go_at_call 22;refine(Cx _ _ _ _).mono ?_;rintro e w' ⟨rfl,rfl⟩);go_ret;exact⟨rfl,rfl⟩
theorem Dk(n:Int)(w:World):Calls prog 61 #[.int .i64 n] w λe w'=>e=.returned (.bool (Bh n 0 11))/\w=w':=by go_in;go_wp2_with (go_at_call 36;refine(D5 _ _ _ _).mono ?_;rintro e w' ⟨rfl,rfl⟩);go_ret;exact⟨rfl,rfl⟩
theorem Ov(n:Int)(w:World):Calls prog 147 #[.int .i64 n] w λe w'=>e=.returned (.bool (Bh n 0 3))/\w=w':=by go_in;go_wp2_with (go_at_call 36;refine(D5 _ _ _ _).mono ?_;rintro e w' ⟨rfl,rfl⟩);go_ret;exact⟨rfl,rfl⟩
theorem WX(n:Int)(w:World):Calls prog 176 #[.int .i64 n] w λe w'=>e=.returned (.bool (Bh n 0 15))/\w=w':=by go_in;go_wp2_with (go_at_call 36;refine(D5 _ _ _ _).mono ?_;rintro e w' ⟨rfl,rfl⟩);go_ret;exact⟨rfl,rfl⟩
theorem ND(f:Int)(w:World)(h0:0<=f)(J:f<=11):Calls prog 76 #[.int .i64 f,.bool true] w λe w'=>e=.returned (.tuple #[.int .i64 (Iy f),.bool true])/\w=w':=by have ai:=AA (show Bh f 0 11=true from AZ.2 ⟨h0,J⟩);go_in;go_wp2_with (go_at_call 61;refine(Dk _ _).mono ?_;rintro e w' ⟨rfl,rfl⟩;rw[ai.out]);go_ret2;exact⟨rfl,rfl⟩
theorem Om(f:Int)(b:Bool)(w:World)(h:Bh f 0 11=false):Calls prog 76 #[.int .i64 f,.bool b] w λe w'=>e=.returned (.tuple #[.int .i64 0,.bool false])/\w=w':=by have ai:=AA h;clear h;go_in;go_wp2_with (go_at_call 61;refine(Dk _ _).mono ?_;rintro e w' ⟨rfl,rfl⟩;rw[ai.out]);go_ret2;exact⟨rfl,rfl⟩
theorem U2{x:Int}(h:Bn x=true):0<x/\x<48/\x%2=1:=by simp only[Bn,yD,decide_eq_true_eq] at h;omega
theorem U1{x:Int}(h:Bn x=true):((BM x:Nat):Int)=x/4:=by have:=U2 h;unfold BM;omega
def Tt(x:Int):Value:=.tuple #[.int .i64 (if Bn x then((BM x:Nat):Int) else 0),.bool (Bn x&&Kv x),.bool (Bn x)]
theorem Ed{x:Int}(h:Bn x=true):Tt x=.tuple #[.int .i64 ((BM x:Nat):Int),.bool (Kv x),.bool true]:=by simp[Tt,h]
theorem Eg{x:Int}(h:Bn x=false):Tt x=.tuple #[.int .i64 0,.bool false,.bool false]:=by simp[Tt,h]
theorem FL(x:Int)(w:World)(N:x<=9223372036854775807):Calls prog 121 #[.int .i64 x] w λe w'=>e=.returned (Tt x)/\w=w':=by
 by_cases h0:x<0
 .have hk:=AA (Eg (x:=x) (by simp[Bn];omega))
  go_in;go_wp2_with fail;go_ret3;exact⟨Og hk.out.symm,rfl⟩
 .have iH:0<=x:=by omega
  by_cases J:x%2=0
  .have hk:=AA (Eg (x:=x) (by simp[Bn];omega))
   have t:(x%2==0)=true:=by simp[J]
   clear J;go_in;go_wp2_with fail;go_ret3;exact⟨Og hk.out.symm,rfl⟩
  .have t:(x%2==0)=false:=by simp;omega
   cases Y:Bh (x/4) 0 11
   focus
    have hk:=AA (Eg (x:=x) (by have:=Tx.1 Y;simp[Bn];omega))
    have ai:=AA Y;clear Y J
   rotate_left
   focus
    have Z:Bn x=true:=by have:=AZ.1 Y;simp[Bn];omega
    have W:Kv x=(x%4==3):=by cases h:(x%4==3)<;>simp_all[Kv]
    have hk:=AA (show Tt x=.tuple #[.int .i64 (x/4),.bool (x%4==3),.bool true] by rw[Ed Z,U1 Z,W]);clear W;have ai:=AA Y;clear Y J Z
   rotate_left
   all_goals
    go_in;go_wp2_with (go_at_call 61;refine(Dk _ _).mono ?_;rintro e w' ⟨rfl,rfl⟩;rw[ai.out]);go_ret3;exact⟨Og hk.out.symm,rfl⟩
theorem Pr(a:Nat)(w:World)(h:a<64):Calls prog 130 #[.int .i64 a] w λe w'=>e=.returned (.tuple #[.int .i64 ((a/16:Nat):Int),.int .i64 ((a/4%4:Nat):Int),.int .i64 ((a%4:Nat):Int),.bool true])/\w=w':=by
 have ai:=AA (show Bh (a:Int) 0 63=true from AZ.2 (by omega));have e1:(a:Int)/16=((a/16:Nat):Int):=by omega
 have e2:(a:Int)/4%4=((a/4%4:Nat):Int):=by omega
 have e3:(a:Int)%4=((a%4:Nat):Int):=by omega
 have hk:=AA (And.intro e1 (And.intro e2 e3));clear e1 e2 e3;go_in;go_wp2_with (go_at_call 81;refine(KL _ _).mono ?_;rintro e w' ⟨rfl,rfl⟩;rw[ai.out]);refine bodyPost_ret (v:=.tuple #[.int .i64 ((a:Int)/16),.int .i64 ((a:Int)/4%4),.int .i64 ((a:Int)%4),.bool true]) (by simp[results,Tryz.results130,go_sem]) rfl ⟨?_,rfl⟩;rw[hk.out.1,hk.out.2.1,hk.out.2.2]
theorem Lg(k:Int)(w:World):Calls prog 129 #[.int .i64 k] w λe w'=>e=.returned (.int .i64 (VU k))/\w=w':=by
 by_cases h3:k=3
 .subst h3
  go_in;go_wp2_with fail;go_ret;exact⟨rfl,rfl⟩
 .have t3:(k==3)=false:=by simp[h3]
  by_cases O:k=2
  .subst O
   go_in;go_wp2_with fail;go_ret;exact⟨rfl,rfl⟩
  .have t2:(k==2)=false:=by simp[O]
   have hk:=AA (show VU k=0 by simp[VU,Bi,O,h3]);clear O h3;go_in;go_wp2_with fail;go_ret;exact⟨Cl hk.out.symm,rfl⟩
theorem Fq(k:Int)(w:World):Calls prog 64 #[.int .i64 k] w λe w'=>e=.returned (.bool (Bi k))/\w=w':=by
 by_cases O:k=2
 .subst O
  go_in;go_wp2_with fail;go_ret;exact⟨rfl,rfl⟩
 .have t2:(k==2)=false:=by simp[O]
  have hk:=AA (show Bi k=(k==3) by cases h:(k==3)<;>simp_all[Bi]);clear O;go_in;go_wp2_with fail;go_ret;exact⟨AI hk.out.symm,rfl⟩
theorem PI(k:Int)(w:World):Calls prog 149 #[.int .i64 k] w λe w'=>e=.returned (.int .i64 (Gv k))/\w=w':=by
 by_cases h3:k=0
 .subst h3
  go_in;go_wp2_with fail;go_ret;exact⟨rfl,rfl⟩
 .have t3:(k==0)=false:=by simp[h3]
  by_cases O:k=1
  .subst O
   go_in;go_wp2_with fail;go_ret;exact⟨rfl,rfl⟩
  .have t2:(k==1)=false:=by simp[O]
   have hk:=AA (show Gv k=3 by simp[Gv,O,h3]);clear O h3;go_in;go_wp2_with fail;go_ret;exact⟨Cl hk.out.symm,rfl⟩
theorem PP{k:Nat}(h:k<s.size)(z:Fi s[k]=false):BO s=false:=by
 have:s.data.toList.all Fi=false:=by rw[xh];exact⟨s[k],by simp[uG],by simp[z]⟩
 simp[BO,this]
theorem UV{s:ByteArray}(h:∀k (E:k<s.size),Fi s[k]=true):BO s=decide ((s.size:Int)<=4):=by
 have:s.data.toList.all Fi=true:=by rw[yr];intro x N;obtain⟨k,E,rfl⟩:=xl N;have:=h k (by simpa using E);simpa[uG] using this
 rw[BO,this,Bool.true_and]
 by_cases h4:s.size<=4
 .have:(s.size:Int)<=4:=by omega
  simp[h4,this]
 .have:¬(s.size:Int)<=4:=by omega
  simp[h4,this]
theorem EY(s:ByteArray)(w:World)(V:s.size<=maxLen):
 Calls prog 185 #[.string s] w λe w'=>e=.returned (.bool (BO s))/\w=w':=by
 unfold maxLen at V;go_in;go_wp2_with fail;go_loop [3] (λi=>∃k:Nat,k<=s.size/\i=.int .i64 k/\∀j (X:j<s.size),j<k->Fi s[j]=true) (λi=>s.size - (intOf i).toNat)
 exact⟨0,yu _,rfl,λj _ X=>absurd X (xW _)⟩
 obtain⟨k,E,rfl,ay⟩:=hrel;have ax:=AA ay;clear ay
 by_cases aq:k<s.size
 .by_cases J:s[k].toNat<97
  .have S:=AA (PP (s:=s) aq (by simp[Fi];omega))
   have t1:(s[k].toNat:Int)<97:=by omega
   go_wp2_with fail;go_ret;exact⟨AI S.out.symm,rfl⟩
  .by_cases O:99<s[k].toNat
   .have S:=AA (PP (s:=s) aq (by simp[Fi];omega))
    have t1:(99:Int)<s[k].toNat:=by omega
    have t2:¬(s[k].toNat:Int)<97:=by omega
    go_wp2_with fail;go_ret;exact⟨AI S.out.symm,rfl⟩
   .have Ok:=AA (show Fi s[k]=true by simp[Fi];omega)
    have t1:¬(99:Int)<s[k].toNat:=by omega
    have t2:¬(s[k].toNat:Int)<97:=by omega
    go_wp2_with fail;go_round
    case rel=>exact⟨k+1,by omega,by go_num,λj X fS=>by
     rcases xE.1 fS with h|h
     .exact ax.out j X h
     .subst h;exact Ok.out⟩
    case measure=>simp[intOf];omega
 .have S:=AA (UV (s:=s) (λj X=>ax.out j X (by omega)))
  go_wp2_with fail;go_ret;exact⟨AI S.out.symm,rfl⟩
theorem LF{P:Program}{f:FuncId}{al:Array Value}{w:World}{n:Nat}{v:Value}(h:Calls P f al (w.drewN n) λe w'=>e=.returned v/\w.drewN n=w'):Calls P f al (w.drewN n) λe cb=>e=.returned v/\∃m,cb=w.drewN m:=
 h.mono λ_ _ ⟨he,hm⟩=>⟨he,n,hm.symm⟩
theorem Pg{w wr:World}(h:∃n,wr=w.drewN n)(m:Nat):∃n,wr.drewN m=w.drewN n:=by obtain⟨n,rfl⟩:=h;exact⟨n+m,Lm w n m⟩
theorem Jc{k:Nat}(h:k<ss.length)(z:Cv ss k=false):BS ss=false:=by have:(yN ss.length).all (Cv ss)=false:=xh.2 ⟨k,yj.2 h,by simp[z]⟩;simp[BS,this]
theorem Mi(h:∀k,k<ss.length->Cv ss k=true):BS ss=decide ((ss.length:Int)<=6):=by
 have:(yN ss.length).all (Cv ss)=true:=yr.2 λk E=>h k (yj.1 E)
 rw[BS,this,Bool.true_and]
 by_cases h4:ss.length<=6
 .have:(ss.length:Int)<=6:=by omega
  simp[h4,this]
 .have:¬(ss.length:Int)<=6:=by omega
  simp[h4,this]
theorem Tc.str{w:World}{a:Option Addr}(h:Tc 1 Ay w a ss){k:Nat}(E:k<ss.length):∃b D,a=some ⟨b,D,none⟩/\w.cell? ⟨b,D+k,none⟩=some (.string (Cp ss k)):=by obtain⟨b,D,rfl,_,z⟩:=h k _ (Gl E);exact⟨b,D,rfl,by simpa using z 0 _ rfl⟩
def DH(ss:List ByteArray):Prop:=∀s∈ss,s.size<=maxLen
theorem DH.nth(h:DH ss){k:Nat}(E:k<ss.length):(Cp ss k).size<=maxLen:=h _ (yx (Gl E))
theorem Gi(v:Value)(ss:List ByteArray)(w:World)(h:BT w v ss)(V:DH ss):
 Calls prog 159 #[v] w λe w'=>e=.returned (.bool (BS ss))/\∃n,w'=w.drewN n:=by
 obtain⟨a,c,rfl,z,am,H0⟩:=BG.open FJ (by decide) h;unfold maxLen at am;have Hs:=AA V;clear V h;go_in;go_wp2_with fail;go_loopw [3] (λi wr=>∃k:Nat,k<=ss.length/\i=.int .i64 k/\(∀j,j<k->Cv ss j=true)/\∃n,wr=w.drewN n) (λi _=>ss.length - (intOf i).toNat)
 exact⟨0,yu _,rfl,λj X=>absurd X (xW _),0,rfl⟩
 obtain⟨k,E,rfl,ay,hw⟩:=hrel;have ax:=AA ay;clear ay;have Hw:=AA hw;clear hw
 by_cases aq:k<ss.length
 .obtain⟨b,D,rfl,D0⟩:=H0.str aq
  have ab:wr.cell? ⟨b,D+k,none⟩=some (.string (Cp ss k)):=by obtain⟨n,rfl⟩:=Hw.out;exact D0
  have fP:(k:Int)<ss.length:=by omega
  have cy:=Hs.out.nth aq;cases bi:BO (Cp ss k)
  .have S:=AA (Jc aq (by simp[Cv,bi]))
   have HQ:=AA (show ∀W,Calls prog 185 #[.string (Cp ss k)] W λe w'=>e=.returned (.bool false)/\W=w' from λW=>by have:=EY (Cp ss k) W cy;rwa [bi] at this);clear bi D0;go_wp2_with fail;go_quiet ((go_at_call 185;exact LF (HQ.out _)));go_wp2_with fail;go_ret;exact⟨AI S.out.symm,Pg Hw.out _⟩
  .have HQ:=AA (show ∀W,Calls prog 185 #[.string (Cp ss k)] W λe w'=>e=.returned (.bool true)/\W=w' from λW=>by have:=EY (Cp ss k) W cy;rwa [bi] at this)
   by_cases ew:k=0
   .have Ok:=AA (show Cv ss k=true by simp[Cv,bi];exact .inl ew)
    have t0:decide (0<k)=false:=by simp;omega
    clear bi ew D0;go_wp2_with fail;go_quiet ((go_at_call 185;exact LF (HQ.out _)));go_wp2_with fail;go_roundw;exact⟨k+1,by omega,by go_num,Al ax.out Ok.out,Pg Hw.out _⟩;simp[intOf];omega
   .obtain⟨b',dq,ek,E0⟩:=H0.str (show k - 1<ss.length by omega)
    obtain⟨rfl,rfl⟩:b=b'/\D=dq:=by simpa using ek
    have hk:wr.cell? ⟨b,D+(k - 1),none⟩=some (.string (Cp ss (k - 1))):=by obtain⟨n,rfl⟩:=Hw.out;exact E0
    have t0:decide (0<k)=true:=by simp;omega
    have ir:(0:Int)<k:=by omega
    have s0:xj.wrap ((k:Int) - 1)=(k:Int) - 1:=xM _ (by omega);have s1:((k:Int) - 1).toNat=k - 1:=by omega
    have s2:(k:Int) - 1<ss.length:=by omega
    have s3:(1:Int)<=k:=by omega
    have s4:(0:Int)<=(k:Int) - 1:=by omega
    clear D0 E0 ek;cases cP:M8 (Cp ss (k - 1)) (Cp ss k)
    .have Ok:=AA (show Cv ss k=true by simp[Cv,bi,cP])
     have hL:wJ (Cp ss (k - 1)).toList (Cp ss k).toList=true:=by simpa[M8] using cP
     clear bi cP;go_wp2_with fail;go_quiet ((go_at_call 185;exact LF (HQ.out _)));go_wp2_with fail;go_roundw;exact⟨k+1,by omega,by go_num,Al ax.out Ok.out,Pg Hw.out _⟩;simp[intOf];omega
    .have S:=AA (Jc aq (by simp[Cv,bi,cP,ew]))
     have hL:wJ (Cp ss (k - 1)).toList (Cp ss k).toList=false:=by simpa[M8] using cP
     clear bi cP;go_wp2_with fail;go_quiet ((go_at_call 185;exact LF (HQ.out _)));go_wp2_with fail;go_ret;exact⟨AI S.out.symm,Pg Hw.out _⟩
 .have S:=AA (Mi (ss:=ss) (λj X=>ax.out j (by omega)))
  go_wp2_with fail;go_ret;exact⟨AI S.out.symm,Hw.out⟩
def GP{α:Type}(p:α->Bool)(xs:List α):Int:=if xs.any p then(xs.findIdx p:Int) else -1
section
variable {α:Type} {p:α->Bool} {xs:List α}
theorem Iz(h:∀(j:Nat) x,xs[j]?=some x->p x=false):GP p xs= -1:=by
 unfold GP;have:xs.any p=false:=by rw[um];intro x N;obtain⟨j,X⟩:=xq N;simp[h j x X]
 simp[this]
theorem KY{k:Nat}{x:α}(E:xs[k]?=some x)(h:∀(j:Nat) y,j<k->xs[j]?=some y->p y=false)(hp:p x=true):GP p xs=k:=by
 unfold GP;obtain⟨aq,rfl⟩:=yE.1 E;have J:xs.any p=true:=vV.2 ⟨xs[k],ue aq,hp⟩;have O:xs.findIdx p=k:=by
  rw[tN aq];exact⟨hp,λj X=>h j _ X (yH (by omega))⟩
 simp[J,O]
theorem KZ:decide (0<=GP p xs)=xs.any p:=by unfold GP;cases xs.any p<;>simp
theorem Iu{k:Nat}{x:α}(h:∀(j:Nat) y,j<k->xs[j]?=some y->p y=false)(E:xs[k]?=some x)(hp:p x=false):∀(j:Nat) y,j<k+1->xs[j]?=some y->p y=false:=by
 intro j y X hy
 rcases xE.1 X with h'|h'
 .exact h j y h' hy
 .subst h'
  rw[E] at hy;cases hy;exact hp
end
theorem J5(F:Nat)(au:Array Value)(p:AV->Bool)(v:Value)(xs:List AV)(w:World)(h:BW w v xs)
 (hF:∀al w,(callFunc F al).run prog w=.ok (.enter F al) w)(hf:∀x,x∈xs->∀W,Below w.heap.size w W->Calls prog F (#[x.val]++au) W λe W'=>e=.returned (.bool (p x))/\Below W.heap.size W W'):
 Calls prog 175 #[v,.func (.func F) #[] au] w λe w'=>e=.returned (.int .i64 (GP p xs))/\Below w.heap.size w w':=by
 obtain⟨a,c,rfl,z,am,H0⟩:=BG.open Av (by decide) h;clear h;unfold maxLen at am;have Hf:=AA hf;clear hf;go_in;go_wp2;go_loopw [8] (λi wr=>∃k:Nat,k<=xs.length/\i=.int .i64 k/\(∀(j:Nat) x,j<k->xs[j]?=some x->p x=false)/\Below w.heap.size w wr) (λi _=>xs.length - (intOf i).toNat)
 exact⟨0,yu _,rfl,λj x X=>absurd X (xW _),yO _ _⟩
 obtain⟨k,E,rfl,ay,ac⟩:=hrel;have ax:=AA ay;clear ay
 by_cases aq:k<xs.length
 .have N:xs[k]?=some (Sc xs k):=by simp[Sc,aq]
  obtain⟨b,D,rfl,bC,eh,ft,fq⟩:=H0.Dq aq;have D0:=(ac.cell (p:=⟨b,D+k*3,none⟩) bC).trans eh;have D1:=(ac.cell (p:=⟨b,D+k*3+1,none⟩) bC).trans ft;have D2:=(ac.cell (p:=⟨b,D+k*3+2,none⟩) bC).trans fq;clear eh ft fq;have Hx:=AA N;have Hc:=AA (Hf.out _ (yx N) wr ac);clear N;cases hp:p (Sc xs k)
  .have Hp:=AA hp;clear hp
   go_wp2_with (refine(Hc.out).mono ?_;rintro e w' ⟨rfl,ar⟩;rw[Hp.out]);go_roundw;exact⟨k+1,by omega,by go_num,Iu ax.out Hx.out Hp.out,ac.trans (ar.mono ac.size)⟩;simp[intOf];omega
  .have Hp:=AA hp;clear hp
   have bl:=AA (KY Hx.out ax.out Hp.out);go_wp2_with (refine(Hc.out).mono ?_;rintro e w' ⟨rfl,ar⟩;rw[Hp.out]);go_ret;exact⟨Cl bl.out.symm,ac.trans (ar.mono ac.size)⟩
 .have bl:=AA (Iz (p:=p) (xs:=xs) (λj x N=>ax.out j x (by have:=(yE.1 N).1;omega) N))
  go_wp2;go_ret;exact⟨Cl bl.out.symm,ac⟩
theorem Lb(F:Nat)(au:Array Value)(p:AV->Bool)(v:Value)(xs:List AV)(w:World)(h:BW w v xs)
 (hF:∀al w,(callFunc F al).run prog w=.ok (.enter F al) w)(hf:∀x,x∈xs->∀W,Below w.heap.size w W->Calls prog F (#[x.val]++au) W λe W'=>e=.returned (.bool (p x))/\Below W.heap.size W W'):
 Calls prog 116 #[v,.func (.func F) #[] au] w λe w'=>e=.returned (.bool (xs.any p))/\Below w.heap.size w w':=by
 have hk:=AA (KZ (p:=p) (xs:=xs));have C:=AA (J5 F au p v xs w h hF hf);clear h hf;go_in;go_wp2_with (refine(C.out).mono ?_;rintro e w' ⟨rfl,ar⟩);go_ret;exact⟨AI hk.out,ar⟩
theorem JS(F:Nat)(au:Array Value)(p:Ad->Bool)(v:Value)(xs:List Ad)(w:World)(h:DY w v xs)
 (hF:∀al w,(callFunc F al).run prog w=.ok (.enter F al) w)(hf:∀x,x∈xs->∀W,Below w.heap.size w W->Calls prog F (#[x.val]++au) W λe W'=>e=.returned (.bool (p x))/\Below W.heap.size W W'):
 Calls prog 177 #[v,.func (.func F) #[] au] w λe w'=>e=.returned (.int .i64 (GP p xs))/\Below w.heap.size w w':=by
 obtain⟨a,c,rfl,z,am,H0⟩:=BG.open Ce (by decide) h;clear h;unfold maxLen at am;have Hf:=AA hf;clear hf;go_in;go_wp2;go_loopw [8] (λi wr=>∃k:Nat,k<=xs.length/\i=.int .i64 k/\(∀(j:Nat) x,j<k->xs[j]?=some x->p x=false)/\Below w.heap.size w wr) (λi _=>xs.length - (intOf i).toNat)
 exact⟨0,yu _,rfl,λj x X=>absurd X (xW _),yO _ _⟩
 obtain⟨k,E,rfl,ay,ac⟩:=hrel;have ax:=AA ay;clear ay
 by_cases aq:k<xs.length
 .have N:xs[k]?=some (AT xs k):=by simp[AT,aq]
  obtain⟨b,D,rfl,bC,eh,ft,fq,gV⟩:=H0.zW aq;have D0:=(ac.cell (p:=⟨b,D+k*4,none⟩) bC).trans eh;have D1:=(ac.cell (p:=⟨b,D+k*4+1,none⟩) bC).trans ft;have D2:=(ac.cell (p:=⟨b,D+k*4+2,none⟩) bC).trans fq;have D3:=(ac.cell (p:=⟨b,D+k*4+3,none⟩) bC).trans gV;clear eh ft fq gV;have Hx:=AA N;have Hc:=AA (Hf.out _ (yx N) wr ac);clear N;cases hp:p (AT xs k)
  .have Hp:=AA hp;clear hp
   go_wp2_with (refine(Hc.out).mono ?_;rintro e w' ⟨rfl,ar⟩;rw[Hp.out]);go_roundw;exact⟨k+1,by omega,by go_num,Iu ax.out Hx.out Hp.out,ac.trans (ar.mono ac.size)⟩;simp[intOf];omega
  .have Hp:=AA hp;clear hp
   have bl:=AA (KY Hx.out ax.out Hp.out);go_wp2_with (refine(Hc.out).mono ?_;rintro e w' ⟨rfl,ar⟩;rw[Hp.out]);go_ret;exact⟨Cl bl.out.symm,ac.trans (ar.mono ac.size)⟩
 .have bl:=AA (Iz (p:=p) (xs:=xs) (λj x N=>ax.out j x (by have:=(yE.1 N).1;omega) N))
  go_wp2;go_ret;exact⟨Cl bl.out.symm,ac⟩
theorem JT(F:Nat)(au:Array Value)(p:ByteArray->Bool)(v:Value)(xs:List ByteArray)(w:World)(h:BT w v xs)
 (hF:∀al w,(callFunc F al).run prog w=.ok (.enter F al) w)(hf:∀x,x∈xs->∀W,Below w.heap.size w W->Calls prog F (#[xZ x]++au) W λe W'=>e=.returned (.bool (p x))/\Below W.heap.size W W'):
 Calls prog 134 #[v,.func (.func F) #[] au] w λe w'=>e=.returned (.int .i64 (GP p xs))/\Below w.heap.size w w':=by
 obtain⟨a,c,rfl,z,am,H0⟩:=BG.open FJ (by decide) h;clear h;unfold maxLen at am;have Hf:=AA hf;clear hf;go_in;go_wp2;go_loopw [8] (λi wr=>∃k:Nat,k<=xs.length/\i=.int .i64 k/\(∀(j:Nat) x,j<k->xs[j]?=some x->p x=false)/\Below w.heap.size w wr) (λi _=>xs.length - (intOf i).toNat)
 exact⟨0,yu _,rfl,λj x X=>absurd X (xW _),yO _ _⟩
 obtain⟨k,E,rfl,ay,ac⟩:=hrel;have ax:=AA ay;clear ay
 by_cases aq:k<xs.length
 .have N:xs[k]?=some (Cp xs k):=by simp[Cp,aq]
  obtain⟨b,D,rfl,eh⟩:=H0.str aq;have bC:=yM w _ eh;have D0:wr.cell? ⟨b,D+k,none⟩=some (.string (Cp xs k)):=(ac.cell (p:=⟨b,D+k,none⟩) bC).trans eh;clear eh;have Hx:=AA N;have Hc:=AA (Hf.out _ (yx N) wr ac);clear N;cases hp:p (Cp xs k)
  .have Hp:=AA hp;clear hp
   go_wp2_with (refine(Hc.out).mono ?_;rintro e w' ⟨rfl,ar⟩;rw[Hp.out]);go_roundw;exact⟨k+1,by omega,by go_num,Iu ax.out Hx.out Hp.out,ac.trans (ar.mono ac.size)⟩;simp[intOf];omega
  .have Hp:=AA hp;clear hp
   have bl:=AA (KY Hx.out ax.out Hp.out);go_wp2_with (refine(Hc.out).mono ?_;rintro e w' ⟨rfl,ar⟩;rw[Hp.out]);go_ret;exact⟨Cl bl.out.symm,ac.trans (ar.mono ac.size)⟩
 .have bl:=AA (Iz (p:=p) (xs:=xs) (λj x N=>ax.out j x (by have:=(yE.1 N).1;omega) N))
  go_wp2;go_ret;exact⟨Cl bl.out.symm,ac⟩
theorem Ko(F:Nat)(au:Array Value)(p:ByteArray->Bool)(v:Value)(xs:List ByteArray)(w:World)(h:BT w v xs)
 (hF:∀al w,(callFunc F al).run prog w=.ok (.enter F al) w)(hf:∀x,x∈xs->∀W,Below w.heap.size w W->Calls prog F (#[xZ x]++au) W λe W'=>e=.returned (.bool (p x))/\Below W.heap.size W W'):
 Calls prog 77 #[v,.func (.func F) #[] au] w λe w'=>e=.returned (.bool (xs.any p))/\Below w.heap.size w w':=by
 have hk:=AA (KZ (p:=p) (xs:=xs));have C:=AA (JT F au p v xs w h hF hf);clear h hf;go_in;go_wp2_with (refine(C.out).mono ?_;rintro e w' ⟨rfl,ar⟩);go_ret;exact⟨AI hk.out,ar⟩
theorem NF(F:Nat)(au:Array Value)(p:List Int->Bool)(v:Value)(m:List (List Int))(w:World)(h:Bf w v m)
 (hF:∀al w,(callFunc F al).run prog w=.ok (.enter F al) w)(hf:∀u r,r∈m->∀W,Below w.heap.size w W->Ax W u r->Calls prog F (#[u]++au) W λe W'=>e=.returned (.bool (p r))/\Below W.heap.size W W'):
 Calls prog 131 #[v,.func (.func F) #[] au] w λe w'=>e=.returned (.int .i64 (GP p m))/\Below w.heap.size w w':=by
 obtain⟨vs,J,O⟩:=h;obtain⟨a,c,rfl,z,am,H0⟩:=BG.open FI (by decide) J;clear J;unfold maxLen at am;have Hf:=AA hf;clear hf;have H2:=AA O;clear O;go_in;go_wp2;go_loopw [8] (λi wr=>∃k:Nat,k<=vs.length/\i=.int .i64 k/\(∀(j:Nat) x,j<k->m[j]?=some x->p x=false)/\Below w.heap.size w wr) (λi _=>vs.length - (intOf i).toNat)
 exact⟨0,yu _,rfl,λj x X=>absurd X (xW _),yO _ _⟩
 obtain⟨k,E,rfl,ay,ac⟩:=hrel;have ax:=AA ay;clear ay
 by_cases aq:k<vs.length
 .obtain⟨u,hu⟩:∃u,vs[k]?=some u:=⟨_,yH aq⟩
  obtain⟨r,N⟩:∃r,m[k]?=some r:=⟨_,yH (by rw[<-H2.out.1];exact aq)⟩
  obtain⟨b,D,rfl,bC,av⟩:=H0 k u hu;have D0:wr.cell? ⟨b,D+k,none⟩=some u:=(ac.cell (p:=⟨b,D+k,none⟩) bC).trans (by simpa using av 0 u rfl);have hr:=H2.out.2 k u r hu N;have Hx:=AA N;have Hc:=AA (Hf.out u r (yx N) wr ac (Ax.below hr ac));clear N hu av hr;cases hp:p r
  .have Hp:=AA hp;clear hp
   go_wp2_with (refine(Hc.out).mono ?_;rintro e w' ⟨rfl,ar⟩;rw[Hp.out]);go_roundw;exact⟨k+1,by omega,by go_num,Iu ax.out Hx.out Hp.out,ac.trans (ar.mono ac.size)⟩;simp[intOf];omega
  .have Hp:=AA hp;clear hp
   have bl:=AA (KY Hx.out ax.out Hp.out);go_wp2_with (refine(Hc.out).mono ?_;rintro e w' ⟨rfl,ar⟩;rw[Hp.out]);go_ret;exact⟨Cl bl.out.symm,ac.trans (ar.mono ac.size)⟩
 .have bl:=AA (Iz (p:=p) (xs:=m) (λj x N=>ax.out j x (by have:=(yE.1 N).1;rw[<-H2.out.1] at this;omega) N))
  go_wp2;go_ret;exact⟨Cl bl.out.symm,ac⟩
theorem Ir(F:Nat)(au:Array Value)(p:List Int->Bool)(v:Value)(m:List (List Int))(w:World)(h:Bf w v m)
 (hF:∀al w,(callFunc F al).run prog w=.ok (.enter F al) w)(hf:∀u r,r∈m->∀W,Below w.heap.size w W->Ax W u r->Calls prog F (#[u]++au) W λe W'=>e=.returned (.bool (p r))/\Below W.heap.size W W'):
 Calls prog 72 #[v,.func (.func F) #[] au] w λe w'=>e=.returned (.bool (m.any p))/\Below w.heap.size w w':=by
 have hk:=AA (KZ (p:=p) (xs:=m));have C:=AA (NF F au p v m w h hF hf);clear h hf;go_in;go_wp2_with (refine(C.out).mono ?_;rintro e w' ⟨rfl,ar⟩);go_ret;exact⟨AI hk.out,ar⟩
section
variable {α:Type} {lo e sz:Nat} {cs:α->List Value} {w:World} {g H k:Nat} {xs:List α}
theorem AO.zX{v:Value}(h:AO lo e sz cs w v xs)(hn:0<xs.length):∃g H,v=.slice (some ⟨g,0,none⟩) xs.length H/\xs.length<=H/\H<=maxLen/\lo<=g/\g<w.heap.size/\∀j,w.frozen? ⟨g,j,none⟩=false:=by
 obtain⟨g,H,rfl,J,O⟩:=Jj h hn;obtain⟨a,c,hv,h3,h4⟩:=h.rd.shape;cases hv;exact⟨g,H,rfl,h3,h4,J,O,λj=>xT h j⟩
theorem AO.stored(V:∀x,(cs x).length=sz)(h:AO lo e sz cs w (.slice (some ⟨g,0,none⟩) xs.length H) xs)(E:k<xs.length)(y:α):
 AO lo e sz cs (Gw w g (k*sz) 0 (cs y)) (.slice (some ⟨g,0,none⟩) xs.length H) (xs.set k y)/\w.grownBy (Gw w g (k*sz) 0 (cs y)) (some g):=by
 obtain⟨J,O⟩:=El h (k*sz) 0 (cs y);rw[U5 V E] at J;refine⟨?_,O⟩;unfold AO;rw[yi];exact J
theorem AO.zK(V:∀x,(cs x).length=sz)(h:AO lo e sz cs w (.slice (some ⟨g,0,none⟩) xs.length H) xs){x:α}(E:xs[k]?=some x):∀(j:Nat) u,(cs x)[j]?=some u->w.cell? ⟨g,k*sz+j,none⟩=some u:=by
 intro j u X;have aq:=(yE.1 E).1;have dv:j<sz:=by rw[<-V x];exact(yE.1 X).1
 have hm:k*sz+sz<=xs.length*sz:=by rw[<-uS];exact wL _ aq
 rw[xx h (k*sz+j) (by omega),Ph V E dv,X]
end
theorem AO.Dq{lo e g H k:Nat}{w:World}{xs:List AV}(h:AO lo e 3 At w (.slice (some ⟨g,0,none⟩) xs.length H) xs)(E:k<xs.length):
 w.cell? ⟨g,k*3,none⟩=some (.int .i64 (Sc xs k).k)/\w.cell? ⟨g,k*3+1,none⟩=some (.string (Sc xs k).g)/\w.cell? ⟨g,k*3+2,none⟩=some (.int .i64 (Sc xs k).r):=by
 have z:=AO.zK Av h (k:=k) (x:=Sc xs k) (by simp[Sc,E]);exact⟨z 0 _ rfl,z 1 _ rfl,z 2 _ rfl⟩
theorem AO.zW{lo e g H k:Nat}{w:World}{xs:List Ad}(h:AO lo e 4 AX w (.slice (some ⟨g,0,none⟩) xs.length H) xs)(E:k<xs.length):
 w.cell? ⟨g,k*4,none⟩=some (.int .i64 (AT xs k).e)/\w.cell? ⟨g,k*4+1,none⟩=some (.int .i64 (AT xs k).p)/\w.cell? ⟨g,k*4+2,none⟩=some (.int .i64 (AT xs k).f)/\w.cell? ⟨g,k*4+3,none⟩=some (.bool (AT xs k).w):=by
 have z:=AO.zK Ce h (k:=k) (x:=AT xs k) (by simp[AT,E]);exact⟨z 0 _ rfl,z 1 _ rfl,z 2 _ rfl,z 3 _ rfl⟩
theorem AM{w w' cb:World}{g:Nat}(h:Below B w w')(Z:w'.grownBy cb (some g))(hB:B<=g)(V:B<=w'.heap.size):Below B w cb:=h.grown Z V (λk E=>by cases E;exact hB)
theorem Gt(b o:Nat)(vs:List Value):∀(j:Nat)(w:World),w.setCells b (o+j) vs=Gw w b o j vs:=by
 induction vs with
 |nil=>intro j w;rfl
 |cons v vs ih=>intro j w;exact ih (j+1) _
theorem Ub(xs us:List Value)(o:Nat):∀(j:Nat),(FW xs o j us).take o=xs.take o:=by
 induction us generalizing xs with
 |nil=>intro j;rfl
 |cons u us ih=>
  intro j;rw[FW,ih];apply sG;intro k
  by_cases E:k<o
  .rw[uZ E,uZ E,List.getElem?_set_ne (by omega)]
  .rw[tP (by omega),tP (by omega)]
theorem PF{lo e sz n k:Nat}{w:World}{g H:Nat}{xs:List Value}(h:w.ownsRow lo e sz (.slice (some ⟨g,0,none⟩) n H) n xs)(E:k<=n):w.ownsRow lo e sz (.slice (some ⟨g,0,none⟩) k H) k (xs.take (k*sz)):=by
 rcases h.2 with⟨h0,_⟩|⟨g',cap',bn,hv,Y,Z,bw,am,cv,htake⟩
 .cases h0
 .cases hv
  have hm:k*sz<=n*sz:=wL _ E;refine⟨by rw[yt,h.1];omega,.inr ⟨g,H,bn,rfl,Y,Z,by omega,am,cv,?_⟩⟩;rw[<-htake,vm,vP hm]
theorem KQ{P:Program}{lo e sz n k g H:Nat}{w:World}{xs:List Value}{hc:Value}(K:P.underlying t=some (.slice e))(hv:∀w,(zeroValue e).run P w=.ok hc w)(em:hc.cells.size=sz)(J:∀u∈hc.cells.toList,u.oneCell'=true)
 (h:w.ownsRow lo e sz (.slice (some ⟨g,0,none⟩) n H) n xs)(E:k<n):
 ∃w',(∀ty c,(tY #[t] ty #[.slice (some ⟨g,k*sz,none⟩) (n - k) c]).run P w=.ok (.tuple #[]) w')/\w'.ownsRow lo e sz (.slice (some ⟨g,0,none⟩) k H) k (xs.take (k*sz))/\w.grownBy w' (some g):=by
 have bk:(xY hc.cells (n - k)).toList.length=(n - k)*sz:=by simp[xY,em,Nat.mul_comm]
 have iu:=h.1;have hV:k*sz+(n - k)*sz=n*sz:=by rw[<-Nat.add_mul];congr 1;omega
 have hst:=run_storeCells_cells (P:=P) g (k*sz) (xY hc.cells (n - k)).toList 0 w (by
  intro j X;rw[bk] at X;have:=xx h (k*sz+j) (by omega);simp only[xU] at this ⊢;rw[this];simp;omega) (by intro j _;exact xT h _) (by
  intro u hu;simp only[xY,Array.toList_map,vZ,Array.mem_toList_iff,Array.mem_range] at hu;obtain⟨i,A,rfl⟩:=hu;have V:0<hc.cells.size:=by
   rcases wC hc.cells.size with h0|h0
   .rw[h0] at A;simp at A
   .exact h0
  have aq:i%hc.cells.size<hc.cells.size:=sF _ V;refine J _ ?_;simp[aq])
 obtain⟨m,hm⟩:∃m,n - k=m+1:=⟨n - k - 1,by omega⟩
 simp only[xU] at hst;refine⟨w.setCells g (k*sz) (xY hc.cells (n - k)).toList,λty c=>?_,?_,?_⟩
 .rw[hm] at hst ⊢
  simp[tY,tr K,hv,hst]
 .have e0:=Gt g (k*sz) (xY hc.cells (n - k)).toList 0 w
  rw[xU] at e0;rw[e0];obtain⟨a1,_⟩:=El h (k*sz) 0 (xY hc.cells (n - k)).toList;have:=PF a1 (Nat.le_of_lt E);rw[Ub] at this;exact this
 .have e0:=Gt g (k*sz) (xY hc.cells (n - k)).toList 0 w
  rw[xU] at e0;rw[e0];exact(El h (k*sz) 0 (xY hc.cells (n - k)).toList).2
section
variable {α:Type} {p:α->Bool} {xs ys:List α} {i j:Nat}
structure JQ(p:α->Bool)(xs ys:List α)(i j:Nat):Prop where
 len:ys.length=xs.length
 lt:i<j
 le:j<=xs.length
 kept:ys.take i=(xs.take j).filter λx=>!p x
 rest:ys.drop j=xs.drop j
theorem JQ.start{k:Nat}{x:α}(E:xs[k]?=some x)(h:∀(j:Nat) y,j<k->xs[j]?=some y->p y=false)(hp:p x=true):JQ p xs xs k (k+1):=by
 have aq:=(yE.1 E).1;refine⟨rfl,by omega,by omega,?_,rfl⟩;rw[DF E,wF];have J:(xs.take k).filter (λx=>!p x)=xs.take k:=by rw[uy];intro y hy;obtain⟨j,X⟩:=xq hy;have fS:=(yE.1 X).1;rw[yt] at fS;rw[uZ (by omega)] at X;simp[h j y (by omega) X]
 rw[J];simp[hp]
theorem JQ.drop(h:JQ p xs ys i j){x:α}(N:xs[j]?=some x)(hp:p x=true):JQ p xs ys i (j+1):=by
 have aq:=(yE.1 N).1;refine⟨h.len,by have:=h.lt;omega,by omega,?_,?_⟩
 .rw[h.kept,DF N,wF]
  simp[hp]
 .have:=congrArg (List.drop 1) h.rest
  rw[uF,uF] at this;exact this
theorem JQ.keep(h:JQ p xs ys i j){x:α}(N:xs[j]?=some x)(hp:p x=false):JQ p xs (ys.set i x) (i+1) (j+1):=by
 have aq:=(yE.1 N).1;have d5:=h.lt;refine⟨by rw[yi];exact h.len,by omega,by omega,?_,?_⟩
 .have e:(ys.set i x).take (i+1)=ys.take i++[x]:=by
   have A:(ys.set i x)[i]?=some x:=by rw[List.getElem?_set_self (by rw[h.len];omega)]
   rw[DF A,List.take_set_of_le (yG _)]
  rw[e,h.kept,DF N,wF];simp[hp]
 .rw[List.drop_set_of_lt (by omega)]
  have:=congrArg (List.drop 1) h.rest;rw[uF,uF] at this;exact this
theorem JQ.next(h:JQ p xs ys i j):ys[j]?=xs[j]? :=by
 have:=congrArg (λl=>l[0]?) h.rest;simpa using this
theorem JQ.done(h:JQ p xs ys i j)(X:j=xs.length):ys.take i=xs.filter λx=>!p x:=by rw[h.kept,X,xG]
theorem NR(h:GP p xs≠ -1):∃k x,GP p xs=((k:Nat):Int)/\xs[k]?=some x/\p x=true/\∀(j:Nat) y,j<k->xs[j]?=some y->p y=false:=by
 unfold GP at h ⊢
 split
 .rename_i ha
  have hl:xs.findIdx p<xs.length:=vQ.2 (vV.1 ha);refine⟨_,xs[xs.findIdx p],rfl,yH hl,vF,λj y X hy=>?_⟩;obtain⟨fw,rfl⟩:=yE.1 hy;have:=List.not_of_lt_findIdx X;simpa using this
 .rename_i ha
  rw[if_neg ha] at h;exact absurd rfl h
theorem QP(h:GP p xs= -1):xs.filter (λx=>!p x)=xs:=by
 rw[uy];intro x N;unfold GP at h
 split at h
 .omega
 .rename_i ha
  simp only[vV,not_exists,not_and] at ha;simpa using ha x N
end
theorem AO.strCells{lo e g H k:Nat}{w:World}{xs:List ByteArray}(h:AO lo e 1 Ay w (.slice (some ⟨g,0,none⟩) xs.length H) xs)(E:k<xs.length):w.cell? ⟨g,k,none⟩=some (.string (Cp xs k)):=by have z:=AO.zK FJ h (k:=k) (x:=Cp xs k) (by simp[Cp,E]);simpa using z 0 _ rfl
theorem bd{lo e n sz g H:Nat}{w:World}{xs:List Value}(h:w.ownsRow lo e sz (.slice (some ⟨g,0,none⟩) n H) n xs):lo<=g/\g<w.heap.size:=World.ownsRow.lt h g rfl
theorem PU:∀w,(zeroValue 96).run prog w=.ok (.agg #[.int .i64 0,.int .i64 0,.int .i64 0,.bool false]) w:=λ_=>by kernel_rfl
theorem Is{lo:Nat}(F:Nat)(au:Array Value)(p:Ad->Bool)(v:Value)(xs:List Ad)(w:World)(h:AO lo 96 4 AX w v xs)(bm:lo<=w.heap.size)
 (hF:∀al w,(callFunc F al).run prog w=.ok (.enter F al) w)(hf:∀x,x∈xs->∀W,Below lo w W->Calls prog F (#[x.val]++au) W λe W'=>e=.returned (.bool (p x))/\Below W.heap.size W W'):
 Calls prog 192 #[v,.func (.func F) #[] au] w λe w'=>∃v',e=.returned v'/\AO lo 96 4 AX w' v' (xs.filter λx=>!p x)/\Below lo w w':=by
 have C0:=JS F au p v xs w h.rd hF (λx N W hW=>hf x N W (hW.mono bm))
 by_cases bu:GP p xs= -1
 .have S:=AA (QP bu)
  rw[bu] at C0;have ai:=AA h;obtain⟨a,c,rfl,z,am⟩:=h.rd.shape;have C:=AA C0;clear C0 hf bu h;go_in;go_wp2_with (refine(C.out).mono ?_;rintro e w1 ⟨rfl,br⟩);go_ret;exact⟨_,rfl,by rw[S.out];exact ai.out.below br,br.mono bm⟩
 .obtain⟨k,x0,E,en,eZ,ay⟩:=NR bu
  rw[E] at C0;have fb:k<xs.length:=(yE.1 en).1;obtain⟨g,H,rfl,z,am,Z,fV,ed⟩:=h.zX (by omega);unfold maxLen at am;have t0:((k:Int)== -1)=false:=by rw[beq_eq_false_iff_ne];omega
  have C:=AA C0;have Hf:=AA hf;have S0:=AA (JQ.start en ay eZ);have HO:=AA h;clear C0 hf bu E en eZ ay h ed;go_in;go_wp2_with (refine(C.out).mono ?_;rintro e w1 ⟨rfl,br⟩);go_loopw [5,6] (λi5 j6 wr=>∃i j:Nat,∃ys:List Ad,i5=.int .i64 i/\j6=.int .i64 j/\JQ p xs ys i j/\AO lo 96 4 AX wr (.slice (some ⟨g,0,none⟩) xs.length H) ys/\Below lo w wr) (λ_ j6 _=>xs.length - (intOf j6).toNat)
  exact⟨k,k+1,xs,rfl,by go_num,S0.out,HO.out.below br,br.mono bm⟩
  clear br HO;obtain⟨i,j,ys,rfl,rfl,hS,hO,ac⟩:=hrel;have d5:=hS.lt;have fw:=hS.le;have bk:=hS.len;have S:=AA hS;have bY:AO lo 96 4 AX wr (.slice (some ⟨g,0,none⟩) ys.length H) ys:=by rw[bk];exact hO
  have eA:∀q,wr.frozen? ⟨g,q,none⟩=false:=λq=>xT bY q
  have cl:lo<=wr.heap.size:=yL bm ac.size
  by_cases aq:j<xs.length
  .obtain⟨x,N⟩:∃x,xs[j]?=some x:=⟨_,yH aq⟩
   have fe:j<ys.length:=by omega
   have ff:i<ys.length:=by omega
   obtain⟨d0,d1,d2,d3⟩:=AO.zW bY (k:=j) fe;obtain⟨e0,e1,e2,e3⟩:=AO.zW bY (k:=i) ff;have eP:AT ys j=x:=by have:=S.out.next;rw[N] at this;simp[AT,this]
   rw[eP] at d0 d1 d2 d3;have ic:=(bd bY);have Cf:=AA (Hf.out x (yx N) (wr.alloc (.cells #[.int .i64 x.e,.int .i64 x.p,.int .i64 x.f,.bool x.w] 96)) (ac.alloc cl _));have Hx:=AA N;have gj:=AA bY;have gh:i<xs.length:=by omega
   clear hS hO bY N eP bk fe ff;go_wp2_with fail;refine(Cf.out).mono ?_;rintro e w2 ⟨rfl,ar⟩;have bf:=(ac.alloc cl (.cells #[.int .i64 x.e,.int .i64 x.p,.int .i64 x.f,.bool x.w] 96)).trans (ar.mono (by simp;omega));have ec:=(AJ wr (.cells #[.int .i64 x.e,.int .i64 x.p,.int .i64 x.f,.bool x.w] 96)).trans (ar.mono (AJ _ _).size);have fp:=AA (gj.out.below ec);obtain⟨gM,ig⟩:=ZL ar;have hz:wr.heap.size<w2.heap.size:=by have:=ar.size;simp at this;omega
   cases hp:p x
   .have SK:=AA (S.out.keep Hx.out hp)
    have Hp:=AA hp;clear hp;have eM:=AO.stored Ce fp.out (k:=i) (by rw[S.out.len];exact gh) x;have ST:=AA eM;clear eM;have BL:=AA (AM bf ST.out.2 Z (yL cl ec.size));clear ec bf ar;go_wp2_with fail;go_roundw;exact⟨i+1,j+1,ys.set i x,by go_num,by go_num,SK.out,by have:=ST.out.1;rw[S.out.len] at this;exact this,BL.out⟩;simp[intOf];omega
   .have SD:=AA (S.out.drop Hx.out hp)
    have Hp:=AA hp;clear hp;have HB:=AA bf;clear ec bf ar;go_wp2_with fail;go_roundw;exact⟨i,j+1,ys,rfl,by go_num,SD.out,by have:=fp.out;rw[S.out.len] at this;exact this,HB.out⟩;simp[intOf];omega
  .have fd:j=xs.length:=by omega
   have hd:=AA (hS.done fd);have dd:i<xs.length:=by omega
   have dp:wr.ownsRow lo 96 4 (.slice (some ⟨g,0,none⟩) xs.length H) xs.length (CZ AX ys):=by have:=bY;unfold AO at this;rwa [bk] at this
   obtain⟨w3,d6,cx,fi⟩:=KQ (P:=prog) (sz:=4) (t:=26) underlying26 PU rfl (by simp[uK,xR]) dp dd;have hE:(CZ AX ys).take (i*4)=CZ AX (xs.filter λx=>!p x):=by
    rw[<-hd.out]
    conv=>lhs;rw[<-wS i ys,Bj]
    rw[vC];rw[JA Ce,yt]
    congr 1;omega
   have hL:(xs.filter λx=>!p x).length=i:=by rw[<-hd.out,yt];omega
   rw[hE] at cx;have R:=AA (show AO lo 96 4 AX w3 (.slice (some ⟨g,0,none⟩) i H) (xs.filter λx=>!p x) by unfold AO;rw[hL];exact cx);have BL:=AA (AM ac fi Z cl);have f8:¬H=i:=by omega
   have eD:=λty=>d6 ty (H - i)
   clear hO bY dp cx hE hL d6 fi bk hS eA fd hd;go_wp2_with fail;go_ret;exact⟨_,rfl,R.out,BL.out⟩
theorem Vu:∀w,(zeroValue 9).run prog w=.ok (.string ⟨#[]⟩) w:=λ_=>by kernel_rfl
theorem Lc{lo:Nat}(F:Nat)(au:Array Value)(p:ByteArray->Bool)(v:Value)(xs:List ByteArray)(w:World)(h:AO lo 9 1 Ay w v xs)(bm:lo<=w.heap.size)
 (hF:∀al w,(callFunc F al).run prog w=.ok (.enter F al) w)(hf:∀x,x∈xs->∀W,Below lo w W->Calls prog F (#[xZ x]++au) W λe W'=>e=.returned (.bool (p x))/\Below W.heap.size W W'):
 Calls prog 196 #[v,.func (.func F) #[] au] w λe w'=>∃v',e=.returned v'/\AO lo 9 1 Ay w' v' (xs.filter λx=>!p x)/\Below lo w w':=by
 have C0:=JT F au p v xs w h.rd hF (λx N W hW=>hf x N W (hW.mono bm))
 by_cases bu:GP p xs= -1
 .have S:=AA (QP bu)
  rw[bu] at C0;have ai:=AA h;obtain⟨a,c,rfl,z,am⟩:=h.rd.shape;have C:=AA C0;clear C0 hf bu h;go_in;go_wp2_with (refine(C.out).mono ?_;rintro e w1 ⟨rfl,br⟩);go_ret;exact⟨_,rfl,by rw[S.out];exact ai.out.below br,br.mono bm⟩
 .obtain⟨k,x0,E,en,eZ,ay⟩:=NR bu
  rw[E] at C0;have fb:k<xs.length:=(yE.1 en).1;obtain⟨g,H,rfl,z,am,Z,fV,ed⟩:=h.zX (by omega);unfold maxLen at am;have t0:((k:Int)== -1)=false:=by rw[beq_eq_false_iff_ne];omega
  have C:=AA C0;have Hf:=AA hf;have S0:=AA (JQ.start en ay eZ);have HO:=AA h;clear C0 hf bu E en eZ ay h ed;go_in;go_wp2_with (refine(C.out).mono ?_;rintro e w1 ⟨rfl,br⟩);go_loopw [5,6] (λi5 j6 wr=>∃i j:Nat,∃ys:List ByteArray,i5=.int .i64 i/\j6=.int .i64 j/\JQ p xs ys i j/\AO lo 9 1 Ay wr (.slice (some ⟨g,0,none⟩) xs.length H) ys/\Below lo w wr) (λ_ j6 _=>xs.length - (intOf j6).toNat)
  exact⟨k,k+1,xs,rfl,by go_num,S0.out,HO.out.below br,br.mono bm⟩
  clear br HO;obtain⟨i,j,ys,rfl,rfl,hS,hO,ac⟩:=hrel;have d5:=hS.lt;have fw:=hS.le;have bk:=hS.len;have S:=AA hS;have bY:AO lo 9 1 Ay wr (.slice (some ⟨g,0,none⟩) ys.length H) ys:=by rw[bk];exact hO
  have eA:∀q,wr.frozen? ⟨g,q,none⟩=false:=λq=>xT bY q
  have cl:lo<=wr.heap.size:=yL bm ac.size
  by_cases aq:j<xs.length
  .obtain⟨x,N⟩:∃x,xs[j]?=some x:=⟨_,yH aq⟩
   have fe:j<ys.length:=by omega
   have ff:i<ys.length:=by omega
   have d0:=AO.strCells bY (k:=j) fe;have e0:=AO.strCells bY (k:=i) ff;have eP:Cp ys j=x:=by have:=S.out.next;rw[N] at this;simp[Cp,this]
   rw[eP] at d0;have ic:=(bd bY);have Cf:=AA (Hf.out x (yx N) wr ac);have Hx:=AA N;have gj:=AA bY;have gh:i<xs.length:=by omega
   clear hS hO bY N eP bk fe ff;go_wp2_with fail;refine(Cf.out).mono ?_;rintro e w2 ⟨rfl,ar⟩;have bf:=ac.trans (ar.mono cl);have ec:=ar;have fp:=AA (gj.out.below ec);obtain⟨gM,ig⟩:=ZL ar;have hz:=ar.size;cases hp:p x
   .have SK:=AA (S.out.keep Hx.out hp)
    have Hp:=AA hp;clear hp;have eM:=AO.stored FJ fp.out (k:=i) (by rw[S.out.len];exact gh) x;simp only[wR] at eM;have ST:=AA eM;clear eM;have BL:=AA (AM bf ST.out.2 Z (yL cl ec.size));clear ec bf ar;go_wp2_with fail;go_roundw;exact⟨i+1,j+1,ys.set i x,by go_num,by go_num,SK.out,by have:=ST.out.1;rw[S.out.len] at this;exact this,BL.out⟩;simp[intOf];omega
   .have SD:=AA (S.out.drop Hx.out hp)
    have Hp:=AA hp;clear hp;have HB:=AA bf;clear ec bf ar;go_wp2_with fail;go_roundw;exact⟨i,j+1,ys,rfl,by go_num,SD.out,by have:=fp.out;rw[S.out.len] at this;exact this,HB.out⟩;simp[intOf];omega
  .have fd:j=xs.length:=by omega
   have hd:=AA (hS.done fd);have dd:i<xs.length:=by omega
   have dp:wr.ownsRow lo 9 1 (.slice (some ⟨g,0,none⟩) xs.length H) xs.length (CZ Ay ys):=by have:=bY;unfold AO at this;rwa [bk] at this
   obtain⟨w3,d6,cx,fi⟩:=KQ (P:=prog) (sz:=1) (t:=64) underlying64 Vu rfl (by simp[uK,xR]) dp dd;have hE:(CZ Ay ys).take (i*1)=CZ Ay (xs.filter λx=>!p x):=by
    rw[<-hd.out]
    conv=>lhs;rw[<-wS i ys,Bj]
    rw[vC];rw[JA FJ,yt]
    congr 1;omega
   have hL:(xs.filter λx=>!p x).length=i:=by rw[<-hd.out,yt];omega
   rw[hE] at cx;have R:=AA (show AO lo 9 1 Ay w3 (.slice (some ⟨g,0,none⟩) i H) (xs.filter λx=>!p x) by unfold AO;rw[hL];exact cx);have BL:=AA (AM ac fi Z cl);have f8:¬H=i:=by omega
   have eD:=λty=>d6 ty (H - i)
   simp only[wR] at eD;clear hO bY dp cx hE hL d6 fi bk hS eA fd hd;go_wp2_with fail;go_ret;exact⟨_,rfl,R.out,BL.out⟩
theorem Dm{lo:Nat}{w:World}{t ty:TypeId}(e:TypeId)(hc:Value)(sz bytes:Nat)(K:prog.underlying t=some (.slice e))(A:(prog.info? e).map (λi=>(i.zero,i.size,i.bytes))=some (some hc,sz,bytes))
 (em:hc.cells.size=sz)(cy:0<sz){g:Nat}(Y:w.heap[g]?=some (.cells #[] e (0,0)))(bm:lo<=g){u:Value}{m:Nat}{news:List Value}(hr:Rd w u sz m news)(J:∀u∈news,u.oneCell'=true)
 (b0:m*bytes<=140737488355328):∃v' w',(vH #[t,t] ty #[.slice (some ⟨g,0,none⟩) 0 0,u]).run prog w=.ok v' w'/\w'.ownsRow lo e sz v' m news/\Below w.heap.size w w'/\(∀k,v'.ownBlock=some k->k=g∨w.heap.size<=k):=by
 obtain⟨i0,c7,d8,d4,d7⟩:=tZ A;obtain⟨ao,c,rfl,gF,am,hl,az,z⟩:=hr;have fV:g<w.heap.size:=(wk.1 Y).1;have a6:∀l,l<=g->w.ownsRow l e sz (.slice (some ⟨g,0,none⟩) 0 0) 0 []:=λl hl=>⟨by simp,.inr ⟨g,0,#[],rfl,hl,Y,yG _,by simp[maxLen],by simp,by simp⟩⟩
 rcases wC m with rfl|hm
 .have ck:news=[]:=yh (by simpa using hl)
  subst ck;cases ao with
  |none=>have b8:=az rfl;subst b8;exact⟨_,w,by simp[vH,tr K,sizeOf,typeInfo,c7,su,Builtin.firstCells,storeCells],a6 lo bm,yO _ _,λk E=>by simp[vL] at E;exact .inl E.symm⟩
  |some a=>have hf:=run_firstCells_some (P:=prog) w i0.size 0 a 0 c [] (by simp) (by simp);exact⟨_,w,by simp[vH,tr K,sizeOf,typeInfo,c7,su,hf,storeCells],a6 lo bm,yO _ _,λk E=>by simp[vL] at E;exact .inl E.symm⟩
 .obtain⟨b,D,rfl,av⟩:=z hm
  obtain⟨v',w',ci,r1,r2⟩:=run_append_arg_grows (P:=prog) w t ty e i0 hc sz bytes K c7 d8 d4 d7 em cy ⟨g,0,none⟩ 0 0 [] (by simp) (by simp) ⟨b,D,none⟩ m c news hl (by
   intro j u hu;have X:j<news.length:=(yE.1 hu).1;have c5:(⟨b,D,none⟩:Addr).add j=⟨b,D+j,none⟩:=by unfold uJ;split<;>simp_all
   rw[c5,av j (by omega),hu]) (by omega) (by omega) (by rw[wK];exact b0)
  have hB:=Below.zF r2;have gm:w'.ownsRow w.heap.size e sz v' m news:=by simpa using r1
  exact⟨v',w',ci,BZ gm (by omega),hB,λk E=> .inr (gm.lt k E).1⟩
theorem TC{w:World}{vs:List Value}(h:GE (Ax w) vs m):∀u∈CZ Gc vs,u.oneCell'=true:=by
 intro u hu;obtain⟨x,N,V⟩:=wV.1 hu;simp[Gc] at V;subst V;obtain⟨i,A⟩:=xq N;obtain⟨r,hr⟩:∃r,m[i]?=some r:=⟨_,yH (by rw[<-h.1];exact(yE.1 A).1)⟩
 obtain⟨a,c,rfl,_⟩:=(h.2 i _ r A hr).open;rfl
theorem Yh{w:World}{ps:List (Value×Int)}{es:List Em}(h:GE (λp e=>BT w p.1 e.Tj/\p.2=e.root) ps es):∀u∈CZ Eu ps,u.oneCell'=true:=by
 intro u hu;obtain⟨x,N,V⟩:=wV.1 hu;obtain⟨i,A⟩:=xq N;obtain⟨r,hr⟩:∃r,es[i]?=some r:=⟨_,yH (by rw[<-h.1];exact(yE.1 A).1)⟩
 obtain⟨a,c,e,_⟩:=BG.shape (h.2 i _ r A hr).1;simp[Eu] at V
 rcases V with rfl|rfl
 .rw[e];rfl
 .rfl
theorem Tryz.zP:(prog.info? 91).map (λi=>(i.zero,i.size,i.bytes))=some (some (.agg #[.int .i64 0,.string ⟨#[]⟩,.int .i64 0]),3,32):=by kernel_rfl
theorem GN(v:Value)(xs:List AV)(w:World)(h:BG 3 At w v xs)(V:xs.length<=1048576):
 Calls prog 67 #[v] w λe w'=>∃v',e=.returned v'/\AO w.heap.size 91 3 At w' v' xs/\Below w.heap.size w w':=by
 have bt:∀u∈CZ At xs,u.oneCell'=true:=by
  intro u hu;obtain⟨s,_,V⟩:=wV.1 hu;simp[At] at V
  rcases V with rfl|rfl|rfl<;>rfl
 have h':=h;obtain⟨a,c,rfl,bw,am,hl,az,z⟩:=h';have hq:=λw=>wQ (P:=prog) w 24 91 a xs.length c 0 0 underlying24
 have b4:=AA bt;clear bt;cases a with
 |none=>have b8:=az rfl;subst b8;have h0:xs=[]:=yh (by omega);subst h0;simp only[wY] at hq;go_in;go_wp2;go_ret;exact⟨_,rfl,xv _ _ _ _,yO _ _⟩
 |some ad=>clear z az;have bx:(CZ At xs).length=xs.length*3:=hl;have Hl:=AA bx;clear hl bx;go_in;go_wp2_with (refine EX (lo:=w.heap.size) (v:=.slice (some ⟨w.heap.size,0,none⟩) 0 0) (n:=0) (xs:=[]) (m:=xs.length) (news:=CZ At xs) rfl rfl 91 (.agg #[.int .i64 0,.string ⟨#[]⟩,.int .i64 0]) 3 32 underlying24 Tryz.zP rfl (by decide) rfl (Cu _ _ _) rfl (Rd.alloc h _) b4.out (by unfold maxLen;omega) (by omega) (by simp) ?_;intro v' w' a6 _ ac);go_ret;refine⟨_,rfl,by simpa[AO] using a6,((yO _ _).alloc (yG _) _).trans ac⟩
theorem Tryz.infoEnvK:(prog.info? 66).map (λi=>(i.zero,i.size,i.bytes))=some (some (.agg #[.slice none 0 0,.int .i64 0]),2,32):=by kernel_rfl
theorem Te(v:Value)(xs:List (Value×Int))(w:World)(h:BG 2 Eu w v xs)(V:xs.length<=1048576)(bt:∀u∈CZ Eu xs,u.oneCell'=true):
 Calls prog 68 #[v] w λe w'=>∃v',e=.returned v'/\AO w.heap.size 66 2 Eu w' v' xs/\Below w.heap.size w w':=by
 have h':=h;obtain⟨a,c,rfl,bw,am,hl,az,z⟩:=h';have hq:=λw=>wQ (P:=prog) w 25 66 a xs.length c 0 0 underlying25
 have b4:=AA bt;clear bt;cases a with
 |none=>have b8:=az rfl;subst b8;have h0:xs=[]:=yh (by omega);subst h0;simp only[wY] at hq;go_in;go_wp2;go_ret;exact⟨_,rfl,xv _ _ _ _,yO _ _⟩
 |some ad=>clear z az;have bx:(CZ Eu xs).length=xs.length*2:=hl;have Hl:=AA bx;clear hl bx;go_in;go_wp2_with (refine EX (lo:=w.heap.size) (v:=.slice (some ⟨w.heap.size,0,none⟩) 0 0) (n:=0) (xs:=[]) (m:=xs.length) (news:=CZ Eu xs) rfl rfl 66 (.agg #[.slice none 0 0,.int .i64 0]) 2 32 underlying25 Tryz.infoEnvK rfl (by decide) rfl (Cu _ _ _) rfl (Rd.alloc h _) b4.out (by unfold maxLen;omega) (by omega) (by simp) ?_;intro v' w' a6 _ ac);go_ret;refine⟨_,rfl,by simpa[AO] using a6,((yO _ _).alloc (yG _) _).trans ac⟩
theorem Tryz.zQ:(prog.info? 96).map (λi=>(i.zero,i.size,i.bytes))=some (some (.agg #[.int .i64 0,.int .i64 0,.int .i64 0,.bool false]),4,32):=by kernel_rfl
theorem JI(v:Value)(xs:List Ad)(w:World)(h:BG 4 AX w v xs)(V:xs.length<=1048576):
 Calls prog 69 #[v] w λe w'=>∃v',e=.returned v'/\AO w.heap.size 96 4 AX w' v' xs/\Below w.heap.size w w':=by
 have bt:∀u∈CZ AX xs,u.oneCell'=true:=by
  intro u hu;obtain⟨s,_,V⟩:=wV.1 hu;simp[AX] at V
  rcases V with rfl|rfl|rfl|rfl<;>rfl
 have h':=h;obtain⟨a,c,rfl,bw,am,hl,az,z⟩:=h';have hq:=λw=>wQ (P:=prog) w 26 96 a xs.length c 0 0 underlying26
 have b4:=AA bt;clear bt;cases a with
 |none=>have b8:=az rfl;subst b8;have h0:xs=[]:=yh (by omega);subst h0;simp only[wY] at hq;go_in;go_wp2;go_ret;exact⟨_,rfl,xv _ _ _ _,yO _ _⟩
 |some ad=>clear z az;have bx:(CZ AX xs).length=xs.length*4:=hl;have Hl:=AA bx;clear hl bx;go_in;go_wp2_with (refine EX (lo:=w.heap.size) (v:=.slice (some ⟨w.heap.size,0,none⟩) 0 0) (n:=0) (xs:=[]) (m:=xs.length) (news:=CZ AX xs) rfl rfl 96 (.agg #[.int .i64 0,.int .i64 0,.int .i64 0,.bool false]) 4 32 underlying26 Tryz.zQ rfl (by decide) rfl (Cu _ _ _) rfl (Rd.alloc h _) b4.out (by unfold maxLen;omega) (by omega) (by simp) ?_;intro v' w' a6 _ ac);go_ret;refine⟨_,rfl,by simpa[AO] using a6,((yO _ _).alloc (yG _) _).trans ac⟩
def DI(x:Bs):List Value:=[.int .i64 x.w,.int .i64 x.a,.bool x.u]
theorem Es(x:Bs):(DI x).length=3:=rfl
theorem Tryz.zw:(prog.info? 74).map (λi=>(i.zero,i.size,i.bytes))=some (some (.agg #[.int .i64 0,.int .i64 0,.bool false]),3,24):=by kernel_rfl
theorem Rh(v:Value)(xs:List Bs)(w:World)(h:BG 3 DI w v xs)(V:xs.length<=1048576):
 Calls prog 46 #[v] w λe w'=>∃v',e=.returned v'/\AO w.heap.size 74 3 DI w' v' xs/\Below w.heap.size w w':=by
 have bt:∀u∈CZ DI xs,u.oneCell'=true:=by
  intro u hu;obtain⟨s,_,V⟩:=wV.1 hu;simp[DI] at V
  rcases V with rfl|rfl|rfl<;>rfl
 have h':=h;obtain⟨a,c,rfl,bw,am,hl,az,z⟩:=h';have hq:=λw=>wQ (P:=prog) w 30 74 a xs.length c 0 0 underlying30
 have b4:=AA bt;clear bt;cases a with
 |none=>have b8:=az rfl;subst b8;have h0:xs=[]:=yh (by omega);subst h0;simp only[wY] at hq;go_in;go_wp2;go_ret;exact⟨_,rfl,xv _ _ _ _,yO _ _⟩
 |some ad=>clear z az;have bx:(CZ DI xs).length=xs.length*3:=hl;have Hl:=AA bx;clear hl bx;go_in;go_wp2_with (refine EX (lo:=w.heap.size) (v:=.slice (some ⟨w.heap.size,0,none⟩) 0 0) (n:=0) (xs:=[]) (m:=xs.length) (news:=CZ DI xs) rfl rfl 74 (.agg #[.int .i64 0,.int .i64 0,.bool false]) 3 24 underlying30 Tryz.zw rfl (by decide) rfl (Cu _ _ _) rfl (Rd.alloc h _) b4.out (by unfold maxLen;omega) (by omega) (by simp) ?_;intro v' w' a6 _ ac);go_ret;refine⟨_,rfl,by simpa[AO] using a6,((yO _ _).alloc (yG _) _).trans ac⟩
theorem Tryz.zU:(prog.info? 9).map (λi=>(i.zero,i.size,i.bytes))=some (some (.string ⟨#[]⟩),1,16):=by kernel_rfl
theorem JJ(v:Value)(xs:List ByteArray)(w:World)(h:BG 1 Ay w v xs)(V:xs.length<=1048576):
 Calls prog 70 #[v] w λe w'=>∃v',e=.returned v'/\AO w.heap.size 9 1 Ay w' v' xs/\Below w.heap.size w w':=by
 have bt:∀u∈CZ Ay xs,u.oneCell'=true:=by intro u hu;obtain⟨s,_,V⟩:=wV.1 hu;simp[Ay] at V;subst V;rfl
 have h':=h;obtain⟨a,c,rfl,bw,am,hl,az,z⟩:=h';have hq:=λw=>wQ (P:=prog) w 64 9 a xs.length c 0 0 underlying64
 have b4:=AA bt;clear bt;cases a with
 |none=>have b8:=az rfl;subst b8;have h0:xs=[]:=yh (by omega);subst h0;simp only[wY] at hq;go_in;go_wp2;go_ret;exact⟨_,rfl,xv _ _ _ _,yO _ _⟩
 |some ad=>clear z az;have bx:(CZ Ay xs).length=xs.length*1:=hl;have Hl:=AA bx;clear hl bx;go_in;go_wp2_with (refine EX (lo:=w.heap.size) (v:=.slice (some ⟨w.heap.size,0,none⟩) 0 0) (n:=0) (xs:=[]) (m:=xs.length) (news:=CZ Ay xs) rfl rfl 9 (.string ⟨#[]⟩) 1 16 underlying64 Tryz.zU rfl (by decide) rfl (Cu _ _ _) rfl (Rd.alloc h _) b4.out (by unfold maxLen;omega) (by omega) (by simp) ?_;intro v' w' a6 _ ac);go_ret;refine⟨_,rfl,by simpa[AO] using a6,((yO _ _).alloc (yG _) _).trans ac⟩
theorem Tryz.infoRowsK:(prog.info? 29).map (λi=>(i.zero,i.size,i.bytes))=some (some (.slice none 0 0),1,24):=by kernel_rfl
theorem MY(v:Value)(xs:List Value)(w:World)(h:BG 1 Gc w v xs)(V:xs.length<=1048576)(bt:∀u∈CZ Gc xs,u.oneCell'=true):
 Calls prog 95 #[v] w λe w'=>∃v',e=.returned v'/\AO w.heap.size 29 1 Gc w' v' xs/\Below w.heap.size w w':=by
 have h':=h;obtain⟨a,c,rfl,bw,am,hl,az,z⟩:=h';have hq:=λw=>wQ (P:=prog) w 23 29 a xs.length c 0 0 underlying23
 have b4:=AA bt;clear bt;cases a with
 |none=>have b8:=az rfl;subst b8;have h0:xs=[]:=yh (by omega);subst h0;simp only[wY] at hq;go_in;go_wp2;go_ret;exact⟨_,rfl,xv _ _ _ _,yO _ _⟩
 |some ad=>clear z az;have bx:(CZ Gc xs).length=xs.length*1:=hl;have Hl:=AA bx;clear hl bx;go_in;go_wp2_with (refine EX (lo:=w.heap.size) (v:=.slice (some ⟨w.heap.size,0,none⟩) 0 0) (n:=0) (xs:=[]) (m:=xs.length) (news:=CZ Gc xs) rfl rfl 29 (.slice none 0 0) 1 24 underlying23 Tryz.infoRowsK rfl (by decide) rfl (Cu _ _ _) rfl (Rd.alloc h _) b4.out (by unfold maxLen;omega) (by omega) (by simp) ?_;intro v' w' a6 _ ac);go_ret;refine⟨_,rfl,by simpa[AO] using a6,((yO _ _).alloc (yG _) _).trans ac⟩
theorem Qn{lo e sz n m g H:Nat}{w:World}{xs:List Value}(h:w.ownsRow lo e sz (.slice (some ⟨g,0,none⟩) n H) n xs)(hn:n<=m)(hm:m<=H):∃ys,ys.take (n*sz)=xs/\w.ownsRow lo e sz (.slice (some ⟨g,0,none⟩) m H) m ys:=by
 rcases h.2 with⟨h0,_⟩|⟨g',cap',bn,hv,Y,Z,bw,am,cv,htake⟩
 .cases h0
 .cases hv
  have J:n*sz<=m*sz:=wL _ hn;have O:m*sz<=H*sz:=wL _ hm;refine⟨bn.toList.take (m*sz),by rw[vm,vP J];exact htake,?_,.inr ⟨g,H,bn,rfl,Y,Z,hm,am,cv,rfl⟩⟩;rw[yt,tf,cv];omega
theorem OD{P:Program}{ops:Array Oper}{o:Oper}{a:Act}{Q:Exit->Act->World->Prop}{w w':World}{s x:Operand}{t:TypeId}(ez:o.guard=none)(ho:o.op=.call {callee:=.builtin .append,args:= #[s,x],argTypes:= #[t,t]})
 {v u v':Value}(V:a.eval s=v)(N:a.eval x=u)(ci:(vH #[t,t] o.type #[v,u]).run P w=.ok v' w')(h:wpList P ops Q rest (a.put o.dst v') w'):wpList P ops Q (o::rest) a w:=
 wpList_plain ez λ_ hK=>Cq ho V N ci (hK _ _ h)
theorem OM{lo:Nat}(v:Value)(xs:List Ad)(w:World)(h:AO lo 96 4 AX w v xs)(bm:lo<=w.heap.size)(h4:xs.length=4):
 Calls prog 199 #[v,.int .i64 0,.int .i64 1] w λe w'=>∃v',e=.returned v'/\AO lo 96 4 AX w' v' (xs.drop 1)/\Below lo w w':=by
 obtain⟨g,H,rfl,z,am,Z,fV,ed⟩:=h.zX (by omega);have h':w.ownsRow lo 96 4 (.slice (some ⟨g,0,none⟩) 4 H) 4 (CZ AX xs):=by have:=h;unfold AO at this;rwa [h4] at this
 rw[h4] at z ⊢;unfold maxLen at am;obtain⟨i0,c7,d8,d4,d7⟩:=tZ Tryz.zQ;have fa:((CZ AX xs).drop 4).length=3*4:=by rw[xm,JA Ce,h4]
 have ci:=λW (hW:∀k,k<w.heap.size->W.heap[k]?=w.heap[k]?) (hO:W.ownsRow lo 96 4 (.slice (some ⟨g,0,none⟩) 4 H) 4 (CZ AX xs)) ty=>
  run_append_fits (P:=prog) W lo 26 ty 96 i0 4 underlying26 c7 d4 g 0 H [] (PF hO (yu _)) ⟨g,4,none⟩ 3 (H - 1) ((CZ AX xs).drop 4) fa (by
   intro j u hu;have X:j<12:=by have:=(yE.1 hu).1;omega
   have e:(⟨g,4,none⟩:Addr).add j=⟨g,4+j,none⟩:=by unfold uJ;split<;>simp_all
   rw[e,xx hO (4+j) (by omega),<-hu,sS]) (by
   intro u hu;obtain⟨s,_,V⟩:=wV.1 (uH hu);simp[AX] at V
   rcases V with rfl|rfl|rfl|rfl<;>rfl) (by omega)
 have gN:¬H=1:=by omega
 have hO:=AA h';have HR:=AA ci;clear ci h h' c7 d8 d4 d7 fa;go_in;go_wp2_with fail;go_still_tail 6,mixed
 change wpList _ _ _ _ _ w.drew
 have dx:Below w.heap.size w w.drew:=A0 (yO _ _) 1;have bY:=AA (Bl hO.out dx);obtain⟨w3,ef,dp,gJ⟩:=HR.out w.drew dx.block bY.out 26;have bf:=AM (dx.mono bm) gJ Z (yL bm dx.size);have fL:lo<=w3.heap.size:=yL bm bf.size;obtain⟨ys,eF,cx⟩:=Qn dp (show 0+3<=4 by decide) z;obtain⟨w4,d6,eK,gI⟩:=KQ (P:=prog) (sz:=4) (t:=26) underlying26 PU rfl (by simp[uK,xR]) cx (show 3<4 by decide);have hE:ys.take (3*4)=CZ AX (xs.drop 1):=by
  have e:(CZ AX xs).drop 4=CZ AX (xs.drop 1):=by
   cases xs with
   |nil=>rfl
   |cons x xs=>rw[H6,List.drop_left' (Ce x)];rfl
  rw[<-e];simpa using eF
 rw[hE] at eK;have gL:¬H=3:=by omega
 have R:=AA (show AO lo 96 4 AX w4 (.slice (some ⟨g,0,none⟩) 3 H) (xs.drop 1) by unfold AO;rw[xm,h4];exact eK);have BL:=AA (AM bf gI Z fL);have eD:=λty=>d6 ty (H - 3)
 simp only[wK] at ef;clear d6 dp cx eK gJ gI eF hE bf dx;generalize w.drew=w2 at ef ⊢;refine OD rfl rfl rfl rfl ef ?_;clear ef;go_wp2_with fail;go_ret;exact⟨_,rfl,R.out,BL.out⟩
end Go.Proofs.YtaopbdankjkfpaaGreatDoor
namespace Go.Proofs
open Go.Shelf
def Tryz.lays189_ren:vT:=⟨fun|189=>126|125=>182|257=>181|128=>234|129=>235|294=>225|295=>226|296=>227|297=>228|298=>229|299=>230|216=>231|300=>232|301=>233|328=>253|329=>254|330=>255|331=>256|332=>257|215=>258|343=>267|n=>n,fun|28=>29|3=>3|46=>174|0=>0|51=>206|53=>208|4=>4|183=>199|182=>198|131=>109|5=>5|9=>9|218=>217|222=>166|228=>226|229=>80|n=>n,fun|n=>n⟩
theorem Tryz.lays189:Go.Proofs.Lays.n189 prog Tryz.lays189_ren:= {
 mixed:=by kernel_rfl
 f125:=func182.trans (congrArg some (by kernel_rfl))
 f128:=func234.trans (congrArg some (by kernel_rfl))
 f129:=func235.trans (congrArg some (by kernel_rfl))
 f189:=func126.trans (congrArg some (by kernel_rfl))
 f215:=func258.trans (congrArg some (by kernel_rfl))
 f216:=func231.trans (congrArg some (by kernel_rfl))
 f257:=func181.trans (congrArg some (by kernel_rfl))
 f294:=func225.trans (congrArg some (by kernel_rfl))
 f295:=func226.trans (congrArg some (by kernel_rfl))
 f296:=func227.trans (congrArg some (by kernel_rfl))
 f297:=func228.trans (congrArg some (by kernel_rfl))
 f298:=func229.trans (congrArg some (by kernel_rfl))
 f299:=func230.trans (congrArg some (by kernel_rfl))
 f300:=func232.trans (congrArg some (by kernel_rfl))
 f301:=func233.trans (congrArg some (by kernel_rfl))
 f328:=func253.trans (congrArg some (by kernel_rfl))
 f329:=func254.trans (congrArg some (by kernel_rfl))
 f330:=func255.trans (congrArg some (by kernel_rfl))
 f331:=func256.trans (congrArg some (by kernel_rfl))
 f332:=func257.trans (congrArg some (by kernel_rfl))
 f343:=func267.trans (congrArg some (by kernel_rfl))
 t0:=underlying0
 a0:=ve
 z0:=vw
 v0:=vX
 t3:=underlying3
 a3:=vE
 z3:=vO
 v3:=wA
 t4:=underlying4
 a4:=vD
 z4:=vN
 v4:=wv
 t5:=underlying5
 a5:=Tryz.isAgg5
 z5:=Tryz.sizeOf5
 v5:=sg
 t9:=underlying9
 a9:=uE
 z9:=uT
 v9:=vB
 t28:=underlying29
 a28:=tA
 z28:=tH
 v28:=ud
 t46:=underlying174
 a46:=tG
 z46:=tO
 v46:=uh
 t51:=underlying206
 a51:=Tryz.isAgg206
 z51:=Tryz.sizeOf206
 v51:=Tryz.zeroValue206
 t53:=underlying208
 a53:=Tryz.isAgg208
 z53:=Tryz.sizeOf208
 v53:=Tryz.zeroValue208
 t131:=underlying109
 a131:=Tryz.isAgg109
 z131:=Tryz.sizeOf109
 v131:=Tryz.zeroValue109
 t182:=underlying198
 a182:=Tryz.isAgg198
 z182:=Tryz.sizeOf198
 v182:=Tryz.zeroValue198
 t183:=underlying199
 a183:=Tryz.isAgg199
 z183:=Tryz.sizeOf199
 v183:=Tryz.zeroValue199
 t218:=underlying217
 a218:=Tryz.isAgg217
 z218:=Tryz.sizeOf217
 v218:=Tryz.zeroValue217
 t222:=underlying166
 a222:=Tryz.isAgg166
 z222:=Tryz.sizeOf166
 v222:=Tryz.zeroValue166
 t228:=underlying226
 a228:=Tryz.isAgg226
 z228:=Tryz.sizeOf226
 v228:=Tryz.zeroValue226
 t229:=underlying80
 a229:=Tryz.isAgg80
 z229:=Tryz.sizeOf80
 v229:=Tryz.zeroValue80}
def Tryz.lays2n20_ren:vT:=⟨fun|20=>127|n=>n,fun|22=>29|3=>3|4=>4|0=>0|n=>n,fun|n=>n⟩
theorem Tryz.lays2n20:Go.Proofs.Lays2.n20 prog Tryz.lays2n20_ren:= {
 mixed:=by kernel_rfl
 f20:=func127.trans (congrArg some (by kernel_rfl))
 t0:=underlying0
 a0:=ve
 z0:=vw
 v0:=vX
 t3:=underlying3
 a3:=vE
 z3:=vO
 v3:=wA
 t4:=underlying4
 a4:=vD
 z4:=vN
 v4:=wv
 t22:=underlying29
 a22:=tA
 z22:=tH
 v22:=ud
 i3:=by kernel_rfl}
def Tryz.lays107_ren:vT:=⟨fun|107=>190|108=>241|n=>n,fun|28=>29|3=>3|4=>4|0=>0|n=>n,fun|n=>n⟩
theorem Tryz.lays107:Go.Proofs.Lays.n107 prog Tryz.lays107_ren:= {
 mixed:=by kernel_rfl
 f107:=func190.trans (congrArg some (by kernel_rfl))
 f108:=func241.trans (congrArg some (by kernel_rfl))
 t0:=underlying0
 a0:=ve
 z0:=vw
 v0:=vX
 t3:=underlying3
 a3:=vE
 z3:=vO
 v3:=wA
 t4:=underlying4
 a4:=vD
 z4:=vN
 v4:=wv
 t28:=underlying29
 a28:=tA
 z28:=tH
 v28:=ud}
def Tryz.lays2n26_ren:vT:=⟨fun|26=>194|33=>242|34=>243|38=>260|n=>n,fun|24=>64|9=>9|3=>3|4=>4|40=>174|0=>0|n=>n,fun|n=>n⟩
theorem Tryz.lays2n26:Go.Proofs.Lays2.n26 prog Tryz.lays2n26_ren:= {
 mixed:=by kernel_rfl
 f26:=func194.trans (congrArg some (by kernel_rfl))
 f33:=func242.trans (congrArg some (by kernel_rfl))
 f34:=func243.trans (congrArg some (by kernel_rfl))
 f38:=func260.trans (congrArg some (by kernel_rfl))
 t0:=underlying0
 a0:=ve
 z0:=vw
 v0:=vX
 t3:=underlying3
 a3:=vE
 z3:=vO
 v3:=wA
 t4:=underlying4
 a4:=vD
 z4:=vN
 v4:=wv
 t9:=underlying9
 a9:=uE
 z9:=uT
 v9:=vB
 t24:=underlying64
 a24:=Tryz.isAgg64
 z24:=Tryz.sizeOf64
 v24:=sr
 t40:=underlying174
 a40:=tG
 z40:=tO
 v40:=uh}
def Tryz.lays2n22_ren:vT:=⟨fun|22=>195|29=>244|30=>245|36=>261|17=>269|n=>n,fun|24=>64|9=>9|3=>3|4=>4|0=>0|n=>n,fun|n=>n⟩
theorem Tryz.lays2n22:Go.Proofs.Lays2.n22 prog Tryz.lays2n22_ren:= {
 mixed:=by kernel_rfl
 f17:=func269.trans (congrArg some (by kernel_rfl))
 f22:=func195.trans (congrArg some (by kernel_rfl))
 f29:=func244.trans (congrArg some (by kernel_rfl))
 f30:=func245.trans (congrArg some (by kernel_rfl))
 f36:=func261.trans (congrArg some (by kernel_rfl))
 t0:=underlying0
 a0:=ve
 z0:=vw
 v0:=vX
 t3:=underlying3
 a3:=vE
 z3:=vO
 v3:=wA
 t4:=underlying4
 a4:=vD
 z4:=vN
 v4:=wv
 t9:=underlying9
 a9:=uE
 z9:=uT
 v9:=vB
 t24:=underlying64
 a24:=Tryz.isAgg64
 z24:=Tryz.sizeOf64
 v24:=sr
 i9:=by kernel_rfl}
def Tryz.lays160_ren:vT:=⟨fun|160=>179|232=>219|231=>218|227=>220|234=>222|233=>221|236=>224|235=>223|228=>249|271=>252|151=>251|197=>250|120=>266|152=>265|260=>264|137=>271|119=>272|224=>273|225=>274|217=>275|266=>276|n=>n,fun|9=>9|4=>4|3=>3|5=>5|117=>193|116=>192|0=>0|124=>196|21=>21|105=>214|46=>174|119=>231|139=>234|138=>233|n=>n,fun|3=>0|4=>1|n=>n⟩
theorem Tryz.lays160:Go.Proofs.Lays.n160 prog Tryz.lays160_ren:= {
 mixed:=by kernel_rfl
 f119:=func272.trans (congrArg some (by kernel_rfl))
 f120:=func266.trans (congrArg some (by kernel_rfl))
 f137:=func271.trans (congrArg some (by kernel_rfl))
 f151:=func251.trans (congrArg some (by kernel_rfl))
 f152:=func265.trans (congrArg some (by kernel_rfl))
 f160:=func179.trans (congrArg some (by kernel_rfl))
 f197:=func250.trans (congrArg some (by kernel_rfl))
 f217:=func275.trans (congrArg some (by kernel_rfl))
 f224:=func273.trans (congrArg some (by kernel_rfl))
 f225:=func274.trans (congrArg some (by kernel_rfl))
 f227:=func220.trans (congrArg some (by kernel_rfl))
 f228:=func249.trans (congrArg some (by kernel_rfl))
 f231:=func218.trans (congrArg some (by kernel_rfl))
 f232:=func219.trans (congrArg some (by kernel_rfl))
 f233:=func221.trans (congrArg some (by kernel_rfl))
 f234:=func222.trans (congrArg some (by kernel_rfl))
 f235:=func223.trans (congrArg some (by kernel_rfl))
 f236:=func224.trans (congrArg some (by kernel_rfl))
 f260:=func264.trans (congrArg some (by kernel_rfl))
 f266:=func276.trans (congrArg some (by kernel_rfl))
 f271:=func252.trans (congrArg some (by kernel_rfl))
 t0:=underlying0
 a0:=ve
 z0:=vw
 v0:=vX
 t3:=underlying3
 a3:=vE
 z3:=vO
 v3:=wA
 t4:=underlying4
 a4:=vD
 z4:=vN
 v4:=wv
 t5:=underlying5
 a5:=Tryz.isAgg5
 z5:=Tryz.sizeOf5
 v5:=sg
 t9:=underlying9
 a9:=uE
 z9:=uT
 v9:=vB
 t21:=underlying21
 a21:=Tryz.isAgg21
 z21:=Tryz.sizeOf21
 v21:=Tryz.zeroValue21
 t46:=underlying174
 a46:=tG
 z46:=tO
 v46:=uh
 t105:=underlying214
 a105:=Tryz.isAgg214
 z105:=Tryz.sizeOf214
 v105:=Tryz.zeroValue214
 t116:=underlying192
 a116:=Tryz.isAgg192
 z116:=Tryz.sizeOf192
 t117:=underlying193
 a117:=Tryz.isAgg193
 z117:=Tryz.sizeOf193
 v117:=Tryz.zeroValue193
 t119:=underlying231
 a119:=Tryz.isAgg231
 z119:=Tryz.sizeOf231
 t124:=underlying196
 a124:=Tryz.isAgg196
 z124:=Tryz.sizeOf196
 v124:=Tryz.zeroValue196
 t138:=underlying233
 a138:=Tryz.isAgg233
 z138:=Tryz.sizeOf233
 v138:=Tryz.zeroValue233
 t139:=underlying234
 a139:=Tryz.isAgg234
 z139:=Tryz.sizeOf234
 v139:=Tryz.zeroValue234
 g3:=by kernel_rfl
 g4:=by kernel_rfl}
def Tryz.lays99_ren:vT:=⟨fun|99=>79|206=>135|n=>n,fun|9=>9|4=>4|3=>3|n=>n,fun|n=>n⟩
theorem Tryz.lays99:Go.Proofs.Lays.n99 prog Tryz.lays99_ren:= {
 mixed:=by kernel_rfl
 f99:=func79.trans (congrArg some (by kernel_rfl))
 f206:=func135.trans (congrArg some (by kernel_rfl))
 t3:=underlying3
 a3:=vE
 z3:=vO
 v3:=wA
 t4:=underlying4
 a4:=vD
 z4:=vN
 v4:=wv
 t9:=underlying9
 a9:=uE
 z9:=uT
 v9:=vB}
end Go.Proofs
namespace Go.Proofs.YtaopbdankjkfpaaGreatDoor
open Go.Proofs.Tryz
open Go.RowKit Go.Shelf
theorem Sa(l cs:List UInt8):Lib.trimLeftS l cs=[]↔∀b∈l,cs.contains b=true:=by
 unfold Lib.trimLeftS
 induction l with
 |nil=>simp
 |cons x l ih=>
  rw[sV]
  by_cases N:cs.contains x=true
  .rw[if_pos N,ih]
   constructor
   .intro h b Y
    rcases xH.1 Y with e|e
    .subst e;exact N
    .exact h b e
   .intro h b Y
    exact h b (uI _ Y)
  .rw[if_neg N]
   constructor
   .intro h;cases h
   .intro h;exact absurd (h x vU) N
theorem aM(l cs:List UInt8):uw l cs=[]↔∀b∈l,cs.contains b=true:=by
 unfold uw;rw[Sa];unfold Lib.trimRightS;constructor
 .intro h b Y
  by_cases z:cs.contains b=true
  .exact z
  .refine h b ?_
   have O:b∈l.reverse:=uW.2 Y;have:∀l':List UInt8,b∈l'->b∈l'.dropWhile (cs.contains ·):=by
    intro l'
    induction l' with
    |nil=>intro h;exact h
    |cons x l' ih=>
     intro h;rw[sV]
     split
     .next N=>
      rcases xH.1 h with e|e
      .subst e;exact absurd N z
      .exact ih e
     .exact h
   exact uW.2 (this _ O)
 .intro h b Y
  exact h b (uW.1 ((List.dropWhile_sublist _).subset (uW.1 Y)))
theorem QZ(c:UInt8):([97,98,99]:List UInt8).contains c=Fi c:=by
 have h:∀n:Fin 256,([97,98,99]:List UInt8).contains ⟨⟨n⟩⟩=Fi ⟨⟨n⟩⟩:=by decide+kernel
 exact h c.toBitVec.toFin
theorem UW(s:ByteArray)(h:s.size<=4):(xZ ⟨(uw s.data.toList [97,98,99]).toArray⟩=.string ⟨#[]⟩)↔BO s=true:=by
 have e:BO s=s.data.toList.all Fi:=by simp[BO,h]
 rw[e,yr];have t:=aM s.data.toList [97,98,99];constructor
 .intro hv b Y
  have:uw s.data.toList [97,98,99]=[]:=by simp only[Value.string.injEq,ByteArray.mk.injEq] at hv;have:=congrArg Array.toList hv;simpa using this
  rw[<-QZ];exact t.1 this b Y
 .intro ha
  rw[t.2 (λb Y=>by rw[QZ];exact ha b Y)]
theorem isEmpty_iff(r:ByteArray):r.toList.isEmpty=true↔r=⟨#[]⟩:=by rw[xC,tS];obtain⟨⟨l⟩⟩:=r;simp
theorem DZ(s:ByteArray)(w:World)(V:s.size<=maxLen):
 Calls prog 122 #[.string s] w λe w'=>e=.returned (.bool (BO s))/\Below w.heap.size w w':=by
 unfold maxLen at V
 by_cases h4:s.size<=4
 .have dg:=Any.strings_Trim_laid Tryz.lays160 (by kernel_rfl) s ⟨#[97,98,99]⟩ w (by omega) (by decide) (ascii_of_all (by decide))
  change Calls prog 179 _ _ (λe w'=>e=.returned (.string ⟨(uw s.data.toList [97,98,99]).toArray⟩)/\Below w.heap.size w w') at dg
  have R:=AA (UW s h4);have i4:(s.size:Int)<=4:=by omega
  generalize(⟨(uw s.data.toList [97,98,99]).toArray⟩:ByteArray)=r at dg R;go_in;go_wp2_with (refine dg.mono ?_;rintro e w1 ⟨rfl,Y⟩;have S:Hid (r.toList.isEmpty=BO s):=AA (by rw[Bool.eq_iff_iff,<-R.out,isEmpty_iff];simp));go_ret;exact⟨AI S.out,Y⟩
 .have S:=AA (show BO s=false by simp[BO,h4])
  have i4:¬(s.size:Int)<=4:=by omega
  go_in;go_wp2_with fail;go_ret;exact⟨AI S.out.symm,yO _ _⟩
end Go.Proofs.YtaopbdankjkfpaaGreatDoor
namespace Go.Proofs.YtaopbdankjkfpaaGreatDoor
open Go.Proofs.Tryz Go.RowKit Go.Shelf Go.Sort
def A4(ns:List Nat):List Int:=ns.map λn:Nat=>(n:Int)
theorem Cn(ns:List Nat):(A4 ns).length=ns.length:=by simp[A4]
theorem Qg{ns:List Nat}{k:Nat}(h:k<ns.length):nth (A4 ns) k=((ns.getD k 0:Nat):Int):=by simp[nth,A4,h]
theorem LB{ns:List Nat}{g:Nat}:(g:Int)∈A4 ns↔g∈ns:=by
 simp only[A4,vZ];constructor
 .rintro⟨a,h,e⟩
  have:a=g:=by omega
  subst this;exact h
 .exact λh=>⟨g,h,rfl⟩
theorem TE{lo e:Nat}{w:World}{v:Value}{n:Nat}{xs:List Value}(h:w.ownsRow lo e 1 v n xs)(hn:0<n):∃g H bn,v=.slice (some ⟨g,0,none⟩) n H/\lo<=g/\w.heap[g]?=some (.cells bn e (0,0))/\n<=H/\H<=maxLen/\bn.size=H*1/\bn.toList.take (n*1)=xs:=by
 rcases h.2 with⟨rfl,rfl⟩|⟨g,H,bn,rfl,Y,Z,bw,am,cv,htake⟩
 .have:=h.1;simp at this;omega
 .exact⟨g,H,bn,rfl,Y,Z,bw,am,cv,htake⟩
theorem NI{lo:Nat}(v:Value)(ns:List Nat)(w:World)(h:AG lo w v (A4 ns))(V:ns.length<=1048576):
 Calls prog 126 #[v] w λe w'=>e=.returned (.tuple #[])/\∃ts:List Nat,ts.length=ns.length/\(∀g,g∈ts↔g∈ns)/\AG lo w' v (A4 ts)/\w.grownBy w' v.ownBlock:=by
 by_cases h0:ns.length=0
 .obtain rfl:ns=[]:=yh h0
  obtain⟨a,c,rfl,_⟩:=h.rd.open;refine(Any.slices_Sort_int_none Tryz.lays189 a c w).mono ?_;rintro e w' ⟨rfl,rfl⟩;exact⟨rfl,[],rfl,λ_=>Iff.rfl,h,⟨rfl,rfl,rfl,yG _,λ_ _ _=>rfl⟩⟩
 .obtain⟨g,H,bn,rfl,Z,Y,bw,am,cv,K⟩:=TE h (by rw[Cn];omega)
  have hH:=holds_of_blockI (ss:=A4 ns) Y (by simpa using K);have hl:(ns.mergeSort λx y=>decide (x<=y)).length=ns.length:=List.length_mergeSort _;have e1:(A4 ns).mergeSort (λx y=>decide (x<=y))=A4 (ns.mergeSort λx y=>decide (x<=y)):=by unfold A4;rw[List.map_mergeSort];intro a _ b _;simp
  refine(Any.slices_Sort_int Tryz.lays189 g 0 H (A4 ns) w hH (wk.1 Y).1 (by rw[Cn];omega)).mono ?_;rintro e w' ⟨rfl,nn,os,rfl⟩;rw[e1];refine⟨rfl,_,hl,λg=>List.mem_mergeSort,?_,grownBy_sortedI _⟩;have:=ownsRow_sortedI (n:=nn) (os:=os) (ss:=A4 ns) (ts:=A4 (ns.mergeSort λx y=>decide (x<=y))) (by rw[Cn,Cn];exact hl) Z Y bw am cv;have el:(A4 (ns.mergeSort λx y=>decide (x<=y))).length=(A4 ns).length:=by rw[Cn,Cn];exact hl
  unfold AG;rw[el];exact this
theorem Uv(d:Array Int):∀m,m<=d.size->∀x,x∈tQ d m↔∃j,j<m/\d[j]! =x:=by
 intro m
 induction m with
 |zero=>intro _ x;simp[tQ]
 |succ m ih=>
  intro hm x;rw[Lib.compactUpTo_succ,wM,ih (by omega)];cases E:Lib.keeps d m
  .have fQ:m≠0/\d[m]! =d[m - 1]! :=by
    unfold Lib.keeps at E;simp at E;exact⟨by omega,E.2⟩
   constructor
   .rintro(⟨j,X,h⟩|h)
    .exact⟨j,by omega,h⟩
    .simp at h
   .rintro⟨j,X,h⟩
    by_cases e:j=m
    .subst e;exact .inl ⟨j - 1,by omega,by rw[<-fQ.2];exact h⟩
    .exact .inl ⟨j,by omega,h⟩
  .constructor
   .rintro(⟨j,X,h⟩|h)
    .exact⟨j,by omega,h⟩
    .simp at h;exact⟨m,by omega,h.symm⟩
   .rintro⟨j,X,h⟩
    by_cases e:j=m
    .subst e;exact .inr (by simp[h])
    .exact .inl ⟨j,by omega,h⟩
theorem NQ(zs:List Int)(x:Int):x∈wT zs↔x∈zs:=by
 unfold wT;rw[Uv _ _ (by simp)];constructor
 .rintro⟨j,X,rfl⟩
  simp[X]
 .intro h
  obtain⟨j,X,rfl⟩:=xl h;exact⟨j,X,by simp[X]⟩
theorem WF(zs:List Int):(wT zs).length<=zs.length:=by unfold wT tQ;rw[vq];exact yL (xL _ _) (by simp)
theorem Xg{zs:List Int}(h:∀hc∈zs,0<=hc):A4 (zs.map Int.toNat)=zs:=by
 unfold A4;rw[List.map_map]
 conv=>rhs;rw[<-List.map_id zs]
 exact List.map_congr_left λhc hz=>by have:=h hc hz;simp;omega
theorem Ws{lo e n k:Nat}{w:World}{g H:Nat}{xs:List Value}(h:w.ownsRow lo e 1 (.slice (some ⟨g,0,none⟩) n H) n xs)(E:k<=n):w.ownsRow lo e 1 (.slice (some ⟨g,0,none⟩) k H) k (xs.take k):=by
 rcases h.2 with⟨h0,_⟩|⟨g',cap',bn,hv,Y,Z,bw,am,cv,htake⟩
 .cases h0
 .cases hv
  refine⟨by have:=h.1;simp at this;simp[this];omega,.inr ⟨g,H,bn,rfl,Y,Z,by omega,am,cv,?_⟩⟩;rw[<-htake,vm,wR,wR,vP E]
theorem LM{lo:Nat}(v:Value)(ns:List Nat)(w:World)(h:AG lo w v (A4 ns))(V:ns.length<=1048576):
 Calls prog 127 #[v] w λe w'=>∃v',e=.returned v'/\v'.ownBlock=v.ownBlock/\∃ts:List Nat,ts.length<=ns.length/\(∀g,g∈ts↔g∈ns)/\AG lo w' v' (A4 ts)/\w.grownBy w' v.ownBlock:=by
 by_cases h0:ns.length=0
 .obtain rfl:ns=[]:=yh h0
  obtain⟨a,c,rfl,_⟩:=h.rd.open;refine(Any.slices_Compact_int_empty Tryz.lays2n20 a c w).mono ?_;rintro e w' ⟨rfl,rfl⟩;exact⟨_,rfl,rfl,[],yG _,λ_=>Iff.rfl,h,⟨rfl,rfl,rfl,yG _,λ_ _ _=>rfl⟩⟩
 .obtain⟨g,H,bn,rfl,Z,Y,bw,am,cv,K⟩:=TE h (by rw[Cn];omega)
  have hH:=holds_of_blockI (ss:=A4 ns) Y (by simpa using K);have eY:∀hc∈wT (A4 ns),0<=hc:=by intro hc hz;rw[NQ] at hz;obtain⟨n,_,rfl⟩:=vZ.1 hz;omega
  refine(Any.slices_Compact_int Tryz.lays2n20 g 0 H (A4 ns) w hH (by rw[Cn];omega) bw).mono ?_;rintro e w' ⟨rfl,nn,rfl⟩;have e9:=WF (A4 ns);have hO:=ownsRow_sortedI (n:=nn) (os:= #[]) (ss:=A4 ns) (ts:=wT (A4 ns)++yd ((A4 ns).length - (wT (A4 ns)).length) 0) (by simp;omega) Z Y bw am cv;have hG:=grownBy_sortedI (w:=w) (g:=g) (n:=nn) (os:= #[]) (wT (A4 ns)++yd ((A4 ns).length - (wT (A4 ns)).length) 0).toArray;rw[grow_empty] at hO hG;refine⟨_,rfl,rfl,(wT (A4 ns)).map Int.toNat,by rw[vq];rw[Cn] at e9;exact e9,λg=>?_,?_,hG⟩
  .rw[<-LB,Xg eY,NQ,LB]
  .rw[Xg eY]
   have hP:=Ws hO e9;unfold AG;have e:((wT (A4 ns)++yd ((A4 ns).length - (wT (A4 ns)).length) 0).map (ym .i64)).take (wT (A4 ns)).length=(wT (A4 ns)).map (ym .i64):=by rw[xN,vC (by simp)]
   rw[e] at hP;exact hP
theorem OL(v:Value)(ns:List Nat)(x:Int)(w:World)(h:Ax w v (A4 ns)):
 Calls prog 190 #[v,.int .i64 x] w λe w'=>e=.returned (.bool ((A4 ns).contains x))/\w=w':=by
 obtain⟨a,c,rfl,z,am,H0⟩:=h.open;unfold maxLen at am
 by_cases h0:ns.length=0
 .obtain rfl:ns=[]:=yh h0
  refine(Any.slices_Contains_int_empty Tryz.lays107 a c x w).mono ?_;rintro e w' ⟨rfl,rfl⟩;exact⟨rfl,rfl⟩
 .obtain⟨b,D,rfl,av⟩:=H0 0 (by rw[Cn];omega)
  refine(Any.slices_Contains_int Tryz.lays107 b D (A4 ns).length c (A4 ns) x w (yG _) (by omega) (λj X=>av j X)).mono ?_;rintro e w' ⟨rfl,rfl⟩;rw[xG];exact⟨rfl,rfl⟩
theorem MZ(s p:ByteArray)(w:World):Calls prog 79 #[.string s,.string p] w λe w'=>e=.returned (.bool (LX p s))/\w=w':=by refine(Any.strings_HasPrefix Tryz.lays99 s p w).mono ?_;rintro e w' ⟨rfl,rfl⟩;exact⟨rfl,rfl⟩
end Go.Proofs.YtaopbdankjkfpaaGreatDoor
namespace Go.Proofs.YtaopbdankjkfpaaGreatDoor
open Go.Proofs.Tryz Go.RowKit
theorem PQ(r:List Int):LL r=D8 r:=by
 unfold LL D8;rw[Bool.and_comm]
 congr 1
theorem NL{α:Type}{p:α->Bool}{l:List α}:(!l.any λx=>!p x)=l.all p:=by simp[tD]
theorem OP(u:Value)(r:List Int)(w:World)(h:Ax w u r):Calls prog 115 #[u] w λe w'=>e=.returned (.bool (!D8 r))/\Below w.heap.size w w':=by have C:=AA (Ow u r w h);clear h;go_in;go_wp2_with (refine(C.out).mono ?_;rintro e w' ⟨rfl,rfl⟩;rw[PQ]);go_ret;exact⟨rfl,yO _ _⟩
theorem IX(v:Value)(m:List (List Int))(w:World)(h:Bf w v m):Calls prog 56 #[v] w λe w'=>e=.returned (.bool (Bq m))/\Below w.heap.size w w':=by
 have C:=AA (Ir 115 #[] (λr=>!D8 r) v m w h (λ_ _=>by kernel_rfl) (λu r _ W _ hr=>OP u r W hr));obtain⟨a,c,rfl,z,am,_⟩:=h.open;clear h;unfold maxLen at am
 by_cases h4:m.length=12
 .have S:=AA (show(!m.any λr=>!D8 r)=Bq m by rw[NL];simp[Bq,h4])
  have Y:((m.length:Int)==12)=true:=by simp[h4]
  clear h4;go_in;go_wp2_with (refine(C.out).mono ?_;rintro e w' ⟨rfl,ar⟩);go_ret;exact⟨AI S.out,ar⟩
 .have S:=AA (show Bq m=false by simp[Bq,h4])
  have Y:((m.length:Int)==12)=false:=by simp;omega
  clear h4;go_in;go_wp2_with fail;go_ret;exact⟨AI S.out.symm,yO _ _⟩
def Jd(r:List Int):Bool:=r.isEmpty||D8 r
theorem Ue(h:0<r.length):Jd r=D8 r:=by cases r with|nil=>simp at h|cons=>simp[Jd]
theorem Ud(h:¬0<r.length):Jd r=true:=by cases r with|nil=>simp[Jd]|cons=>simp at h
theorem QB(u:Value)(r:List Int)(w:World)(h:Ax w u r):Calls prog 73 #[u] w λe w'=>e=.returned (.bool (!Jd r))/\Below w.heap.size w w':=by
 have C:=AA (Ow u r w h);obtain⟨a,c,rfl,z,am,_⟩:=h.open;clear h;unfold maxLen at am
 by_cases h0:0<r.length
 .have S:=AA (show(!Jd r)=!D8 r by rw[Ue h0])
  have Y:(0:Int)<(r.length:Int):=by omega
  go_in;go_wp2_with (refine(C.out).mono ?_;rintro e w' ⟨rfl,rfl⟩;rw[PQ]);go_ret;exact⟨AI S.out.symm,yO _ _⟩
 .have S:=AA (show(!Jd r)=false by rw[Ud h0];rfl)
  have Y:¬(0:Int)<(r.length:Int):=by omega
  go_in;go_wp2_with fail;go_ret;exact⟨AI S.out.symm,yO _ _⟩
theorem QC(v:Value)(m:List (List Int))(w:World)(h:Bf w v m):Calls prog 32 #[v] w λe w'=>e=.returned (.bool (Ff m))/\Below w.heap.size w w':=by
 have C:=AA (Ir 73 #[] (λr=>!Jd r) v m w h (λ_ _=>by kernel_rfl) (λu r _ W _ hr=>QB u r W hr));obtain⟨a,c,rfl,z,am,_⟩:=h.open;clear h;unfold maxLen at am
 by_cases h4:m.length=16
 .have S:=AA (show(!m.any λr=>!Jd r)=Ff m by rw[NL];simp[Ff,h4];rfl)
  have Y:((m.length:Int)==16)=true:=by simp[h4]
  clear h4;go_in;go_wp2_with (refine(C.out).mono ?_;rintro e w' ⟨rfl,ar⟩);go_ret;exact⟨AI S.out,ar⟩
 .have S:=AA (show Ff m=false by simp[Ff,h4])
  have Y:((m.length:Int)==16)=false:=by simp;omega
  clear h4;go_in;go_wp2_with fail;go_ret;exact⟨AI S.out.symm,yO _ _⟩
def Ib(xs:List AV):Prop:=∀x∈xs,x.g.size<=maxLen
def ZB(x:AV):Bool:=Bh x.k 1 3&&BO x.g&&Bh x.r 0 50
theorem VD:DT AV.zero=true:=by simp[DT]
theorem Mu{x:AV}(h:x≠AV.zero):DT x=ZB x:=by simp[DT,h,ZB]
theorem WW(x:AV)(w:World)(V:x.g.size<=maxLen):Calls prog 118 #[x.val] w λe w'=>e=.returned (.bool (DT x))/\Below w.heap.size w w':=by
 obtain⟨k,g,r⟩:=x;simp only[AV.val];simp only at V;have C:=AA (λW=>DZ g W V);clear V;have dz:∀(b:Bool),b=false->DT ⟨k,g,r⟩=DT ⟨k,g,r⟩:=λ_ _=>rfl
 clear dz;have CW:=AA (λn lo A W=>D5 n lo A W)
 by_cases E:k=0
 .subst E
  by_cases Z:g.toList=[]
  .by_cases hr:r=0
   .have S:=AA (show DT ⟨0,g,r⟩=true by
     have:g=⟨#[]⟩:=by rw[xC] at Z;cases g;simp at Z;rw[Z]
     rw[hr,this];exact VD)
    go_in;go_wp2_with fail;go_ret;exact⟨AI S.out.symm,AJ _ _⟩
   .have S:=AA (show DT ⟨0,g,r⟩=false by rw[Mu (by intro e;simp[AV.zero] at e;exact hr e.2)];simp[ZB,Bh])
    have ai:=AA (show Bh 0 1 3=false from rfl);go_in;go_wp2_with (refine(CW.out _ _ _ _).mono ?_;rintro e w' ⟨rfl,rfl⟩;rw[ai.out]);go_ret;exact⟨AI S.out.symm,AJ _ _⟩
  .have S:=AA (show DT ⟨0,g,r⟩=false by rw[Mu (by intro e;simp[AV.zero] at e;exact Z (by rw[e.1,xC]))];simp[ZB,Bh])
   have ai:=AA (show Bh 0 1 3=false from rfl);go_in;go_wp2_with (refine(CW.out _ _ _ _).mono ?_;rintro e w' ⟨rfl,rfl⟩;rw[ai.out]);go_ret;exact⟨AI S.out.symm,AJ _ _⟩
 .have S:=AA (show DT ⟨k,g,r⟩=ZB ⟨k,g,r⟩ from Mu (by intro e;simp[AV.zero] at e;exact E e.1))
  cases J:Bh k 1 3
  .have T:=AA (show ZB ⟨k,g,r⟩=false by simp[ZB,J])
   have ai:=AA J;clear J;go_in;go_wp2_with (refine(CW.out _ _ _ _).mono ?_;rintro e w' ⟨rfl,rfl⟩;rw[ai.out]);go_ret;exact⟨AI (S.out.trans T.out).symm,AJ _ _⟩
  .cases O:BO g
   .have T:=AA (show ZB ⟨k,g,r⟩=false by simp[ZB,O])
    have ai:=AA J;clear J;have H2:=AA O;clear O;go_in;go_wp2_with (first|(refine(CW.out _ _ _ _).mono ?_;rintro e w' ⟨rfl,rfl⟩;rw[ai.out])|(refine(C.out _).mono ?_;rintro e w' ⟨rfl,Y⟩;rw[H2.out]));go_ret;exact⟨AI (S.out.trans T.out).symm,(AJ _ _).trans (Y.mono (AJ _ _).size)⟩
   .have T:=AA (show ZB ⟨k,g,r⟩=Bh r 0 50 by simp[ZB,J,O])
    have ai:=AA J;clear J;have H2:=AA O;clear O;go_in;go_wp2_with fail;refine(CW.out _ _ _ _).mono ?_;rintro e w' ⟨rfl,rfl⟩;rw[ai.out];go_wp2_with fail;refine(C.out _).mono ?_;rintro e w' ⟨rfl,Y⟩;rw[H2.out];have hz:w.heap.size<w'.heap.size:=by have:=Y.size;simp at this;omega
    obtain⟨z,hf⟩:=ZL Y;go_wp2_with (refine(CW.out _ _ _ _).mono ?_;rintro e w' ⟨rfl,rfl⟩);go_ret;exact⟨AI (S.out.trans T.out).symm,(AJ _ _).trans (Y.mono (AJ _ _).size)⟩
theorem PW(x:AV)(w:World)(V:x.g.size<=maxLen):Calls prog 117 #[x.val] w λe w'=>e=.returned (.bool (!DT x))/\Below w.heap.size w w':=by
 have C:=AA (λW=>WW x W V);obtain⟨k,g,r⟩:=x;simp only[AV.val] at C ⊢;go_in;go_wp2_with (refine(C.out _).mono ?_;rintro e w' ⟨rfl,Y⟩);go_ret;exact⟨rfl,(AJ _ _).trans (Y.mono (AJ _ _).size)⟩
theorem DV(v:Value)(xs:List AV)(w:World)(h:BW w v xs)(V:Ib xs):Calls prog 57 #[v] w λe w'=>e=.returned (.bool (A8 xs))/\Below w.heap.size w w':=by
 have C:=AA (Lb 117 #[] (λx=>!DT x) v xs w h (λ_ _=>by kernel_rfl) (λx N W _=>PW x W (V x N)));obtain⟨a,c,rfl,z,am⟩:=h.shape;clear h V;unfold maxLen at am
 by_cases h4:xs.length=12
 .have S:=AA (show(!xs.any λx=>!DT x)=A8 xs by rw[NL];simp[A8,h4])
  have Y:((xs.length:Int)==12)=true:=by simp[h4]
  clear h4;go_in;go_wp2_with (refine(C.out).mono ?_;rintro e w' ⟨rfl,ar⟩);go_ret;exact⟨AI S.out,ar⟩
 .have S:=AA (show A8 xs=false by simp[A8,h4])
  have Y:((xs.length:Int)==12)=false:=by simp;omega
  clear h4;go_in;go_wp2_with fail;go_ret;exact⟨AI S.out.symm,yO _ _⟩
theorem QQ(x:AV)(w:World):Calls prog 240 #[x.val] w λe w'=>e=.returned (.bool (decide (x.k=0)))/\Below w.heap.size w w':=by obtain⟨k,g,r⟩:=x;simp only[AV.val];have S:=AA (show(k==0)=decide (k=0) by cases h:(k==0)<;>simp_all);go_in;go_wp2_with fail;go_ret;exact⟨AI S.out,AJ _ _⟩
theorem Mb(v:Value)(xs:List AV)(w:World)(h:BW w v xs):Calls prog 188 #[v] w λe w'=>e=.returned (.int .i64 (Ar xs))/\Below w.heap.size w w':=by
 have C:=AA (J5 240 #[] (λx=>decide (x.k=0)) v xs w h (λ_ _=>by kernel_rfl) (λx _ W _=>QQ x W));obtain⟨a,c,rfl,z,am⟩:=h.shape;clear h;go_in;go_wp2_with (refine(C.out).mono ?_;rintro e w' ⟨rfl,ar⟩);go_ret;exact⟨rfl,ar⟩
theorem Zr(s g:ByteArray)(b:Nat)(w:World)(h:w.cell? ⟨b,0,none⟩=some (.string g)):Calls prog 78 #[.string s,.pointer (some ⟨b,0,none⟩)] w λe w'=>e=.returned (.bool (LX s g))/\Below w.heap.size w w':=by go_in;go_wp2_with (refine(MZ _ _ _).mono ?_;rintro e w' ⟨rfl,rfl⟩);go_ret;exact⟨rfl,yO _ _⟩
theorem Pm(v:Value)(ss:List ByteArray)(g:ByteArray)(w:World)(h:BT w v ss):Calls prog 34 #[v,.string g] w λe w'=>e=.returned (.bool (CQ ss g))/\Below w.heap.size w w':=by
 have b1:=AJ w (.cells #[.string g] 9);have cg:(w.alloc (.cells #[.string g] 9)).cell? ⟨w.heap.size,0,none⟩=some (.string g):=yz _ _ 0 _ _ _ (yw _ _);have C:=AA (Ko 78 #[.pointer (some ⟨w.heap.size,0,none⟩)] (λs=>LX s g) v ss _ (BG.below h b1) (λ_ _=>by kernel_rfl) (λs _ W hW=>Zr s g _ W ((hW.cell (yM _ _ cg)).trans cg)));obtain⟨a,c,rfl,z,am⟩:=h.shape;clear h cg;go_in;go_wp2_with (refine(C.out).mono ?_;rintro e w' ⟨rfl,ar⟩);go_ret;exact⟨rfl,b1.trans (ar.mono b1.size)⟩
def RY(xs:List AV)(g:ByteArray):List AV:=xs.set (Ar xs).toNat ⟨1,g,0⟩
theorem Pw(v:Value)(xs:List AV)(g:ByteArray)(w:World)(h:BW w v xs)(V:Ib xs)(Z:g.size<=maxLen)(bi:A8 xs=true)(hr:BO g=true)(hf:Ar xs<0):
 Calls prog 144 #[v,.string g] w λe w'=>e=.returned (.tuple #[.slice none 0 0,.int .i64 0,.bool false])/\Below w.heap.size w w':=by
 have C1:=AA (λW (hW:Below w.heap.size w W)=>DV v xs W (BG.below h hW) V);have C2:=AA (λW=>DZ g W Z);have C3:=AA (λW (hW:Below w.heap.size w W)=>Mb v xs W (BG.below h hW));have Ok:=AA bi;have Hr:=AA hr;clear bi hr h V Z;go_in;go_wp2_with fail;refine(C1.out _ (yO _ _)).mono ?_;rintro e w1 ⟨rfl,br⟩;rw[Ok.out];go_wp2_with fail;refine(C2.out _).mono ?_;rintro e w2 ⟨rfl,ar⟩;rw[Hr.out];replace ar:=br.trans (ar.mono br.size);clear br;go_wp2_with fail;refine(C3.out _ ar).mono ?_;rintro e w3 ⟨rfl,bf⟩;replace bf:=ar.trans (bf.mono ar.size);clear ar;go_wp2_with fail;go_ret3;exact⟨rfl,bf⟩
theorem Px(v:Value)(xs:List AV)(g:ByteArray)(w:World)(h:BW w v xs)(V:Ib xs)(Z:g.size<=maxLen)(bi:A8 xs=true)(hr:BO g=true)(hf:0<=Ar xs):
 Calls prog 144 #[v,.string g] w λe w'=>∃v',e=.returned (.tuple #[v',.int .i64 (Ar xs),.bool true])/\AO w.heap.size 91 3 At w' v' (RY xs g)/\Below w.heap.size w w':=by
 have C1:=AA (λW (hW:Below w.heap.size w W)=>DV v xs W (BG.below h hW) V);have C2:=AA (λW=>DZ g W Z);have C3:=AA (λW (hW:Below w.heap.size w W)=>Mb v xs W (BG.below h hW));have hl:xs.length=12:=(A1.1 bi).1;have C4:=AA (λW (hW:Below w.heap.size w W)=>GN v xs W (BG.below h hW) (by omega));have Ok:=AA bi;have Hr:=AA hr;have fj:(Ar xs).toNat<xs.length:=(GZ (by omega)).1;have Hl:=AA hl;clear bi hr h V Z hl;go_in;go_wp2_with fail;refine(C1.out _ (yO _ _)).mono ?_;rintro e w1 ⟨rfl,br⟩;rw[Ok.out];go_wp2_with fail;refine(C2.out _).mono ?_;rintro e w2 ⟨rfl,ar⟩;rw[Hr.out];replace ar:=br.trans (ar.mono br.size);clear br;go_wp2_with fail;refine(C3.out _ ar).mono ?_;rintro e w3 ⟨rfl,bf⟩;replace bf:=ar.trans (bf.mono ar.size);clear ar;go_wp2_with fail;refine(C4.out _ bf).mono ?_;rintro e w4 ⟨v',rfl,hO,cw⟩;obtain⟨q,H,rfl,c1,c2,q1,q2,eA⟩:=hO.zX (by omega);unfold maxLen at c2;have hS:=AA (AO.stored Av hO fj ⟨1,g,0⟩);obtain⟨d0,d1,d2⟩:=AO.Dq hO fj;have hB:=AA (AM (bf.trans (cw.mono bf.size)) hS.out.2 (yL bf.size q1) (bf.trans (cw.mono bf.size)).size);have bm:=bf.size;clear hO cw bf;have iF:Ar xs<xs.length:=by omega
 go_wp2_with fail;go_ret3;exact⟨_,rfl,hS.out.1.lower bm,hB.out⟩
theorem Tn(a b:Int):(a==b)=decide (a=b):=by cases h:(a==b)<;>simp_all
theorem Kx(x:Ad)(w:World):Calls prog 119 #[x.val] w λe w'=>e=.returned (.bool (Bu x))/\Below w.heap.size w w':=by
 obtain⟨e,p,f,b⟩:=x;simp only[Ad.val];have C1:=AA (λW=>MO e W);have C2:=AA (λW=>WX p W);have C3:=AA (λW=>Dk f W);cases J:Bh e 0 2
 .have S:=AA (show Bu ⟨e,p,f,b⟩=false by simp[Bu,J])
  have H1:=AA J;clear J;go_in;go_wp2_with (refine(C1.out _).mono ?_;rintro e w' ⟨rfl,rfl⟩;rw[H1.out]);go_ret;exact⟨AI S.out.symm,AJ _ _⟩
 .cases O:Bh p 0 15
  .have S:=AA (show Bu ⟨e,p,f,b⟩=false by simp[Bu,O])
   have H1:=AA J;clear J;have H2:=AA O;clear O;go_in;go_wp2_with (first|(go_at_call 27;refine(C1.out _).mono ?_;rintro e w' ⟨rfl,rfl⟩;rw[H1.out])|(go_at_call 176;refine(C2.out _).mono ?_;rintro e w' ⟨rfl,rfl⟩;rw[H2.out]));go_ret;exact⟨AI S.out.symm,AJ _ _⟩
  .have S:=AA (show Bu ⟨e,p,f,b⟩=Bh f 0 11 by simp[Bu,J,O])
   have H1:=AA J;clear J;have H2:=AA O;clear O;go_in;go_wp2_with (first|(go_at_call 27;refine(C1.out _).mono ?_;rintro e w' ⟨rfl,rfl⟩;rw[H1.out])|(go_at_call 176;refine(C2.out _).mono ?_;rintro e w' ⟨rfl,rfl⟩;rw[H2.out])|(go_at_call 61;refine(C3.out _).mono ?_;rintro e w' ⟨rfl,rfl⟩));go_ret;exact⟨AI S.out.symm,AJ _ _⟩
theorem Uq(x:Ad)(e p:Int)(be bp:Nat)(w:World)(J:w.cell? ⟨be,0,none⟩=some (.int .i64 e))(O:w.cell? ⟨bp,0,none⟩=some (.int .i64 p)):Calls prog 178 #[x.val,.pointer (some ⟨be,0,none⟩),.pointer (some ⟨bp,0,none⟩)] w λr w'=>r=.returned (.bool (BN e p x))/\Below w.heap.size w w':=by
 obtain⟨xe,xp,xf,xb⟩:=x;simp only[Ad.val];have b1:=yM w _ J;have b2:=yM w _ O;have n1:¬be=w.heap.size:=by have:be<w.heap.size:=b1;omega
 have n2:¬bp=w.heap.size:=by have:bp<w.heap.size:=b2;omega
 by_cases he:xe=e
 .have S:=AA (show BN e p ⟨xe,xp,xf,xb⟩=(xp==p) by simp[BN,he,Tn])
  have t:(xe==e)=true:=by simp[he]
  clear he;go_in;go_wp2_with fail;go_ret;exact⟨AI S.out.symm,AJ _ _⟩
 .have S:=AA (show BN e p ⟨xe,xp,xf,xb⟩=false by simp[BN,he])
  have t:(xe==e)=false:=by simp[he]
  clear he;go_in;go_wp2_with fail;go_ret;exact⟨AI S.out.symm,AJ _ _⟩
theorem QG(v:Value)(xs:List Ad)(e p:Int)(w:World)(h:DY w v xs):Calls prog 120 #[v,.int .i64 e,.int .i64 p] w λr w'=>r=.returned (.int .i64 (Gr xs e p))/\Below w.heap.size w w':=by
 have b2:=IH w (.cells #[.int .i64 e] 3) (.cells #[.int .i64 p] 3);have gg:(w.alloc (.cells #[.int .i64 e] 3)).cell? ⟨w.heap.size,0,none⟩=some (.int .i64 e):=yz _ _ 0 _ _ _ (yw _ _);have ce:((w.alloc (.cells #[.int .i64 e] 3)).alloc (.cells #[.int .i64 p] 3)).cell? ⟨w.heap.size,0,none⟩=some (.int .i64 e):=((AJ _ _).cell (yM _ _ gg)).trans gg;have cp:((w.alloc (.cells #[.int .i64 e] 3)).alloc (.cells #[.int .i64 p] 3)).cell? ⟨w.heap.size+1,0,none⟩=some (.int .i64 p):=by
  have:=yz _ _ 0 _ _ _ (yw (w.alloc (.cells #[.int .i64 e] 3)) (.cells #[.int .i64 p] 3))
  rwa [World.size_alloc] at this
 have C:=AA (JS 178 #[.pointer (some ⟨w.heap.size,0,none⟩),.pointer (some ⟨w.heap.size+1,0,none⟩)] (BN e p) v xs _ (BG.below h b2) (λ_ _=>by kernel_rfl)
  (λx _ W hW=>Uq x e p _ _ W ((hW.cell (yM _ _ ce)).trans ce) ((hW.cell (yM _ _ cp)).trans cp)))
 obtain⟨a,c,rfl,z,am⟩:=h.shape;clear h gg ce cp;go_in;go_wp2_with (refine(C.out).mono ?_;rintro e w' ⟨rfl,ar⟩);go_ret;exact⟨rfl,b2.trans (ar.mono b2.size)⟩
theorem DY.take{w:World}{a:Option Addr}{c k:Nat}{xs:List Ad}(h:DY w (.slice a xs.length c) xs)(E:k<=xs.length):DY w (.slice a k c) (xs.take k):=by
 obtain⟨a',c',hv,bw,am,hl,az,z⟩:=h;cases hv;have bx:(CZ AX (xs.take k)).length=k*4:=by rw[JA Ce,yt];congr 1;omega
 have iB:k*4<=xs.length*4:=wL _ E;unfold DY BG;rw[show(xs.take k).length=k by rw[yt];omega];refine⟨a,c,rfl,by omega,am,bx,az,λhn=>?_⟩;obtain⟨b,D,rfl,av⟩:=z (by omega);refine⟨b,D,rfl,λj X=>?_⟩;rw[av j (by omega)];have e:CZ AX xs=CZ AX (xs.take k)++CZ AX (xs.drop k):=by rw[<-Bj,wS]
 rw[e,xt (by omega)]
theorem YE{xs:List Ad}{e p:Int}:decide (0<=Gr xs e p)=xs.any (BN e p):=KZ
theorem Oo{xs:List Ad}{k:Nat}(h:k<xs.length)(z:DA xs k=false):Bd xs=false:=by have:(yN xs.length).all (DA xs)=false:=xh.2 ⟨k,yj.2 h,by simp[z]⟩;simp[Bd,this]
theorem To{xs:List Ad}(h:∀k,k<xs.length->DA xs k=true)(hl:xs.length<=4):Bd xs=true:=by
 have:(yN xs.length).all (DA xs)=true:=yr.2 λk E=>h k (yj.1 E)
 simp[Bd,this,hl]
theorem JH(v:Value)(xs:List Ad)(w:World)(h:DY w v xs):Calls prog 58 #[v] w λe w'=>e=.returned (.bool (Bd xs))/\Below w.heap.size w w':=by
 have ai:=AA h;obtain⟨a,c,rfl,z,am,H0⟩:=BG.open Ce (by decide) h;clear h;unfold maxLen at am
 by_cases h4:xs.length<=4
 .have Y:¬(4:Int)<xs.length:=by omega
  go_in;go_wp2_with fail;go_loopw [10] (λi wr=>∃k:Nat,k<=xs.length/\i=.int .i64 k/\(∀j,j<k->DA xs j=true)/\Below w.heap.size w wr) (λi _=>xs.length - (intOf i).toNat)
  exact⟨0,yu _,rfl,λj X=>absurd X (xW _),yO _ _⟩
  obtain⟨k,E,rfl,ay,ac⟩:=hrel;have ax:=AA ay;clear ay
  by_cases aq:k<xs.length
  .obtain⟨b,D,rfl,bC,D0,D1,D2,D3⟩:=H0.zW aq
   replace D0:=(ac.cell (p:=⟨b,D+k*4,none⟩) bC).trans D0;replace D1:=(ac.cell (p:=⟨b,D+k*4+1,none⟩) bC).trans D1;replace D2:=(ac.cell (p:=⟨b,D+k*4+2,none⟩) bC).trans D2;replace D3:=(ac.cell (p:=⟨b,D+k*4+3,none⟩) bC).trans D3;clear H0;have hx:=yw wr (.cells #[.int .i64 (AT xs k).e,.int .i64 (AT xs k).p,.int .i64 (AT xs k).f,.bool (AT xs k).w] 96);have ee:=ac.trans ((AJ wr (.cells #[.int .i64 (AT xs k).e,.int .i64 (AT xs k).p,.int .i64 (AT xs k).f,.bool (AT xs k).w] 96)).mono ac.size);have fP:(k:Int)<=xs.length:=by omega
   have iC:(k:Int)<=c:=by omega
   go_wp2_with fail;generalize wr.alloc _=wa at hx ee;clear D0 D1 D2 D3 ac;obtain⟨n0,n1,n2,n3⟩:=AE hx;have k0:=yy n0;have k1:=yy n1;have k2:=yy n2;have k3:=yy n3;clear n0 n1 n2 n3;have HB:=AA ee;have cF:=Tk (w1:=wa) (λW hW=>QG _ (xs.take k) (AT xs k).e (AT xs k).p W (DY.take (BG.below ai.out (ee.trans (hW.mono ee.size))) E));cases J:Bu (AT xs k)
   .have S:=AA (Oo aq (by simp[DA,J]))
    have cC:=Tk (w1:=wa) (λW _=>by have:=Kx (AT xs k) W;rw[J] at this;exact this);clear J hx ee;refine BV ?_
    repeat(go_big_quiet_step (first|exact cC _ _|exact cF _ _))
    refine BU λwq bq=>?_
    go_wp2_with fail;go_ret;exact⟨AI S.out.symm,HB.out.trans (bq.mono HB.out.size)⟩
   .have cC:=Tk (w1:=wa) (λW _=>by have:=Kx (AT xs k) W;rw[J] at this;exact this)
    have hk:=YE (xs:=xs.take k) (e:=(AT xs k).e) (p:=(AT xs k).p);cases O:(xs.take k).any (BN (AT xs k).e (AT xs k).p)
    .have S:=AA (show DA xs k=true by simp only[DA,J,O];rfl)
     rw[O] at hk;clear J O hx ee;refine BV ?_
     repeat(go_big_quiet_step (first|exact cC _ _|exact cF _ _))
     refine BU λwq bq=>?_
     go_wp2_with fail;go_roundw;exact⟨k+1,by omega,by go_num,Al ax.out S.out,HB.out.trans (bq.mono HB.out.size)⟩;simp[intOf];omega
    .have S:=AA (Oo aq (by simp only[DA,J,O];rfl))
     rw[O] at hk;clear J O hx ee;refine BV ?_
     repeat(go_big_quiet_step (first|exact cC _ _|exact cF _ _))
     refine BU λwq bq=>?_
     go_wp2_with fail;go_ret;exact⟨AI S.out.symm,HB.out.trans (bq.mono HB.out.size)⟩
  .have S:=AA (To (xs:=xs) (λj X=>ax.out j (by omega)) h4)
   go_wp2_with fail;go_ret;exact⟨AI S.out.symm,ac⟩
 .have S:=AA (show Bd xs=false by simp[Bd,h4])
  have Y:(4:Int)<xs.length:=by omega
  go_in;go_wp2_with fail;go_ret;exact⟨AI S.out.symm,yO _ _⟩
theorem ZT{xs:List Ad}{e:Int}:(xs.filter λx=>!decide (x.e=e))=GI xs e:=by
 unfold GI
 congr 1
 funext x
 simp
theorem Ps(x:Ad)(e:Int)(be:Nat)(w:World)(J:w.cell? ⟨be,0,none⟩=some (.int .i64 e)):Calls prog 193 #[x.val,.pointer (some ⟨be,0,none⟩)] w λr w'=>r=.returned (.bool (decide (x.e=e)))/\Below w.heap.size w w':=by
 obtain⟨xe,xp,xf,xb⟩:=x;simp only[Ad.val];have b1:=yM w _ J;have n1:¬be=w.heap.size:=by have:be<w.heap.size:=b1;omega
 have S:=AA (Tn xe e);go_in;go_wp2_with fail;go_ret;exact⟨AI S.out,AJ _ _⟩
theorem MX(v:Value)(xs:List Ad)(e:Int)(w:World)(h:DY w v xs)(bi:Bd xs=true):Calls prog 152 #[v,.int .i64 e] w λr w'=>∃v',r=.returned v'/\AO w.heap.size 96 4 AX w' v' (GI xs e)/\Below w.heap.size w w':=by
 have hl:=(Ek.1 bi).2.2;have b1:=AJ w (.cells #[.int .i64 e] 3);have ce:(w.alloc (.cells #[.int .i64 e] 3)).cell? ⟨w.heap.size,0,none⟩=some (.int .i64 e):=yz _ _ 0 _ _ _ (yw _ _);have aq:w.heap.size<(w.alloc (.cells #[.int .i64 e] 3)).heap.size:=by simp
 have C1:=AA (by have:=JH v xs _ (BG.below h b1);rw[bi] at this;exact this);have C2:=AA (λW (hW:Below w.heap.size w W)=>JI v xs W (BG.below h hW) (by omega));obtain⟨a,c,rfl,z,am⟩:=h.shape;clear h bi;go_in;go_wp2_with fail;refine(C1.out).mono ?_;rintro r w1 ⟨rfl,br⟩;replace ce:=(br.cell (yM _ _ ce)).trans ce;have ar:=b1.trans (br.mono b1.size);replace aq:w.heap.size<w1.heap.size:=yv aq br.size;clear br b1;have CE:=AA ce;clear ce;go_wp2_with fail;refine(C2.out _ ar).mono ?_;rintro r w2 ⟨v',rfl,hO,bf⟩;have gT:=(bf.cell (p:=⟨w.heap.size,0,none⟩) aq).trans CE.out;have C3:=AA (Is 193 #[.pointer (some ⟨w.heap.size,0,none⟩)] (λx=>decide (x.e=e)) v' xs w2 hO bf.size (λ_ _=>by kernel_rfl)
  (λx _ W hW=>Ps x e _ W ((hW.cell (p:=⟨w.heap.size,0,none⟩) aq).trans gT)))
 have cw:=ar.trans (bf.mono ar.size);have dm:=ar.size;clear hO bf gT;go_wp2_with (refine(C3.out).mono ?_;rintro r w3 ⟨v3,rfl,dp,eJ⟩);go_ret;refine⟨_,rfl,?_,cw.trans (eJ.mono dm)⟩;rw[<-ZT];exact dp.lower dm
theorem Rg(y x:Ad)(b:Nat)(w:World)(J:w.heap[b]?=some (.cells #[.int .i64 x.e,.int .i64 x.p,.int .i64 x.f,.bool x.w] 96 (0,0))):Calls prog 198 #[y.val,.pointer (some ⟨b,0,none⟩)] w λr w'=>r=.returned (.bool (BN x.e x.p y))/\Below w.heap.size w w':=by
 obtain⟨d0,d1,d2,d3⟩:=AE J;have b1:=AW J;have n1:¬b=w.heap.size:=by omega
 obtain⟨ye,yp,yf,yb⟩:=y;simp only[Ad.val];clear J
 by_cases he:ye=x.e
 .have S:=AA (show BN x.e x.p ⟨ye,yp,yf,yb⟩=(yp==x.p) by simp[BN,he,Tn])
  have t:(ye==x.e)=true:=by simp[he]
  clear he;go_in;go_wp2_with fail;go_ret;exact⟨AI S.out.symm,AJ _ _⟩
 .have S:=AA (show BN x.e x.p ⟨ye,yp,yf,yb⟩=false by simp[BN,he])
  have t:(ye==x.e)=false:=by simp[he]
  clear he;go_in;go_wp2_with fail;go_ret;exact⟨AI S.out.symm,AJ _ _⟩
theorem Xm{xs:List Ad}{x:Ad}{ys:List Ad}(h:ys=if(xs.filter λy=>!BN x.e x.p y).length=4 then(xs.filter λy=>!BN x.e x.p y).drop 1 else xs.filter λy=>!BN x.e x.p y):ys++[x]=JN xs x:=by rw[h];rfl
theorem Td(v:Value)(xs:List Ad)(x:Ad)(w:World)(h:DY w v xs)(bi:Bd xs=true)(N:Bu x=true):Calls prog 155 #[v,x.val] w λr w'=>∃v',r=.returned (.tuple #[v',.bool true])/\AO w.heap.size 96 4 AX w' v' (JN xs x)/\Below w.heap.size w w':=by
 have hl:=(Ek.1 bi).2.2;obtain⟨hx,b1⟩:=EH w (.cells #[.int .i64 x.e,.int .i64 x.p,.int .i64 x.f,.bool x.w] 96);have C1:=AA (by have:=JH v xs _ (BG.below h b1);rw[bi] at this;exact this);have CX:=AA (λW=>by have:=Kx x W;rw[N] at this;exact this);have C2:=AA (λW (hW:Below w.heap.size w W)=>JI v xs W (BG.below h hW) (by omega));obtain⟨a,c,rfl,z,am⟩:=h.shape;have fj:(xs.filter λy=>!BN x.e x.p y).length<=4:=yL (xL _ _) hl;clear h bi N;simp only[Ad.val] at CX ⊢;go_in;go_wp2_with fail;refine(C1.out).mono ?_;rintro r w1 ⟨rfl,br⟩;replace hx:=AB hx br;have ar:=b1.trans (br.mono b1.size);clear br b1;obtain⟨d0,d1,d2,d3⟩:=AE hx;have HN:=AA hx;clear hx;go_wp2_with fail;refine(CX.out _).mono ?_;rintro r w2 ⟨rfl,bf⟩;have gl:=AA (AB HN.out bf);replace ar:=ar.trans (bf.mono ar.size);clear bf d0 d1 d2 d3 HN;go_wp2_with fail;refine(C2.out _ ar).mono ?_;rintro r w3 ⟨v',rfl,hO,cw⟩;have N3:=AB gl.out cw;have aq:w.heap.size<w2.heap.size:=AW gl.out;have C3:=AA (Is 198 #[.pointer (some ⟨w.heap.size,0,none⟩)] (BN x.e x.p) v' xs w3 hO cw.size (λ_ _=>by kernel_rfl)
  (λy _ W hW=>Rg y x _ W ((hW.block _ aq).trans N3)))
 have eJ:=ar.trans (cw.mono ar.size);have dm:=ar.size;have g8:=cw.size;have gU:=AA N3;clear hO cw N3 gl;go_wp2_with fail;refine(C3.out).mono ?_;rintro r w4 ⟨v4,rfl,cx,eI⟩;have N4:=(eI.block _ aq).trans gU.out;have fz:=eJ.trans (eI.mono dm);have gy:w2.heap.size<=w4.heap.size:=yL g8 eI.size;obtain⟨a4,c4,rfl,iG,ii⟩:=cx.rd.shape;have gi:=AA cx;have gk:=AA N4;clear cx eI eJ N4 gU
 by_cases hn:(xs.filter λy=>!BN x.e x.p y).length=4
 .have t:(((xs.filter λy=>!BN x.e x.p y).length:Int)==4)=true:=by simp[hn]
  have hk:=AA (Xm (xs:=xs) (x:=x) (ys:=(xs.filter λy=>!BN x.e x.p y).drop 1) (by rw[if_pos hn]));have CD:=AA (OM _ _ w4 gi.out gy hn);have hY:((xs.filter λy=>!BN x.e x.p y).drop 1).length<=3:=by rw[xm];omega
  generalize(xs.filter λy=>!BN x.e x.p y)=fs at*;clear hn gi fj;go_wp2_with fail;refine(CD.out).mono ?_;rintro r w5 ⟨v5,rfl,eK,fy⟩;have N5:=(fy.block _ aq).trans gk.out;obtain⟨d0,d1,d2,d3⟩:=AE N5;have gO:=fz.trans (fy.mono dm);have ix:w2.heap.size<=w5.heap.size:=yL gy fy.size;have ip:=AA eK;clear eK fy fz N5 gk;generalize hgs:fs.drop 1=gs at*;clear hgs;go_wp2_with (at_builtin;go_must (refine EX (lo:=w2.heap.size) (v:=v5) (n:=gs.length) (xs:=CZ AX gs) (m:=1) (news:=[.int .i64 x.e,.int .i64 x.p,.int .i64 x.f,.bool x.w]) rfl rfl 96 (.agg #[.int .i64 0,.int .i64 0,.int .i64 0,.bool false]) 4 32 underlying26 Tryz.zQ rfl (by decide) rfl (Bl ip.out (AJ _ _)) rfl (Rd.zN _ #[.int .i64 x.e,.int .i64 x.p,.int .i64 x.f,.bool x.w] _ 4 1 _ rfl (by simp) (by simp[maxLen])) (by simp[xR]) (by unfold maxLen;omega) (by omega) (by simp;omega) ?_;intro v6 w6 k1 k2 k3));have R:AO w2.heap.size 96 4 AX w6 v6 (gs++[x]):=by unfold AO;rw[Bj,Ee,yA];exact k1
  rw[hk.out] at R;have RR:=AA R;clear k1 R;go_wp2_with fail;go_ret2;exact⟨_,rfl,RR.out.lower dm,(gO.trans ((AJ _ _).mono gO.size)).trans (k3.mono dm)⟩
 .have t:(((xs.filter λy=>!BN x.e x.p y).length:Int)==4)=false:=by rw[beq_eq_false_iff_ne];omega
  have hk:=AA (Xm (xs:=xs) (x:=x) (ys:=xs.filter λy=>!BN x.e x.p y) (by rw[if_neg hn]));have hY:(xs.filter λy=>!BN x.e x.p y).length<=3:=by omega
  generalize(xs.filter λy=>!BN x.e x.p y)=gs at*;clear hn fj;obtain⟨d0,d1,d2,d3⟩:=AE gk.out;go_wp2_with (at_builtin;go_must (refine EX (lo:=w2.heap.size) (v:=.slice a4 gs.length c4) (n:=gs.length) (xs:=CZ AX gs) (m:=1) (news:=[.int .i64 x.e,.int .i64 x.p,.int .i64 x.f,.bool x.w]) rfl rfl 96 (.agg #[.int .i64 0,.int .i64 0,.int .i64 0,.bool false]) 4 32 underlying26 Tryz.zQ rfl (by decide) rfl (Bl gi.out (AJ _ _)) rfl (Rd.zN _ #[.int .i64 x.e,.int .i64 x.p,.int .i64 x.f,.bool x.w] _ 4 1 _ rfl (by simp) (by simp[maxLen])) (by simp[xR]) (by unfold maxLen;omega) (by omega) (by simp;omega) ?_;intro v6 w6 k1 k2 k3));have R:AO w2.heap.size 96 4 AX w6 v6 (gs++[x]):=by unfold AO;rw[Bj,Ee,yA];exact k1
  rw[hk.out] at R;have RR:=AA R;clear k1 R;go_wp2_with fail;go_ret2;exact⟨_,rfl,RR.out.lower dm,(fz.trans ((AJ _ _).mono fz.size)).trans (k3.mono dm)⟩
theorem Gh(v:Value)(ss:List ByteArray)(w:World)(h:BT w v ss)(V:DH ss):Calls prog 60 #[v] w λe w'=>e=.returned (.bool (BS ss))/\Below w.heap.size w w':=by
 obtain⟨a,c,rfl,z,am,H0⟩:=BG.open FJ (by decide) h;unfold maxLen at am;have Hs:=AA V;clear V h;go_in;go_wp2_with fail;go_loopw [7] (λi wr=>∃k:Nat,k<=ss.length/\i=.int .i64 k/\(∀j,j<k->Cv ss j=true)/\Below w.heap.size w wr) (λi _=>ss.length - (intOf i).toNat)
 exact⟨0,yu _,rfl,λj X=>absurd X (xW _),yO _ _⟩
 obtain⟨k,E,rfl,ay,ac⟩:=hrel;have ax:=AA ay;clear ay
 by_cases aq:k<ss.length
 .obtain⟨b,D,rfl,D0⟩:=H0.str aq
  have bC:=yM w _ D0;have ab:=(ac.cell (p:=⟨b,D+k,none⟩) bC).trans D0;have C:=AA (λW=>DZ (Cp ss k) W (Hs.out.nth aq));cases bi:BO (Cp ss k)
  .have S:=AA (Jc aq (by simp[Cv,bi]))
   have eN:=AA bi;clear bi D0;go_wp2_with (refine(C.out _).mono ?_;rintro e w2 ⟨rfl,Y⟩;rw[eN.out]);go_ret;exact⟨AI S.out.symm,ac.trans (Y.mono ac.size)⟩
  .by_cases ew:k=0
   .have Ok:=AA (show Cv ss k=true by simp[Cv,bi];exact .inl ew)
    have eN:=AA bi;have t0:¬(0:Int)<k:=by omega
    clear bi D0 ew;go_wp2_with fail;refine(C.out _).mono ?_;rintro e w2 ⟨rfl,Y⟩;rw[eN.out];go_wp2_with fail;go_roundw;exact⟨k+1,by omega,by go_num,Al ax.out Ok.out,ac.trans (Y.mono ac.size)⟩;simp[intOf];omega
   .obtain⟨b',dq,ek,E0⟩:=H0.str (show k - 1<ss.length by omega)
    obtain⟨rfl,rfl⟩:b=b'/\D=dq:=by simpa using ek
    have hk:=(ac.cell (p:=⟨b,D+(k - 1),none⟩) bC).trans E0;have t0:(0:Int)<k:=by omega
    have s1:((k:Int) - 1).toNat=k - 1:=by omega
    have s3:(1:Int)<=k:=by omega
    have eN:=AA bi;clear D0 E0 ek;cases cP:M8 (Cp ss (k - 1)) (Cp ss k)
    .have Ok:=AA (show Cv ss k=true by simp[Cv,bi,cP])
     have hL:wJ (Cp ss (k - 1)).toList (Cp ss k).toList=true:=by simpa[M8] using cP
     have EE:=AA hk;clear bi cP;go_wp2_with fail;refine(C.out _).mono ?_;rintro e w2 ⟨rfl,Y⟩;rw[eN.out];have E2:=(Y.cell (yM _ _ EE.out)).trans EE.out;clear hk;go_wp2_with fail;go_roundw;exact⟨k+1,by omega,by go_num,Al ax.out Ok.out,ac.trans (Y.mono ac.size)⟩;simp[intOf];omega
    .have S:=AA (Jc aq (by simp[Cv,bi,cP,ew]))
     have hL:wJ (Cp ss (k - 1)).toList (Cp ss k).toList=false:=by simpa[M8] using cP
     have EE:=AA hk;clear bi cP;go_wp2_with (refine(C.out _).mono ?_;rintro e w2 ⟨rfl,Y⟩;rw[eN.out];have E2:=(Y.cell (yM _ _ EE.out)).trans EE.out;clear hk);go_ret;exact⟨AI S.out.symm,ac.trans (Y.mono ac.size)⟩
 .have S:=AA (Mi (ss:=ss) (λj X=>ax.out j (by omega)))
  go_wp2_with fail;go_ret;exact⟨AI S.out.symm,ac⟩
theorem PX(s g:ByteArray)(b:Nat)(w:World)(h:w.cell? ⟨b,0,none⟩=some (.string g)):Calls prog 197 #[.string s,.pointer (some ⟨b,0,none⟩)] w λe w'=>e=.returned (.bool (LX g s))/\Below w.heap.size w w':=by go_in;go_wp2_with (refine(MZ _ _ _).mono ?_;rintro e w' ⟨rfl,rfl⟩);go_ret;exact⟨rfl,yO _ _⟩
theorem QA(v:Value)(ss:List ByteArray)(g:ByteArray)(w:World)(h:BT w v ss)(V:DH ss)(Z:g.size<=maxLen)(bi:BS ss=true)(hr:BO g=true):Calls prog 154 #[v,.string g] w λr w'=>∃v',r=.returned v'/\AO w.heap.size 9 1 Ay w' v' (Bc ss g)/\Below w.heap.size w w':=by
 have hl:=(Eh.1 bi).2.2;have b1:=AJ w (.cells #[.string g] 9);have ce:(w.alloc (.cells #[.string g] 9)).cell? ⟨w.heap.size,0,none⟩=some (.string g):=yz _ _ 0 _ _ _ (yw _ _);have aq:w.heap.size<(w.alloc (.cells #[.string g] 9)).heap.size:=by simp
 have C1:=AA (by have:=Gh v ss _ (BG.below h b1) V;rw[bi] at this;exact this);have CX:=AA (λW=>by have:=DZ g W Z;rw[hr] at this;exact this);have C2:=AA (λW (hW:Below w.heap.size w W)=>JJ v ss W (BG.below h hW) (by omega));obtain⟨a,c,rfl,z,am⟩:=h.shape;clear h bi V Z hr;go_in;go_wp2_with fail;refine(C1.out).mono ?_;rintro r w1 ⟨rfl,br⟩;replace ce:=(br.cell (yM _ _ ce)).trans ce;have ar:=b1.trans (br.mono b1.size);replace aq:w.heap.size<w1.heap.size:=yv aq br.size;clear br b1;have CE:=AA ce;go_wp2_with fail;refine(CX.out _).mono ?_;rintro r w2 ⟨rfl,bf⟩;have iq:=AA ((bf.cell (p:=⟨w.heap.size,0,none⟩) aq).trans CE.out);replace aq:w.heap.size<w2.heap.size:=yv aq bf.size;replace ar:=ar.trans (bf.mono ar.size);clear bf ce CE;go_wp2_with fail;refine(C2.out _ ar).mono ?_;rintro r w3 ⟨v',rfl,hO,cw⟩;have gS:=(cw.cell (p:=⟨w.heap.size,0,none⟩) aq).trans iq.out;have C3:=AA (Lc 197 #[.pointer (some ⟨w.heap.size,0,none⟩)] (λs=>LX g s) v' ss w3 hO cw.size (λ_ _=>by kernel_rfl)
  (λx _ W hW=>PX x g _ W ((hW.cell (p:=⟨w.heap.size,0,none⟩) aq).trans gS)))
 have eJ:=ar.trans (cw.mono ar.size);have dm:=ar.size;clear hO cw gS;go_wp2_with (refine(C3.out).mono ?_;rintro r w4 ⟨v4,rfl,cx,eI⟩);go_ret;exact⟨_,rfl,cx.lower dm,eJ.trans (eI.mono dm)⟩
end Go.Proofs.YtaopbdankjkfpaaGreatDoor
namespace Go.Proofs.YtaopbdankjkfpaaGreatDoor
open Go.Proofs.Tryz Go.RowKit Go.Shelf
theorem MQ{lo e n g H:Nat}{w:World}{cs:List Value}(h:w.ownsRow lo e 1 (.slice (some ⟨g,0,none⟩) n H) n cs):∀(j:Nat) v,cs[j]?=some v->w.cell? ⟨g,0+j,none⟩=some v:=by intro j v X;have hl:=h.1;have:=(yE.1 X).1;rw[wK,xx h j (by omega),X]
theorem Yi{lo e n g H:Nat}{w:World}{cs:List Value}(h:w.ownsRow lo e 1 (.slice (some ⟨g,0,none⟩) n H) n cs):∃bn,w.heap[g]?=some (.cells bn e (0,0))/\n<=H/\H<=maxLen/\bn.size=H:=by
 rcases h.2 with⟨h0,_⟩|⟨g',cap',bn,hv,Y,Z,bw,am,cv,htake⟩
 .cases h0
 .cases hv
  exact⟨bn,Z,bw,am,by omega⟩
theorem KF(hi B us:List Value)(h:us.length<=B.length):FW (hi++B) hi.length 0 us=hi++us++B.drop us.length:=by
 have e:hi++B=hi++B.take us.length++B.drop us.length:=by rw[sA,wS]
 rw[e,L5 hi (B.take us.length) (B.drop us.length) us 0 (by rw[yt];omega) hi.length (by omega)]
theorem TD(ss:List ByteArray):∀u∈ss.map xZ,u.oneCell'=true:=by intro u hu;obtain⟨s,_,rfl⟩:=vZ.1 hu;rfl
theorem Eo(ss:List ByteArray):CZ Ay ss=ss.map xZ:=by
 induction ss with
 |nil=>rfl
 |cons s ss ih=>rw[H6,ih];rfl
def Cg(ss:List ByteArray)(k:Nat)(x:ByteArray):List ByteArray:=ss.take k++x::ss.drop k
theorem JX{k:Nat}{x:ByteArray}(E:k<=ss.length):(Cg ss k x).length=ss.length+1:=by simp[Cg];omega
theorem YP{zs cs:List Value}{k n:Nat}{x:Value}(hz:zs.length=n+1)(z:cs.length=n)(E:k<=n)(K:zs.take k=cs.take k):FW (FW zs k 0 [x]) (k+1) 0 (cs.drop k)=cs.take k++x::cs.drop k:=by
 have hA:(cs.take k).length=k:=by rw[yt];omega
 have e:zs=cs.take k++zs.drop k:=by rw[<-K,wS]
 have J:FW zs k 0 [x]=cs.take k++[x]++(zs.drop k).drop 1:=by have:=KF (cs.take k) (zs.drop k) [x] (by simp;omega);rw[<-e,hA] at this;exact this
 rw[J];have:=KF (cs.take k++[x]) ((zs.drop k).drop 1) (cs.drop k) (by simp;omega);rw[yA,hA] at this;rw[show[x].length=1 from rfl] at this;rw[this];have O:((zs.drop k).drop 1).drop (cs.drop k).length=[]:=yh (by simp;omega);rw[O];simp
theorem YQ{zs cs:List Value}{k n:Nat}{x:Value}(hz:zs.length=n+1)(z:cs.length=n)(E:k<=n)(K:zs.take k=cs.take k):FW (FW zs (k+1) 0 (cs.drop k)) k 0 [x]=cs.take k++x::cs.drop k:=by
 have hA:(cs.take k).length=k:=by rw[yt];omega
 have hB:(zs.take (k+1)).length=k+1:=by rw[yt];omega
 have J:FW zs (k+1) 0 (cs.drop k)=zs.take (k+1)++cs.drop k:=by have:=KF (zs.take (k+1)) (zs.drop (k+1)) (cs.drop k) (by simp;omega);rw[wS,hB] at this;rw[this];have O:(zs.drop (k+1)).drop (cs.drop k).length=[]:=yh (by simp;omega);rw[O,List.append_nil]
 rw[J];obtain⟨b,Y⟩:∃b,zs.take (k+1)=cs.take k++[b]:=⟨zs[k],by rw[<-K];exact ul (by omega)⟩
 rw[Y];have:=L5 (cs.take k) [b] (cs.drop k) [x] 0 rfl k (by omega);rw[this];simp
theorem UO{lo e n C:Nat}{w:World}{arr:Array Value}(V:arr.size=C)(hn:n<=C)(hm:C<=maxLen)(bm:lo<=w.heap.size):(w.alloc (.cells arr e)).ownsRow lo e 1 (.slice (some ⟨w.heap.size,0,none⟩) n C) n (arr.toList.take n):=
 ⟨by rw[yt,tf];omega,.inr ⟨w.heap.size,C,arr,rfl,bm,yw _ _,hn,hm,by omega,by rw[wR]⟩⟩
theorem bT(w:World)(g o:Nat)(us:List Value):w.setCells g o us=Gw w g o 0 us:=by rw[<-Gt,xU]
theorem OO{lo vb k:Nat}(v:Value)(ss:List ByteArray)(x:ByteArray)(w:World)(h:AO lo 9 1 Ay w v ss)(bm:lo<=w.heap.size)(E:k<=ss.length)(hl:ss.length<=1000)
 (hN:w.heap[vb]?=some (.cells #[.string x] 9 (0,0)))(a7:∀g,v.ownBlock=some g->vb≠g):
 Calls prog 195 #[v,.int .i64 k,.slice (some ⟨vb,0,none⟩) 1 1] w λe w'=>∃v',e=.returned v'/\AO lo 9 1 Ay w' v' (Cg ss k x)/\Below lo w w':=by
 have dl:∀(j:Nat) v,[xZ x][j]?=some v->w.cell? ⟨vb,0+j,none⟩=some v:=by
  intro j v X
  match j,X with
  |0,X=>simp at X;subst X;exact yz w vb 0 _ _ _ hN
 have fC:∀v∈[xZ x],v.oneCell'=true:=by simp[xR]
 obtain⟨a,c,hv,z,am⟩:=h.rd.shape
 by_cases dt:ss.length+1<=c
 .
  have N:∃g,v=.slice (some ⟨g,0,none⟩) ss.length c/\lo<=g:=by
   rcases h.2 with⟨h0,_⟩|⟨g,H,bn,h0,Y,_⟩
   .rw[hv] at h0;simp only[xS] at h0;omega
   .rw[hv] at h0;cases h0;exact⟨g,hv,Y⟩
  obtain⟨g,rfl,Z⟩:=N;have hO:w.ownsRow lo 9 1 (.slice (some ⟨g,0,none⟩) ss.length c) ss.length (ss.map xZ):=by have:=h;unfold AO at this;rwa [Eo] at this
  obtain⟨ys,eF,bY⟩:=Qn hO (show ss.length<=ss.length+1 by omega) dt;have gp:=bY.1;rw[wR] at eF gp;obtain⟨bn,f4,_,_,cv⟩:=Yi hO;have g7:vb≠g:=a7 g rfl;have gw:∀j,j<ss.length+1->(w.cell? ⟨g,0+j,none⟩).isSome=true:=by intro j X;rw[MQ bY j _ (yH (show j<ys.length by omega))];rfl
  have eA:∀j,w.frozen? ⟨g,0+j,none⟩=false:=λj=>xT hO _
  by_cases fN:k=ss.length
  .subst fN
   refine(Any2.slices_Insert_string_end_room Tryz.lays2n22 g 0 ss.length c vb 0 1 1 [.string x] w (by decide) dt (by unfold maxLen at am;omega) rfl (λj X=>by have:=gw (ss.length+j) (by omega);simpa[ut] using this) (λj _=>by have:=eA (ss.length+j);simpa[ut] using this) dl fC).mono ?_;rintro e w' ⟨rfl,rfl⟩;obtain⟨r1,r2⟩:=El bY ss.length 0 [.string x];rw[show w.setCells g (0+ss.length) [.string x]=Gw w g ss.length 0 [.string x] by rw[wK,<-Gt,xU]];refine⟨_,rfl,?_,AM (yO _ _) r2 Z bm⟩;have e1:FW ys ss.length 0 [.string x]=(Cg ss ss.length x).map xZ:=by
    have e2:ys=ss.map xZ++ys.drop ss.length:=by rw[<-eF,wS]
    have:=KF (ss.map xZ) (ys.drop ss.length) [.string x] (by simp;omega);rw[<-e2,vq] at this;rw[this];have:(ys.drop ss.length).drop 1=[]:=yh (by simp;omega);simp[Cg,this]
   unfold AO;rw[JX (yG _),Eo,<-e1];exact r1
  .have fb:k<ss.length:=by omega
   refine(Any2.slices_Insert_string_shift Tryz.lays2n22 g 0 ss.length c k vb 0 1 1 (ss.map xZ) [.string x] w fb (by decide) dt (by unfold maxLen at am;omega) g7 (by simp) rfl (MQ hO) gw (λj _=>eA j) dl (TD ss) fC
    9 9 1 c (by simp[World.shape?,hN]) (by simp[World.shape?,f4,cv]) (by omega) (AK hN 0) (AK hN 1)).mono ?_
   rintro e w' ⟨rfl,rfl⟩;have dx:Below w.heap.size w w.drew:=A0 (yO _ _) 1;have dp:=Bl bY dx;obtain⟨r1,r2⟩:=El dp (k+1) 0 ((ss.map xZ).drop k);obtain⟨r3,r4⟩:=El r1 k 0 [.string x];rw[bT,bT,wK,wK];refine⟨_,rfl,?_,AM (AM (dx.mono bm) r2 Z (yL bm dx.size)) r4 Z (yL (yL bm dx.size) r2.size)⟩;rw[YQ (n:=ss.length) gp (by simp) E (by rw[<-eF,vm,vP E])] at r3;unfold AO;rw[JX E,Eo];simpa[Cg,tI,List.map_drop] using r3
 .have d6:∀a',a=some a'->∀(j:Nat) v,(ss.map xZ)[j]?=some v->w.cell? (a'.add j)=some v:=by
   rintro a' rfl j v X
   rcases h.2 with⟨h0,_⟩|⟨g,H,bn,h0,Y,_⟩
   .rw[hv] at h0;cases h0
   .rw[hv] at h0
    cases h0;have hO:=h;unfold AO at hO;rw[hv,Eo] at hO;have:=MQ hO j v X;rw[wK] at this;rw[<-this];unfold uJ
    split<;>simp_all
  have gR:=grownCap_ge w (ss.length+1) c 9;have gQ:=grownCap_le_maxLen w (ss.length+1) c 9 (by unfold maxLen;omega);rw[hv]
  by_cases fN:k=ss.length
  .subst fN
   refine(Any2.slices_Insert_string_end_grow Tryz.lays2n22 a ss.length c vb 0 1 1 (ss.map xZ) [.string x] w (by decide) z (by omega) (by omega) (by simp) rfl (by rintro rfl;obtain⟨a',c',gt,_,_,_,az,_⟩:=h.rd;rw[hv] at gt;cases gt;have:=az rfl;omega) d6 dl fC).mono ?_
   rintro e w' ⟨rfl,rfl⟩;refine⟨_,rfl,?_,((A0 (yO _ _) 1:Below lo w (w.drewN 1))).alloc bm _⟩;have:=UO (lo:=lo) (e:=9) (n:=ss.length+1) (C:=grownCap w (ss.length+1) c 9) (w:=w.drew) (arr:=(ss.map xZ++[xZ x]).toArray++xY (xZ ⟨#[]⟩).cells (grownCap w (ss.length+1) c 9 - (ss.length+1))) (by simp[xY,uK];omega) gR gQ bm;have e1:((ss.map xZ++[xZ x]).toArray++xY (xZ ⟨#[]⟩).cells (grownCap w (ss.length+1) c 9 - (ss.length+1))).toList.take (ss.length+1)=(Cg ss ss.length x).map xZ:=by rw[uA,vC (by simp)];simp[Cg]
   rw[e1] at this;unfold AO;rw[JX (yG _),Eo];exact this
  .have fb:k<ss.length:=by omega
   obtain⟨g,rfl,hcg⟩:∃g,a=some ⟨g,0,none⟩/\True:=by
    rcases h.2 with⟨h0,_⟩|⟨g,H,bn,h0,Y,_⟩
    .rw[hv] at h0;simp only[xS] at h0;omega
    .rw[hv] at h0;cases h0;exact⟨g,rfl,trivial⟩
   have hO:w.ownsRow lo 9 1 (.slice (some ⟨g,0,none⟩) ss.length c) ss.length (ss.map xZ):=by have:=h;unfold AO at this;rw[hv,Eo] at this;exact this
   have dg:=Any2.slices_Insert_string_grow Tryz.lays2n22 g 0 ss.length c k vb 0 1 1 (ss.map xZ) [.string x] w fb (by decide) z (by omega) (by omega) (by simp) rfl (MQ hO) dl (TD ss) fC
   change Calls prog 195 _ _ (λe w'=>e=.returned (.slice (some ⟨w.heap.size,0,none⟩) (ss.length+1) (grownCap w (ss.length+1) c 9))/\w'=(((w.alloc (.cells (((ss.map xZ).take k).toArray++xY (xZ ⟨#[]⟩).cells (ss.length+1 - k)++xY (xZ ⟨#[]⟩).cells (grownCap w (ss.length+1) c 9 - (ss.length+1))) 9)).drew.setCells w.heap.size k [xZ x]).drew).setCells w.heap.size (k+1) ((ss.map xZ).drop k)) at dg
   refine dg.mono ?_;rintro e w' ⟨rfl,rfl⟩;have fA:=UO (lo:=lo) (e:=9) (n:=ss.length+1) (C:=grownCap w (ss.length+1) c 9) (w:=w) (arr:=((ss.map xZ).take k).toArray++xY (xZ ⟨#[]⟩).cells (ss.length+1 - k)++xY (xZ ⟨#[]⟩).cells (grownCap w (ss.length+1) c 9 - (ss.length+1))) (by simp[xY,uK];omega) gR gQ bm;have fB:Below lo w (w.alloc (.cells (((ss.map xZ).take k).toArray++xY (xZ ⟨#[]⟩).cells (ss.length+1 - k)++xY (xZ ⟨#[]⟩).cells (grownCap w (ss.length+1) c 9 - (ss.length+1))) 9)):=(yO lo w).alloc bm _;have hT:(((ss.map xZ).take k).toArray++xY (xZ ⟨#[]⟩).cells (ss.length+1 - k)++xY (xZ ⟨#[]⟩).cells (grownCap w (ss.length+1) c 9 - (ss.length+1))).toList.take k=(ss.map xZ).take k:=by rw[uA,uA,sA,vC (by simp;omega)]
   generalize(((ss.map xZ).take k).toArray++xY (xZ ⟨#[]⟩).cells (ss.length+1 - k)++xY (xZ ⟨#[]⟩).cells (grownCap w (ss.length+1) c 9 - (ss.length+1)))=arr at fA fB hT ⊢;generalize hwa:w.alloc (.cells arr 9)=wa at fA fB ⊢;have fZ:Below wa.heap.size wa wa.drew:=A0 (yO _ _) 1;obtain⟨r1,r2⟩:=El (Bl fA fZ) k 0 [.string x];have fY:Below (Gw wa.drew w.heap.size k 0 [.string x]).heap.size (Gw wa.drew w.heap.size k 0 [.string x]) (Gw wa.drew w.heap.size k 0 [.string x]).drew:=A0 (yO _ _) 1;obtain⟨r3,r4⟩:=El (Bl r1 fY) (k+1) 0 ((ss.map xZ).drop k);rw[bT,bT];have s0:lo<=wa.heap.size:=yL bm fB.size;have b1:=AM (fB.trans (fZ.mono s0)) r2 bm (yL s0 fZ.size);have s1:lo<=(Gw wa.drew w.heap.size k 0 [.string x]).heap.size:=yL bm b1.size;refine⟨_,rfl,?_,AM (b1.trans (fY.mono s1)) r4 bm (yL s1 fY.size)⟩;have gZ:=fA.1;rw[YP (n:=ss.length) (by simpa using gZ) (by simp) E (by rw[vm,vP (by omega)];exact hT)] at r3;unfold AO;rw[JX E,Eo];simpa[Cg,tI,List.map_drop] using r3
end Go.Proofs.YtaopbdankjkfpaaGreatDoor
