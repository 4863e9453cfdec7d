/-
  Packed:47 texts.
-/
import Derived.Lib.Strings
import Derived.Test.YtlcnbkkcplllhaaGreatDoorRows
import Derived.WalkKit
import Derived.WalkSpells
import Derived.WalkLawsBesides
import Derived.Deep.QuietTactic
import Derived.BigQuiet
import Derived.Deep.LoopGhost
import Derived.Deep.RegionHeld3
import Derived.Lib.Hide
import Derived.Handy
import Derived.Laws.AppendOwnNone
import Derived.StillTailTactics
import Derived.Maps.AppendAt
import Derived.Lib.QuietBelow
import Derived.Outline
import Derived.Lib.SliceRun
import Derived.ArgAppend
import Derived.Ground.NamesProg
import Derived.Ground.Names2Prog
import Derived.Shelf.Slices.CompactI
import Derived.Shelf.Slices.Turned
import Derived.Shelf.Sort.Plain
import Derived.Shelf.Spec.SearchS
import Derived.Shelf.Spec.SlicesInsertGrow
import Derived.Shelf.Strings.Prefix
import Derived.Shelf.Strings.SlTrimAscii
import Derived.Test.YtlcnbkkcplllhaaGreatDoorProg
import Derived.Sort.OwnSortedInts
import Derived.Shelf.Slices.In.SortNone
set_option linter.unusedVariables false
set_option linter.unusedSimpArgs false
set_option maxHeartbeats 16000000
set_option maxRecDepth 100000
open Go Go.Proofs.YtlcnbkkcplllhaaGreatDoor
open _root_.Array renaming ext_getElem?->sU,getD_eq_getD_getElem?->tS,getElem?_eq_some_iff->vZ,getElem?_setIfInBounds_ne->wB,length_toList->sZ,ofFn->sV,replicate->sk
open Bool renaming and_eq_true->yC,eq_iff_iff->wL,not_eq_false->wV,not_eq_true'->uf,or_eq_true->xL
open _root_.ByteArray renaming getElem_eq_getElem_data->uH
open Decidable renaming not_not->uB
open Go.Addr renaming add->uh
open Go.Builtin renaming append_->vG,clear_->tV,lenOf->si,zeroCells->xX
open Go.Code renaming region->vY
open Go.Instr renaming fieldAt->vg,loadAt->xJ
open Go.IntKind renaming i64->wU
open Go.IntWalk renaming i64_in->xA
open Go.Lib renaming compact->wR,compactUpTo->tM,run_eql_slice_nil->wP,toList_data->xI,trimS->ut
open Go.Op renaming bytesLess->wH
open Go.Oper renaming upon_enter->tG,wp->vh
open Go.Proofs.Tryz renaming isAgg0->vf,isAgg194->tC,isAgg29->tu,isAgg3->vC,isAgg4->vB,isAgg9->uE,sizeOf0->vt,sizeOf194->tJ,sizeOf29->tD,sizeOf3->vL,sizeOf4->vK,sizeOf9->uU,zeroValue0->vT,zeroValue194->ue,zeroValue29->tX,zeroValue3->wm,zeroValue4->wl,zeroValue5->rX,zeroValue79->sh,zeroValue9->vA
open Go.Region renaming binds->ul,chainB->sd,sinkB->rR,waitsFor->yk,waitsFor_spec->tv,wanted->xm
open Go.Result renaming andThen_ok->wg
open Go.RowKit.Below renaming refl->yN
open Go.Sem renaming run_bind->vq
open Go.Shelf renaming Ren->vQ
open Go.Sort renaming grow->vp
open Go.Value renaming cells->th,int->yl,oneCell'->xR,ownBlock->vI,string->xW
open Go.World renaming block_lt_of_cell?->yK,cell?_of_block->vW,ownsRow_nil->xo
open Go.World.ownsRow renaming cellAt->xN,frozenAt->xV,kept->uW
open Go renaming cell_of_row->yx,cell_regrown->yv,getD_replicate_false->ui,heap_alloc_new->yy,heap_setCell_same->yA,info_parts->tW,run_underlying->tj,wpList_append_own_none->sF
open Int renaming emod_lt_of_pos->vk,emod_nonneg->tN,tmod_eq_emod_of_nonneg->wF,toNat_natCast->yq
open List renaming all_eq_false->wZ,all_eq_not_any_not->tA,all_eq_true->ym,any_eq_false->vi,any_eq_true->wu,cons_lt_cons_iff->uM,contains_iff_mem->uA,countP_cons->xE,countP_le_length->wC,countP_pos_iff->uu,count_cons->rZ,count_eq_zero->uk,dropWhile_cons->sR,drop_drop->uG,eq_nil_of_length_eq_zero->xY,ext_getElem?->sy,filter_append->wE,filter_congr->sA,filter_eq_self->uw,find?_eq_none->sN,find?_some->r9,findIdx_eq->tH,findIdx_getElem->vD,findIdx_lt_length->vM,foldl_cons->yJ,getD_cons_succ->sS,getD_cons_zero->sT,getD_eq_getElem?_getD->yd,getElem?_append_left->xh,getElem?_drop->sO,getElem?_eq_getElem->yG,getElem?_eq_some_iff->yD,getElem?_map->xq,getElem?_of_mem->xO,getElem?_set->vE,getElem?_take->ud,getElem?_take_eq_none->tK,getElem?_take_of_lt->uZ,getElem_mem->tY,getElem_of_mem->xl,isEmpty->vl,isEmpty_iff->tO,isPrefixOf_iff_prefix->tL,length_append->yz,length_cons->vV,length_drop->xC,length_filter_le->xG,length_map->uJ,length_nil->xi,length_pos_of_mem->tx,length_set->yi,length_take->yr,map_append->xM,map_cons->vF,map_nil->uV,mem_append->wI,mem_append_left->tf,mem_append_right->uL,mem_cons->xH,mem_cons_of_mem->uI,mem_cons_self->vR,mem_filter->wQ,mem_flatMap->wY,mem_map->wj,mem_of_getElem?->yw,mem_of_mem_drop->vx,mem_of_mem_take->vm,mem_or_eq_of_mem_set->vU,mem_range->yh,mem_reverse->uX,mem_take_iff_getElem->tF,pairwise_append->td,pairwise_cons->sH,pairwise_iff_getElem->wO,range->yL,range_succ->xj,replicate->xZ,set_cons_succ->sJ,set_cons_zero->sK,set_eq_of_length_le->vd,sum_append->wW,sum_cons->uq,sum_nil->ug,takeWhile_append_dropWhile->xB,takeWhile_cons->uv,take_append_drop->wG,take_left'->uF,take_length->xD,take_take->uo
open Nat renaming add_zero->xT,eq_zero_or_pos->wJ,le_refl->yF,le_trans->yM,lt_of_lt_of_le->yt,lt_or_ge->uC,lt_succ_iff_lt_or_eq->xK,min_eq_left->uY,mod_eq_of_lt->rY,mod_lt->su,mul_le_mul_right->wT,mul_one->wX,not_lt_zero->xU,succ_mul->uS,zero_le->yu
open Option renaming bind_some->vH,getD_some->sM,isSome_iff_exists->vj
open Go renaming World->Ω,Value->Φ,Calls->Ξ,undef->Θ
open Go.RowKit renaming Below->Γ
variable {B f id lo' t:Nat} {ss:List ByteArray} {rest:List Oper} {nm s:ByteArray} {w0:Ω} {c:Φ} {m cz:List (List Int)} {vs:List Φ} {F:Nat->Nat} {r:List Int} {fs:List Nat} {ca cb ce ck kind:Int}
namespace Go.Proofs.YtlcnbkkcplllhaaGreatDoor
open Go.Proofs.Tryz
theorem ω{p:Prop}(h:p:=by omega):p:=h
theorem ψ{p:Prop}(h:p:=by decide):p:=h
theorem φ{p:Prop}(h:p:=by kernel_rfl):p:=h
theorem ξ{p:Prop}(h:p:=by go_num):p:=h
theorem η{p:Prop}(h:p:=by simp;omega):p:=h
theorem χ{p:Prop}(h:p:=by simp):p:=h
theorem μ{p:Prop}(h:p:=by unfold maxLen;omega):p:=h
theorem ζ{p:Prop}(h:p:=by simp[maxLen]):p:=h
instance:Coe Go.World Nat:=⟨λw=>w.heap.size⟩
instance:Coe Nat Go.Addr:=⟨λg=>⟨g,0,none⟩⟩
instance(g j:Nat):CoeDep (Nat×Nat) (g,j) Go.Addr:=⟨⟨g,j,none⟩⟩
instance(w:Go.World)(j:Nat):CoeDep (Go.World×Nat) (w,j) Go.Addr:=⟨⟨w.heap.size,j,none⟩⟩
instance:Coe Int Go.Value:=⟨.int .i64⟩
instance:Coe Nat Go.Value:=⟨λk=>.int .i64 k⟩
instance:Coe Bool Go.Value:=⟨.bool⟩
instance:Coe ByteArray Go.Value:=⟨.string⟩
structure Ψ0 where
def θ:Ψ0:=⟨⟩
instance:Coe Ψ0 Go.Value:=⟨λ_=>.int .i64 0⟩
structure Ψ1 where
def ι:Ψ1:=⟨⟩
instance:Coe Ψ1 Go.Value:=⟨λ_=>.slice none 0 0⟩
structure Ψ2 where
def τ:Ψ2:=⟨⟩
instance:Coe Ψ2 Go.Value:=⟨λ_=>.bool true⟩
structure Ψ3 where
def υ:Ψ3:=⟨⟩
instance:Coe Ψ3 Go.Value:=⟨λ_=>.bool false⟩
structure Ψ4 where
def ϑ:Ψ4:=⟨⟩
instance:Coe Ψ4 Go.Value:=⟨λ_=>.string ⟨#[]⟩⟩
structure Ψ5 where
def ϕ:Ψ5:=⟨⟩
instance:Coe Ψ5 Go.Value:=⟨λ_=>.int .i64 1⟩
def dv(p:Prop):Prop:=p
theorem dv.u{p:Prop}(h:dv p):p:=h
theorem gf{p:Prop}(h:p):dv p:=h
variable{H b d e g hx i j k len lo n sz:Nat}
theorem Lu_{L:Nat->Bool}{W:Nat->Nat->Bool}{B:Prop}(ai:dv (L i=false/\B/\∀j j',L j=true->W j j'=true->L j'=true))(s:Nat)(h:W s i=true:=by kernel_rfl):L s=false:=by
 cases N:L s
 .rfl
 exact absurd (ai.2.2 s i N h) (by rw[ai.1];decide)
theorem yP.{u_}{α:Type u_}{a b:α}(h:some a=some b):a=b:=Option.some.inj h
theorem AA{p:Prop}(h:p):dv p:=h
theorem Bd{P:Nat->Prop}{Q:∀i,P i->Prop}(ai:dv (∀i (h:P i),Q i h))(i:Nat)(h:P i:=by kernel_rfl):Q i h:=ai i h
theorem Cr{P R:Nat->Prop}{Q:∀i,P i->R i->Prop}{hj C:Prop}{S:Nat->Prop}(ai:dv (∀i (h:P i) (g:R i),Q i h g))(L:dv (hj/\(∀i,S i->P i)/\C))(i:Nat)(h:S i:=by kernel_rfl)(g:R i:=by decide):Q i (L.2.1 i h) g:=ai i (L.2.1 i h) g
theorem OF{hj B:Prop}{P:Nat->Prop}{Q:∀i,P i->Prop}(ai:dv (hj/\B/\∀i (h:P i),Q i h))(i:Nat)(h:P i:=by decide):Q i h:=ai.2.2 i h
theorem Be{P:Nat->Prop}{Q:∀i,P i->Prop}(ai:∀i (h:P i),Q i h)(i:Nat)(h:P i:=by decide):Q i h:=ai i h
structure AV where
 k:Int
 e:Int
 a:Int
 b:Int
 c:Int
 nm:ByteArray
structure AW where
 k:Int
 g:ByteArray
 r:Int
 deriving DecidableEq
def AW.zero:AW:=⟨0,⟨#[]⟩,0⟩
structure Ag where
 e:Int
 p:Int
 f:Int
 w:Bool
 deriving DecidableEq
structure FF where
 PQ:List ByteArray
 root:Int
 deriving DecidableEq
structure AQ where
 mem:List (List Int)
 ZJ:List AW
 XX:List FF
 XU:List Ag
 deriving DecidableEq
def Bo(n lo E:Int):Bool:=decide (lo<=n)&&decide (n<=E)
variable{E cc new old root x:Int}
theorem Aa{n lo:Int}:Bo n lo E=true↔lo<=n/\n<=E:=by simp[Bo]
theorem VJ{n lo:Int}:Bo n lo E=false↔n<lo∨E<n:=by by_cases O:lo<=n<;>by_cases Y:n<=E<;>simp[Bo,O,Y]<;>omega
def F8(c:UInt8):Bool:=decide (97<=c.toNat)&&decide (c.toNat<=99)
def BT(s:ByteArray):Bool:=s.data.toList.all F8&&decide (s.size<=4)
def Cz(ss:List ByteArray)(k:Nat):ByteArray:=ss.getD k ⟨#[]⟩
theorem HY (h:k<ss.length):ss[k]?=some (Cz ss k):=by simp[Cz,h]
def OD(a b:ByteArray):Bool:=!wH a.toList b.toList
def DO(ss:List ByteArray)(i:Nat):Bool:=BT (Cz ss i)&&(decide (i=0)||!OD (Cz ss (i - 1)) (Cz ss i))
def BY(ss:List ByteArray):Bool:=(yL ss.length).all (DO ss)&&decide (ss.length<=6)
def L3(a b:ByteArray):Bool:=a.data.toList.isPrefixOf b.data.toList
def Ci(PQ:List ByteArray)(g:ByteArray):Bool:=PQ.any λs=>L3 s g
def EJ(n:Int):Bool:=Bo n 0 9999
def EW(r:List Int):Bool:=r.all EJ&&decide (r.length=4)
def CJ(m:List (List Int)):Bool:=m.all EW&&decide (m.length=12)
def Bx(w:Int):Bool:=decide (0<w)&&decide (w%2=1)&&decide (w<48)
def BQ(w:Int):Nat:=(w/4).toNat
def LY(w:Int):Bool:=decide (w%4=3)
def AJ(m:List (List Int))(f:Nat):List Int:=m.getD f []
def Aw(m:List (List Int))(f i:Nat):Int:=(AJ m f).getD i 0
def JK(l:List AW)(f:Nat):AW:=l.getD f AW.zero
def AI(l:List FF)(f:Nat):FF:=l.getD f ⟨[],0⟩
def Dm(x:AW):Bool:=decide (x=AW.zero)||(Bo x.k 1 3&&BT x.g&&Bo x.r 0 50)
def BJ(l:List AW):Bool:=l.all Dm&&decide (l.length=12)
def named(r:List Int):List Nat:=(r.filter Bx).map BQ
open Go.Proofs.YtlcnbkkcplllhaaGreatDoor renaming named->ϰ
def Bp(k:Int):Bool:=decide (k=2)||decide (k=3)
def Wt(k:Int):Int:=if Bp k then k - 1 else 0
def Bi(m:List (List Int))(root:Int):List Nat:=
 if root<0 then[] else root.toNat::(named (AJ m root.toNat)++(named (AJ m root.toNat)).flatMap λt=>named (AJ m t))
def BO(ZJ:List AW)(fs:List Nat)(PQ:List ByteArray):Bool:=fs.all λf=>Ci PQ (JK ZJ f).g
def GI(ZJ:List AW)(f:Nat)(kind:Int)(PQ:List ByteArray)(w:Int):Bool:=
 if Bx w then decide (BQ w≠f)&&decide ((JK ZJ (BQ w)).k=kind - 1)&&Ci PQ (JK ZJ (BQ w)).g else decide (w=0)
def Iw(m:List (List Int))(ZJ:List AW)(f:Nat)(kind:Int)(PQ:List ByteArray):Bool:=(AJ m f).all (GI ZJ f kind PQ)
def countP(m:List (List Int))(ZJ:List AW)(g:Nat):Nat:=
 ((yL 12).map λt=>if Bp (JK ZJ t).k then(named (AJ m t)).count g else 0).sum
def Ex(XX:List FF)(g:Nat):Nat:=XX.countP λe=>decide (e.root=(g:Int))
def Cc(x:Ag):Bool:=Bo x.e 0 2&&Bo x.p 0 15&&Bo x.f 0 11
def BR(e p:Int)(y:Ag):Bool:=decide (y.e=e)&&decide (y.p=p)
def H5(c:List Ag)(e p:Int):Int:=if c.any (BR e p) then(c.findIdx (BR e p):Nat) else -1
def AU(c:List Ag)(i:Nat):Ag:=c.getD i ⟨0,0,0,false⟩
def DV(c:List Ag)(i:Nat):Bool:=Cc (AU c i)&&!(c.take i).any (BR (AU c i).e (AU c i).p)
def Bl(c:List Ag):Bool:=(yL c.length).all (DV c)&&decide (c.length<=4)
def Cd(m:List (List Int))(root a:Nat):Int×Nat×Bool:=
 if Bx (Aw m root (a/16)) then
  if Bx (Aw m (BQ (Aw m root (a/16))) (a/4%4)) then(0,BQ (Aw m (BQ (Aw m root (a/16))) (a/4%4)),LY (Aw m root (a/16))&&LY (Aw m (BQ (Aw m root (a/16))) (a/4%4)))
  else(2,0,false)
 else(1,0,false)
def Ea(k:AQ)(e:FF):Bool:=BY e.PQ&&(decide (e.root= -1)||(Bo e.root 0 11&&decide ((JK k.ZJ e.root.toNat).k=3)))&&BO k.ZJ (Bi k.mem e.root) e.PQ
def Jm(k:AQ):Bool:=k.XX.all (Ea k)&&decide (k.XX.length=3)
def EH(k:AQ)(f:Nat):Bool:=!Bp (JK k.ZJ f).k||Iw k.mem k.ZJ f (JK k.ZJ f).k [⟨#[]⟩]
def IY(k:AQ)(f:Nat):Bool:=decide ((JK k.ZJ f).r=(countP k.mem k.ZJ f:Int)+(Ex k.XX f:Int))
def DJ(k:AQ)(x:Ag):Bool:=decide (0<=(AI k.XX x.e.toNat).root)&&decide (Cd k.mem (AI k.XX x.e.toNat).root.toNat (4*x.p.toNat)=(0,x.f.toNat,x.w))
def DG(k:AQ):Bool:=CJ k.mem&&BJ k.ZJ&&Bl k.XU&&Jm k&&(yL 12).all (EH k)&&(yL 12).all (IY k)&&k.XU.all (DJ k)
def An{α:Type}(l:List α)(i:Nat)(f:α->α):List α:=match l[i]? with
 |some x=>l.set i (f x)
 |none=>l
def JD(n:Int)(x:AW):AW:= {x with r:=x.r+n}
def BP(ZJ:List AW)(fs:List Nat)(n:Int):List AW:=fs.foldl (λl g=>An l g (JD n)) ZJ
def Ao(ZJ:List AW):Int:=if ZJ.any (λx=>decide (x.k=0)) then(ZJ.findIdx (λx=>decide (x.k=0)):Nat) else -1
def Dn(kind:Int)(x:AW):AW:= {x with k:=kind}
def GV(m:List (List Int))(ZJ:List AW)(f:Nat)(kind:Int)(PQ:List ByteArray):List AW×Int:=
 if(JK ZJ f).k≠1∨(JK ZJ f).r≠0 then(ZJ,1)
 else if Iw m ZJ f kind PQ=false then(ZJ,2)
 else if BJ (An (BP ZJ (named (AJ m f)) 1) f (Dn kind)) then(An (BP ZJ (named (AJ m f)) 1) f (Dn kind),0) else(ZJ,1)
def DT(m:List (List Int))(ZJ:List AW)(f:Nat):List AW×Int:=
 if Bp (JK ZJ f).k=false∨(JK ZJ f).r≠0 then(ZJ,1)
 else if BJ (An (BP ZJ (named (AJ m f)) (-1)) f (Dn 1)) then(An (BP ZJ (named (AJ m f)) (-1)) f (Dn 1),0) else(ZJ,2)
def Rb(ss:List ByteArray)(s:ByteArray):List ByteArray:=ss.takeWhile (λx=>!OD x s)++s::ss.dropWhile (λx=>!OD x s)
def BW(ss:List ByteArray)(s:ByteArray):List ByteArray×Bool:=if ss.any (λx=>decide (x=s)) then(ss,true) else if ss.length=6 then(ss,false) else(Rb ss s,true)
def Bk(ss:List ByteArray)(s:ByteArray):List ByteArray:=ss.filter λr=>!L3 s r
def Jo(c:List Ag)(x:Ag):List Ag:=
 (if(c.filter λy=>!BR x.e x.p y).length=4 then(c.filter λy=>!BR x.e x.p y).drop 1 else c.filter λy=>!BR x.e x.p y)++[x]
def Gb(c:List Ag)(e:Int):List Ag:=c.filter λy=>decide (y.e≠e)
def Cs(m:List (List Int))(f i:Nat)(w:Int):List (List Int):=An m f λr=>r.set i w
def Fg(k:AQ)(e:Int)(g:ByteArray):Bool:=Ci (AI k.XX e.toNat).PQ g
abbrev Nm:=AQ×Int×Int
def Ju(k:AQ)(c:AV):Nm:=
 if BT c.nm=false then(k,0,3)
 else if Fg k c.e c.nm=false then(k,0,1)
 else if Ao k.ZJ<0 then(k,0,4)
 else({k with ZJ:=k.ZJ.set (Ao k.ZJ).toNat ⟨1,c.nm,0⟩,mem:=k.mem.set (Ao k.ZJ).toNat [0,0,0,0]},Ao k.ZJ,0)
def K4(k:AQ)(c:AV):Nm:=
 if(JK k.ZJ c.a.toNat).k≠1 then(k,0,3)
 else if(JK k.ZJ c.a.toNat).r≠0 then(k,0,2)
 else({k with ZJ:=k.ZJ.set c.a.toNat AW.zero},0,0)
def LD(k:AQ)(c:AV):Nm:=
 if(JK k.ZJ c.a.toNat).k≠1∨Bo c.b 0 3=false∨EJ c.c=false then(k,0,3)
 else({k with mem:=Cs k.mem c.a.toNat c.b.toNat c.c},0,0)
def IC(n:Int):Int:=if n=0 then 0 else if n=1 then 2 else 3
def EG(k:AQ)(r:List AW×Int):Nm:=if r.2=0 then({k with ZJ:=r.1},0,0) else(k,0,IC r.2)
def Du(k:AQ)(w:Int):List Nat:=if Bx w then BQ w::(if Bp (JK k.ZJ (BQ w)).k then named (AJ k.mem (BQ w)) else[]) else[]
def GX(k:AQ)(a:Nat):List Nat:=(yL 3).filter λe=>(Bi k.mem (AI k.XX e).root).contains a
def BI(ZJ:List AW)(w:Int)(n:Int):List AW:=if Bx w then An ZJ (BQ w) (JD n) else ZJ
def EV(k:AQ)(c:AV):Bool:=if Bx c.c then decide ((JK k.ZJ (BQ c.c)).k=(JK k.ZJ c.a.toNat).k - 1) else decide (c.c=0)
def If(k:AQ)(c:AV):Nm:=
 if Bp (JK k.ZJ c.a.toNat).k=false∨Bo c.b 0 3=false∨EV k c=false then(k,0,3)
 else if(GX k c.a.toNat).all (λe=>BO k.ZJ (Du k c.c) (AI k.XX e).PQ)=false then(k,0,1)
 else if Bx c.c=true/\Fg k c.e (JK k.ZJ (BQ c.c)).g=false then(k,0,1)
 else({k with mem:=Cs k.mem c.a.toNat c.b.toNat c.c,ZJ:=BI (BI k.ZJ (Aw k.mem c.a.toNat c.b.toNat) (-1)) c.c 1,XU:=(GX k c.a.toNat).foldl (λc e=>Gb c (e:Nat)) k.XU},0,0)
def ET(n:Int)(e:FF):FF:= {e with root:=n}
def Lt(k:AQ)(c:AV):Nm:=
 if c.a≠ -1/\(Bo c.a 0 11=false∨(JK k.ZJ c.a.toNat).k≠3) then(k,0,3)
 else if BO k.ZJ (Bi k.mem c.a) (AI k.XX c.e.toNat).PQ=false then(k,0,1)
 else
  let i1:=if 0<=(AI k.XX c.e.toNat).root then An k.ZJ (AI k.XX c.e.toNat).root.toNat (JD (-1)) else k.ZJ
  ({k with ZJ:=if 0<=c.a then An i1 c.a.toNat (JD 1) else i1,XX:=An k.XX c.e.toNat (ET c.a),XU:=Gb k.XU c.e},0,0)
def BV(ss:List ByteArray)(e:FF):FF:= {e with PQ:=ss}
def Ft(k:AQ)(c:AV):Nm:=
 if Bo c.a 0 2=false∨BT c.nm=false then(k,0,3)
 else if Fg k c.e c.nm=false then(k,0,1)
 else if(BW (AI k.XX c.a.toNat).PQ c.nm).2=false then(k,0,4)
 else({k with XX:=An k.XX c.a.toNat (BV (BW (AI k.XX c.a.toNat).PQ c.nm).1)},0,0)
def EX(k:AQ)(c:AV):Nm:=
 if Bo c.a 0 2=false∨c.a=c.e∨BT c.nm=false then(k,0,3)
 else if Fg k c.e c.nm=false then(k,0,1)
 else if BO k.ZJ (Bi k.mem (AI k.XX c.a.toNat).root) (Bk (AI k.XX c.a.toNat).PQ c.nm)=false then(k,0,2)
 else({k with XX:=An k.XX c.a.toNat (BV (Bk (AI k.XX c.a.toNat).PQ c.nm))},0,0)
def PA(k:AQ)(c:AV):Nm:=
 let root:=(AI k.XX c.e.toNat).root
 if Bo c.a 0 63=false∨root<0∨(c.k=11/\EJ c.b=false) then(k,0,3)
 else
  let x:=Cd k.mem root.toNat c.a.toNat
  if x.1≠0 then(k,0,3)
  else if c.k=11/\x.2.2=false then(k,0,1)
  else
   let XU:=if H5 k.XU c.e (c.a/4)<0 then Jo k.XU ⟨c.e,c.a/4,x.2.1,x.2.2⟩ else k.XU
   if c.k=11 then({k with mem:=Cs k.mem x.2.1 (c.a%4).toNat c.b,XU:=XU},0,0)
   else({k with XU:=XU},Aw k.mem x.2.1 (c.a%4).toNat,0)
def IN(k:AQ)(c:AV):Nm:=
 if Bo c.a 0 11=false∨(JK k.ZJ c.a.toNat).k=0∨(c.k=4/\Bp c.b=false) then(k,0,3)
 else if Fg k c.e (JK k.ZJ c.a.toNat).g=false then(k,0,1)
 else if c.k=2 then K4 k c
 else if c.k=3 then LD k c
 else if c.k=4 then EG k (GV k.mem k.ZJ c.a.toNat c.b (AI k.XX c.e.toNat).PQ)
 else if c.k=5 then EG k (DT k.mem k.ZJ c.a.toNat)
 else If k c
def Ad(k:AQ)(c:AV):Nm:=
 if c.k=1 then Ju k c
 else if Bo c.k 2 6 then IN k c
 else if c.k=7 then Lt k c
 else if c.k=8 then Ft k c
 else if c.k=9 then EX k c
 else if c.k=10∨c.k=11 then PA k c
 else(k,0,3)
open Go.RowKit
def nth(xs:List Int)(k:Nat):Int:=xs.getD k 0
def Rd(w:Ω)(v:Φ)(sz n:Nat)(xs:List Φ):Prop:=
 ∃a H,v=.slice a n H/\n<=H/\H<=maxLen/\xs.length=n*sz/\(a=none->H=0)/\
  (0<n->∃b X,a=some ⟨b,X,none⟩/\∀j,j<n*sz->w.cell? ⟨b,X+j,none⟩=xs[j]?)
variable{c8 v v' v1 v2:Φ}
variable{J cm w w1:Ω}
theorem Rd.of_owns{base:Nat}{xs:List Φ}(h:w.ownsRow base e sz v n xs):Rd w v sz n xs:=by
 rcases h.2 with⟨rfl,rfl⟩|⟨g,H,bw,rfl,D,Z,bx,aq,d6,htake⟩
 .exact⟨none,0,rfl,yF _,ζ,h.1,λ_=>rfl,λh=>absurd h (Nat.lt_irrefl _)⟩
 refine⟨_,_,rfl,bx,aq,h.1,(λh=>by cases h),λ_=>⟨g,0,rfl,λj A=>?_⟩⟩
 have:=h.cellAt j A;simpa using this
theorem Rd.keep{xs:List Φ}(h:Rd w v sz n xs)(z:∀k,k<w.heap.size->J.heap[k]?=w.heap[k]?):Rd J v sz n xs:=by
 obtain⟨a,H,rfl,bx,aq,hl,az,V⟩:=h;refine⟨a,H,rfl,bx,aq,hl,az,λhn=>?_⟩;obtain⟨b,X,rfl,ax⟩:=V hn;refine⟨b,X,rfl,λj A=>?_⟩;have O:=ax j A;have gy:∃u,xs[j]?=some u:=⟨xs[j]' ω,yG ω⟩
 obtain⟨u,hu⟩:=gy;rw[hu] at O ⊢;have au:=yK w _ O;exact(vW (z _ au)).trans O
theorem Rd.below{xs:List Φ}(h:Rd w v sz n xs)(D:Γ w w J):Rd J v sz n xs:=h.keep D.block
theorem Rd.alloc{xs:List Φ}(h:Rd w v sz n xs)(o:Obj):Rd (w.alloc o) v sz n xs:=h.keep (λk z=>(World.grownBy_alloc w o none).block k z χ)
def A3(w:Ω)(v:Φ)(xs:List Int):Prop:=Rd w v 1 xs.length (xs.map (yl .i64))
def Jh(w:Ω)(a:Option Addr)(xs:List Int):Prop:=
 ∀k,k<xs.length->∃b X,a=some ⟨b,X,none⟩/\∀j,j<xs.length->w.cell? ⟨b,X+j,none⟩=some (.int .i64 (nth xs j))
variable{bs xs ys zs:List Int}
theorem SZ (h:k<xs.length):xs[k]?=some (nth xs k):=by simp[nth,h]
theorem Nv (h:k<xs.length):nth xs k=xs[k]:=by simp[nth,h]
theorem A3.open (h:A3 w v xs):
 ∃a H,v=.slice a xs.length H/\xs.length<=H/\H<=maxLen/\Jh w a xs:=by
 obtain⟨a,H,rfl,bx,aq,hl,_,V⟩:=h;refine⟨a,H,rfl,bx,aq,λk z=>?_⟩;obtain⟨b,X,rfl,ax⟩:=V ω;refine⟨b,X,rfl,λj A=>?_⟩;rw[ax j ω,xq,SZ A];rfl
variable{a:Option Addr}
theorem Jh.at (h:Jh w a xs)(z:k<xs.length):
 ∃b X,a=some ⟨b,X,none⟩/\w.cell? ⟨b,X+k,none⟩=some (.int .i64 (nth xs k)):=by
 obtain⟨b,X,rfl,V⟩:=h k z;exact⟨b,X,rfl,V k z⟩
theorem Jh.keep (h:Jh w a xs)(z:∀k,k<w.heap.size->J.heap[k]?=w.heap[k]?):Jh J a xs:=by
 intro k gS;obtain⟨b,X,rfl,V⟩:=h k gS;exact⟨b,X,rfl,λj A=>(vW (z _ (yK w _ (V j A)))).trans (V j A)⟩
theorem Jh.below (h:Jh w a xs)(D:Γ w w J):Jh J a xs:=h.keep D.block
theorem A3.below (h:A3 w v xs)(D:Γ w w J):A3 J v xs:=Rd.below h D
theorem A3.alloc (h:A3 w v xs)(o:Obj):A3 (w.alloc o) v xs:=Rd.alloc h o
def AE(lo:Nat)(w:Ω)(v:Φ)(xs:List Int):Prop:=w.ownsRow lo 3 1 v xs.length (xs.map (yl .i64))
theorem AE.rd (h:AE lo w v xs):A3 w v xs:=Rd.of_owns h
theorem AF{a b:Bool}(h:a=b):Ending.returned (.bool a)=.returned (.bool b):=by rw[h]
theorem DI{a b:Int}(h:a=b):Ending.returned (.int .i64 a)=.returned (.int .i64 b):=by rw[h]
theorem MJ (w:Ω)(a b:Nat):(w.drewN a).drewN b=w.drewN (a+b):=by simp[World.drewN,Nat.add_assoc]
theorem bS (w:Ω)(a:Nat):∃n,w.drewN a=w.drewN n:=⟨a,rfl⟩
theorem bT (w:Ω)(a b:Nat):∃n,(w.drewN a).drewN b=w.drewN n:=⟨a+b,MJ w a b⟩
theorem Ai{a:Ω}(h:Γ B a w)(n:Nat):Γ B a (w.drewN n):=⟨h.os,h.tape,h.output,h.size,h.block⟩
def GM(w:Ω)(v:Φ)(bs:List Int):Prop:=Rd w v 1 bs.length (bs.map (yl .u8))/\∀b∈bs,0<=b/\b<256
theorem Uh (k:IntKind)
 (h:(a=none/\len=0/\H=0/\zs=[])∨∃x,a=some x/\len<=H/\H<=maxLen/\zs.length=H/\(∀i,i<zs.length->w.cell? (x.add i)=some (.int k (zs.getD i 0)))/\∀n∈zs,(Lit.int k n).wf=true):
 Rd w (.slice a len H) 1 (zs.take len).length ((zs.take len).map (yl k))/\∀n∈zs.take len,(Lit.int k n).wf=true:=by
 rcases h with⟨rfl,rfl,rfl,rfl⟩|⟨x,rfl,hlc,aq,hz,V,hwf⟩
 .exact⟨⟨none,0,χ,χ,ζ,χ,λ_=>rfl,χ⟩,χ⟩
 have hl:(zs.take len).length=len:=by rw[yr];omega
 refine⟨⟨some x,H,by rw[hl],ω,aq,χ,(λh=>by cases h),λhn=>?_⟩,λn hn=>hwf n (vm hn)⟩;rw[hl] at hn ⊢;have h0:=V 0 ω;obtain⟨b,X,ib⟩:=x;cases ib with
 |some q=>simp[uh,World.cell?] at h0;split at h0<;>simp_all
 |none=>
  refine⟨b,X,rfl,λj A=>?_⟩;have ec:=V j ω;have c7:(⟨b,X,none⟩:Addr).add j=⟨b,X+j,none⟩:=by unfold uh;split<;>simp_all
  rw[c7] at ec;rw[ec,xq,ud,if_pos ω];simp[yG (ω:j<zs.length)]
theorem Sp
 (h:(a=none/\len=0/\H=0/\zs=[])∨∃x,a=some x/\len<=H/\H<=maxLen/\zs.length=H/\(∀i,i<zs.length->w.cell? (x.add i)=some (.int .u8 (zs.getD i 0)))/\∀n∈zs,(Lit.int .u8 n).wf=true):
 GM w (.slice a len H) (zs.take len):=by
 refine⟨(Uh .u8 h).1,λb D=>?_⟩;have:=(Uh .u8 h).2 b D;simp only[Lit.wf,yC,decide_eq_true_eq] at this;have O:IntKind.min .u8=0:=ψ;have Y:IntKind.max .u8=255:=ψ;omega
theorem DF (n lo E:Int)(w:Ω):
 Ξ prog 27 #[.int .i64 n,.int .i64 lo,.int .i64 E] w λe J=>e=.returned (.bool (Bo n lo E))/\w=J:=by
 by_cases O:lo<=n
 .have e1:Bo n lo E=decide (n<=E):=by simp[Bo,O]
  have ai:=AA e1;clear e1;go_in;go_wp2;go_ret;exact⟨AF ai.symm,rfl⟩
 have e1:Bo n lo E=false:=by simp[Bo,O]
 have ai:=AA e1;clear e1;go_in;go_wp2;go_ret;exact⟨AF ai.symm,rfl⟩
theorem EU (n lo E:Int)(w:Ω):
 Ξ prog 54 #[.int .i64 n,.int .i64 lo,.int .i64 E] w λe J=>e=.returned (.bool (Bo n lo E))/\w=J:=by
 by_cases O:lo<=n
 .have e1:Bo n lo E=decide (n<=E):=by simp[Bo,O]
  have ai:=AA e1;clear e1;go_in;go_wp2;go_ret;exact⟨AF ai.symm,rfl⟩
 have e1:Bo n lo E=false:=by simp[Bo,O]
 have ai:=AA e1;clear e1;go_in;go_wp2;go_ret;exact⟨AF ai.symm,rfl⟩
theorem Pe (n:Int)(w:Ω):
 Ξ prog 185 #[.int .i64 n] w λe J=>e=.returned (.bool (Bo n 0 2))/\w=J:=by
 go_in;go_wp2_with (go_at_call 54;refine(EU _ _ _ _).mono ?_;rintro e J ⟨rfl,rfl⟩);go_ret;exact⟨rfl,rfl⟩
def findIdx(p:Int->Bool)(xs:List Int):Int:=if xs.any p then(xs.findIdx p:Int) else -1
theorem VF{p:Int->Bool}(h:∀j,j<xs.length->p (nth xs j)=false):findIdx p xs= -1:=by
 unfold findIdx;have:xs.any p=false:=by rw[vi];intro x N;obtain⟨j,A,rfl⟩:=xl N;have:=h j A;rw[Nv A] at this;simp[this]
 simp[this]
theorem Xo{p:Int->Bool}(z:k<xs.length)(h:∀j,j<k->p (nth xs j)=false)(hp:p (nth xs k)=true):findIdx p xs=k:=by
 unfold findIdx;rw[Nv z] at hp;have O:xs.any p=true:=wu.2 ⟨xs[k],tY z,hp⟩;have Y:xs.findIdx p=k:=by
  rw[tH z];refine⟨hp,λj A=>?_⟩;have:=h j A
  rwa [Nv ω] at this
 simp[O,Y]
theorem Xp{p:Int->Bool}:decide (0<=findIdx p xs)=xs.any p:=by unfold findIdx;cases xs.any p<;>simp
theorem Tc (F:Nat)(av:Array Φ)(p:Int->Bool)(v:Φ)(xs:List Int)(w:Ω)(h:A3 w v xs)
 (hF:∀al w,(callFunc F al).run prog w=.ok (.enter F al) w)(K:∀x w,Ξ prog F (#[.int .i64 x]++av) w λe J=>e=.returned (.bool (p x))/\w=J):
 Ξ prog 215 #[v,.func (.func F) #[] av] w λe J=>e=.returned (.int .i64 (findIdx p xs))/\w=J:=by
 obtain⟨a,c,rfl,V,aq,ai⟩:=h.open;clear h;unfold maxLen at aq;have Hf:=AA K;clear K;go_in;go_wp2;go_loop [8] (λi=>∃k:Nat,k<=xs.length/\i=.int .i64 k/\∀j,j<k->p (nth xs j)=false) (λi=>xs.length - (intOf i).toNat)
 exact⟨0,yu _,rfl,λj A=>absurd A (xU _)⟩
 obtain⟨k,z,rfl,am⟩:=hrel;have ar:=AA am;clear am
 by_cases au:k<xs.length
 .obtain⟨b,X,rfl,hb⟩:=ai.at au
  clear ai;cases hp:p (nth xs k)
  .have Hp:=AA hp;clear hp
   go_wp2_with (refine(Hf _ _).mono ?_;rintro e J ⟨rfl,rfl⟩;rw[Hp.u]);go_round
   case rel=>exact⟨k+1,ω,ξ,λj A=>by
    rcases xK.1 A with h|h
    .exact ar j h
    subst h;exact Hp.u⟩
   case measure=>simp[intOf];omega
  have Hp:=AA hp;clear hp
  have bi:=AA (Xo (p:=p) au ar Hp.u);go_wp2_with (refine(Hf _ _).mono ?_;rintro e J ⟨rfl,rfl⟩;rw[Hp.u]);go_ret;exact⟨DI bi.symm,rfl⟩
 have bi:=AA (VF (p:=p) (xs:=xs) (λj A=>ar j ω))
 go_wp2;go_ret;exact⟨DI bi.symm,rfl⟩
theorem PL (F:Nat)(av:Array Φ)(p:Int->Bool)(v:Φ)(xs:List Int)(w:Ω)(h:A3 w v xs)
 (hF:∀al w,(callFunc F al).run prog w=.ok (.enter F al) w)(K:∀x w,Ξ prog F (#[.int .i64 x]++av) w λe J=>e=.returned (.bool (p x))/\w=J):
 Ξ prog 160 #[v,.func (.func F) #[] av] w λe J=>e=.returned (.bool (xs.any p))/\w=J:=by
 have Hf:=AA K;clear K;go_in;go_wp2_with (go_at_call 215;refine(Tc F av p v xs _ h hF Hf.u).mono ?_;rintro e J ⟨rfl,rfl⟩);go_ret;exact⟨AF Xp,rfl⟩
theorem Am{p:Nat->Prop}(h:∀j,j<k->p j)(z:p k):∀j,j<k+1->p j:=λj A=>by
 rcases xK.1 A with h'|h'
 .exact h j h'
 subst h';exact z
theorem Tryz.zS:(prog.info? 3).map (λi=>(i.zero,i.size,i.bytes))=some (some (.int .i64 0),1,8):=φ
theorem AE.below (h:AE lo w v xs)(D:Γ w w J):AE lo J v xs:=by
 refine uW (row:=none) h ⟨D.os,D.tape,D.output,D.size,λk z _=>D.block k z⟩ ?_;cases v.ownBlock<;>simp
theorem BC{xs:List Φ}(h:w.ownsRow lo e sz v n xs)(D:Γ w w J):J.ownsRow lo e sz v n xs:=by
 refine uW (row:=none) h ⟨D.os,D.tape,D.output,D.size,λk z _=>D.block k z⟩ ?_;cases v.ownBlock<;>simp
theorem Below.zE (h:w.grownBy J none):Γ w w J:=⟨h.os,h.tape,h.output,h.size,λk z=>h.block k z χ⟩
theorem Wp (hk:Φ)(hz:hk.cells= #[hk])(n:Nat):(madeCells hk.cells (n*1)).toList=xZ n hk:=by rw[hz,wX,toList_madeCells_one]
variable{ops:Array Oper}
variable{o:Oper}
theorem Qv{a:Act}{Q:Exit->Act->Ω->Prop}{l:Operand}{t:TypeId}
 (Z:o.guard=none)(d5:o.op=Op.makeSlice t l l)(e:TypeId)(hk:Φ)(bytes:Nat)(O:prog.underlying t=some (.slice e))
 (Y:(prog.info? e).map (λi=>(i.zero,i.size,i.bytes))=some (some hk,1,bytes))(hz:hk.cells= #[hk])
 (hl:a.eval l=.int .i64 n)(b2:bytes*n<=281474976710656)(b3:n<=maxLen)
 (hK:∀J,J.ownsRow w e 1 (.slice w n n) n (xZ n hk)->Γ w w J->w.heap.size<J.heap.size->
  wpList prog ops Q rest (a.put o.dst (.slice w n n)) J):wpList prog ops Q (o::rest) a w:=by
 obtain⟨i0,E,ex,ej,ev⟩:=tW Y;refine wpList_make_full w Z l l t d5 w e i0 hk 1 O E ex ej .i64 .i64 n n n hl hl rfl rfl (by rw[ev];exact b2) b3 (yF _) λJ h h'=>?_
 rw[Wp hk hz] at h;exact hK J h (Below.zE h') (h.lt _ rfl).2
theorem Mp (hl:xs.length=ys.length)(h:∀j,j<xs.length->nth xs j=nth ys j):xs=ys:=by
 refine List.ext_getElem hl λj O Y=>?_
 have:=h j O
 rwa [Nv O,Nv Y] at this
theorem Zz (h:nth xs k≠nth ys k):decide (xs=ys)=false:=by simp only[decide_eq_false_iff_not];rintro rfl;exact h rfl
theorem Zy (h:xs.length≠ys.length):decide (xs=ys)=false:=by simp only[decide_eq_false_iff_not];rintro rfl;exact h rfl
theorem Ey (v1 v2:Φ)(xs ys:List Int)(w:Ω)(O:A3 w v1 xs)(Y:A3 w v2 ys):
 Ξ prog 15 #[v1,v2] w λe J=>e=.returned (.bool (decide (xs=ys)))/\∃n,J=w.drewN n:=by
 obtain⟨a1,c1,rfl,jh,iB,H1⟩:=O.open;obtain⟨a2,c2,rfl,jg,iA,H2⟩:=Y.open;clear O Y;unfold maxLen at iB iA
 by_cases bf:(xs.length:Int)=ys.length
 .have D:((xs.length:Int) !=ys.length)=false:=by simp[bf]
  have i7:xs.length<=ys.length/\ys.length<=xs.length:=ω;clear bf;go_in;go_wp2;go_loopw [5] (λi wr=>∃k:Nat,k<=xs.length/\i=.int .i64 k/\(∀j,j<k->nth xs j=nth ys j)/\∃n,wr=w.drewN n) (λi _=>xs.length - (intOf i).toNat)
  exact⟨0,yu _,rfl,λj A=>absurd A (xU _),0,rfl⟩
  obtain⟨k,z,rfl,am,n,rfl⟩:=hrel;have ar:=AA am;clear am
  by_cases au:k<xs.length
  .obtain⟨b1,o1,rfl,D1⟩:=H1.at au
   have il:k<ys.length:=ω;obtain⟨b2,o2,rfl,D2⟩:=H2.at il;clear H1 H2
   by_cases he:nth xs k=nth ys k
   .have je:(nth xs k !=nth ys k)=false:=by simp[he]
    have He:=AA he;clear he;go_wp2;go_quiet (fail);go_wp2;go_roundw;exact⟨k+1,ω,ξ,Am ar He.u,_,rfl⟩;simp[intOf];omega
   have je:(nth xs k !=nth ys k)=true:=by simp[he]
   have d7:=AA (Zz he);clear he;go_wp2;go_quiet (fail);go_wp2;go_ret
   first|exact⟨AF d7.symm,bT _ _ _⟩|exact⟨AF d7.symm,bS _ _⟩
  have d7:=AA (Mp (xs:=xs) (ys:=ys) ω (λj A=>ar j ω))
  go_wp2;go_ret;exact⟨AF (by simp[d7.u]),_,rfl⟩
 have D:((xs.length:Int) !=ys.length)=true:=by simp[bf]
 have d7:=AA (Zy (xs:=xs) (ys:=ys) ω);clear bf;go_in;go_wp2;go_ret;exact⟨AF d7.symm,0,rfl⟩
theorem Em{a:Act}{Q:Exit->Act->Ω->Prop}{s x:Operand}{t:TypeId}
 (gd:o.guard=none)(ho:o.op=.call {callee:=.builtin .append,args:= #[s,x],argTypes:= #[t,t]})
 (e:TypeId)(hk:Φ)(sz bytes:Nat)(ht:prog.underlying t=some (.slice e))(E:(prog.info? e).map (λi=>(i.zero,i.size,i.bytes))=some (some hk,sz,bytes))
 (fq:hk.cells.size=sz)(cP:0<sz){u:Φ}{m:Nat}{xs news:List Φ}(hs:a.eval s=v)(a8:w.ownsRow lo e sz v n xs)
 (N:a.eval x=u)(hr:Rd w u sz m news)(O:∀u∈news,u.oneCell'=true)(iI:n+m<=maxLen)(b0:(n+m)*bytes<=140737488355328)(bY:lo<=w.heap.size)
 (hK:∀v' J,J.ownsRow lo e sz v' (n+m) (xs++news)->w.grownBy J v.ownBlock->Γ lo w J->wpList prog ops Q rest (a.put o.dst v') J):wpList prog ops Q (o::rest) a w:=by
 obtain⟨i0,dg,ex,ej,ev⟩:=tW E;obtain⟨ao,c,rfl,i6,aq,hl,az,V⟩:=hr;have ae:∀J,w.grownBy J v.ownBlock->Γ lo w J:=λJ Z=>(yN lo w).grown Z bY (λk z=>(a8.lt k z).1)
 cases ao with
 |none=>
  have b9:=az rfl;subst b9;obtain rfl:m=0:=ω;have cu:news=[]:=xY (by simpa using hl);subst cu;refine sF gd s x t ho lo e i0 sz ht dg v n xs hs a8 N ?_;exact hK v w (by simpa using a8) ⟨rfl,rfl,rfl,yF _,λ_ _ _=>rfl⟩ (yN _ _)
 |some ad=>
  refine wpList_append_own w gd s x t ho lo e i0 hk sz bytes ht dg ex ej ev fq cP v n xs hs a8 ad m c news N hl ?_ O iI b0 bY (λv' J Y h3 _=>hK v' J Y h3 (ae J h3));intro j u hu
  rcases wJ m with rfl|hm
  .simp at hl
   simp[hl] at hu
  obtain⟨b,X,iF,ax⟩:=V hm
  obtain rfl:ad=⟨b,X,none⟩:=by simpa using iF
  have A:j<news.length:=(yD.1 hu).1;have c7:(⟨b,X,none⟩:Addr).add j=⟨b,X+j,none⟩:=by unfold uh;split<;>simp_all
  rw[c7,ax j ω,hu]
theorem Rd.news (w:Ω)(cs:Array Φ)(e:TypeId)(sz n:Nat)(hs:cs.size=n*sz)(hn:n<=maxLen):Rd (w.alloc (.cells cs e)) (.slice w n n) sz n cs.toList:=
 Rd.of_owns (World.ownsRow_lit (base:=w.heap.size) w cs n (yF _) hn hs)
theorem MP:∀u∈xs.map (yl .i64),u.oneCell'=true:=by intro u hu;obtain⟨x,_,rfl⟩:=wj.1 hu;rfl
theorem CU (w:Ω)(e sz:Nat):(w.alloc (.cells #[] e)).ownsRow w.heap.size e sz (.slice w 0 0) 0 []:=
 World.ownsRow_made w #[] 0 (yF _) ζ χ
theorem JJ (v:Φ)(xs:List Int)(w:Ω)(h:A3 w v xs)(hs:xs.length<=1048576):
 Ξ prog 62 #[v] w λe J=>∃v',e=.returned v'/\AE w J v' xs/\Γ w w J:=by
 have h':=h;obtain⟨a,c,rfl,bx,aq,hl,az,V⟩:=h';have hq:=λw=>wP (P:=prog) w 29 3 a xs.length c 0 0 underlying29
 cases a with
 |none=>have b9:=az rfl;subst b9;have h0:xs=[]:=xY ω;subst h0;simp only[xi] at hq;go_in;go_wp2;go_ret;exact⟨_,rfl,xo _ _ _ _,yN _ _⟩
 |some ad=>clear V az;go_in;go_wp2_with (refine Em (lo:=w.heap.size) (v:=.slice w 0 0) (n:=0) (xs:=[]) (m:=xs.length) (news:=xs.map (yl .i64)) rfl rfl 3 (.int .i64 0) 1 8 underlying29 Tryz.zS rfl ψ rfl (CU _ _ _) rfl (h.alloc _) MP μ ω χ ?_;intro v' J a8 _ ae);go_ret;refine⟨_,rfl,by simpa[AE] using a8,((yN _ _).alloc (yF _) _).trans ae⟩
theorem JG{xs:List Φ}(h:w.ownsRow lo e sz v n xs)(hn:0<n):∃g H,v=.slice (some ⟨g,0,none⟩) n H/\lo<=g/\g<w.heap.size:=by
 have au:=h.lt
 rcases h.2 with⟨_,rfl⟩|⟨g,H,bw,rfl,D,Z,_⟩
 .omega
 exact⟨g,H,rfl,D,(au g rfl).2⟩
theorem GP{a:Nat}(h:a<xs.length):(xs.map (yl .i64))[a]?=some (.int .i64 (nth xs a)):=by rw[xq,SZ h];rfl
theorem VY{a:Nat}(ha:a<xs.length):nth (xs.set a x) j=if j=a then x else nth xs j:=by
 unfold nth;rw[yd,yd,vE]
 by_cases h:a=j
 .subst h;simp[ha]
 have h':j≠a:=λe=>h e.symm
 simp[h,h']
def Cb{α:Type}(cs:α->List Φ)(xs:List α):List Φ:=xs.flatMap cs
theorem IU{α:Type}(cs:α->List Φ)(x:α)(xs:List α):Cb cs (x::xs)=cs x++Cb cs xs:=rfl
theorem Bq{α:Type}(cs:α->List Φ)(xs ys:List α):Cb cs (xs++ys)=Cb cs xs++Cb cs ys:=List.flatMap_append
theorem Es{α:Type}(cs:α->List Φ)(x:α):Cb cs [x]=cs x:=by simp[Cb]
theorem JY{α:Type}{cs:α->List Φ}(hs:∀x,(cs x).length=sz)(xs:List α):(Cb cs xs).length=xs.length*sz:=by
 induction xs with
 |nil=>simp[Cb]
 |cons x xs ih=>rw[IU,yz,hs,ih,vV,uS];omega
theorem Qn{α:Type}{cs:α->List Φ}(hs:∀x,(cs x).length=sz){xs:List α}{x:α}(h:xs[k]?=some x)(A:j<sz):(Cb cs xs)[k*sz+j]?=(cs x)[j]? :=by
 induction xs generalizing k with
 |nil=>simp at h
 |cons y ys ih=>
  cases k with
  |zero=>simp only[List.getElem?_cons_zero,Option.some.injEq] at h;subst h;rw[IU,xh (by rw[hs];omega)];simp
  |succ k=>
   rw[List.getElem?_cons_succ] at h;rw[IU,List.getElem?_append_right (by rw[hs,uS];omega),hs,<-ih h]
   congr 1
   rw[uS];omega
def Uw{α:Type}(sz:Nat)(cs:α->List Φ)(w:Ω)(a:Option Addr)(xs:List α):Prop:=
 ∀(k:Nat) x,xs[k]?=some x->∃b X,a=some ⟨b,X,none⟩/\b<w.heap.size/\∀(j:Nat) u,(cs x)[j]?=some u->w.cell? ⟨b,X+k*sz+j,none⟩=some u
theorem Uw.below{α:Type}{cs:α->List Φ}{xs:List α}(h:Uw sz cs w a xs)(D:Γ w w J):Uw sz cs J a xs:=by
 intro k x z;obtain⟨b,X,rfl,au,V⟩:=h k x z;exact⟨b,X,rfl,yt au D.size,λj u hu=>(D.cell (p:=⟨b,X+k*sz+j,none⟩) au).trans (V j u hu)⟩
theorem Uw.of{α:Type}{cs:α->List Φ}(hs:∀x,(cs x).length=sz)(cP:0<sz){c:Nat}{xs:List α}(h:Rd w (.slice a n c) sz xs.length (Cb cs xs)):Uw sz cs w a xs:=by
 obtain⟨a',H,hv,bx,aq,hl,_,V⟩:=h;simp only[Value.slice.injEq] at hv;obtain⟨rfl,rfl,rfl⟩:=hv;intro k x z;have au:=(yD.1 z).1;obtain⟨b,X,rfl,ax⟩:=V ω;have ei:∀(j:Nat) u,(cs x)[j]?=some u->w.cell? (b,X+k*sz+j)=some u:=by
  intro j u hu;have A:j<sz:=by rw[<-hs x];exact(yD.1 hu).1
  have hm:k*sz+sz<=xs.length*sz:=by rw[<-uS];exact wT _ au
  rw[Nat.add_assoc,ax (k*sz+j) ω,Qn hs z A,hu]
 refine⟨b,X,rfl,?_,ei⟩;have h0:(cs x)[0]?=some ((cs x)[0]'(by rw[hs];omega)):=yG _;exact yK w _ (ei 0 _ h0)
theorem Rd.shape{xs:List Φ}(h:Rd w v sz n xs):∃a H,v=.slice a n H/\n<=H/\H<=maxLen:=by obtain⟨a,H,rfl,bx,aq,_⟩:=h;exact⟨a,H,rfl,bx,aq⟩
def IE(w:Ω)(g o:Nat):Nat->List Φ->Ω
 |_,[]=>w
 |j,u::us=>IE (w.setCell (g,o+j) u) g o (j+1) us
def Fa(xs:List Φ)(o:Nat):Nat->List Φ->List Φ
 |_,[]=>xs
 |j,u::us=>Fa (xs.set (o+j) u) o (j+1) us
theorem Ma (hj B C us:List Φ)(j:Nat)(hB:B.length=us.length)(o:Nat)(ho:hj.length=o+j):Fa (hj++B++C) o j us=hj++us++C:=by
 induction us generalizing hj B j with
 |nil=>simp at hB;subst hB;simp[Fa]
 |cons u us ih=>
  cases B with
  |nil=>simp at hB
  |cons b B=>
   rw[Fa,<-ho];have e:(hj++b::B++C).set hj.length u=(hj++[u])++B++C:=by simp[List.set_append_right]
   rw[e,ih (hj++[u]) B (j+1) (by simpa using hB) η];simp
theorem Ee{xs:List Φ}(h:w.ownsRow lo e sz (.slice g n H) n xs)(o j:Nat)(us:List Φ):
 (IE w g o j us).ownsRow lo e sz (.slice g n H) n (Fa xs o j us)/\w.grownBy (IE w g o j us) (some g):=by
 induction us generalizing w xs j with
 |nil=>exact⟨h,⟨rfl,rfl,rfl,yF _,λ_ _ _=>rfl⟩⟩
 |cons u us ih=>obtain⟨s1,s2⟩:=World.ownsRow.stored h (o+j) u;obtain⟨t1,t2⟩:=ih s1 (j+1);exact⟨t1,⟨t2.os.trans s2.os,t2.tape.trans s2.tape,t2.output.trans s2.output,yM s2.size t2.size,λb D bb=>(t2.block b (yt D s2.size) bb).trans (s2.block b D bb)⟩⟩
theorem DQ{α:Type}{xs:List α}{x:α}(h:xs[k]?=some x):xs.take (k+1)=xs.take k++[x]:=by obtain⟨au,rfl⟩:=yD.1 h;exact List.take_succ_eq_append_getElem au
theorem Ro{α:Type}{cs:α->List Φ}(hs:∀x,(cs x).length=sz){xs:List α}(z:k<xs.length)(y:α):Fa (Cb cs xs) (k*sz) 0 (cs y)=Cb cs (xs.set k y):=by
 have e1:xs=xs.take k++[xs[k]]++xs.drop (k+1):=χ;have e2:xs.set k y=xs.take k++[y]++xs.drop (k+1):=by rw[List.set_eq_take_append_cons_drop,if_pos z];simp
 rw[e2]
 conv=>lhs;rw[e1]
 rw[Bq,Bq,Bq,Bq,Es,Es];exact Ma _ _ _ _ 0 (by rw[hs,hs]) _ (by rw[JY hs,yr];congr 1;omega)
theorem AG (w:Ω)(a:Obj):Γ w w (w.alloc a):=(yN _ _).alloc (yF _) _
theorem Ec (w:Ω)(o:Obj):(w.alloc o).heap[w.heap.size]?=some o/\Γ w w (w.alloc o):=⟨yy w o,AG w o⟩
theorem Hv (w:Ω)(a b:Obj):Γ w w ((w.alloc a).alloc b):=(AG w a).alloc χ _
theorem bJ (w:Ω)(a b c:Obj):Γ w w (((w.alloc a).alloc b).alloc c):=(Hv w a b).alloc η _
theorem eh (w:Ω)(a b c d:Obj):Γ w w ((((w.alloc a).alloc b).alloc c).alloc d):=(bJ w a b c).alloc η _
theorem bI{W:Ω}(D:Γ W W w1):(∀b o,b<W.heap.size->w1.cell? ⟨b,o,none⟩=W.cell? ⟨b,o,none⟩)/\(∀b o,b<W.heap.size->w1.frozen? ⟨b,o,none⟩=W.frozen? ⟨b,o,none⟩):=
 ⟨λb o h=>D.cell (p:=⟨b,o,none⟩) h,λb o h=>D.frozen (p:=⟨b,o,none⟩) h⟩
theorem Bm{a:Act}{Q:Exit->Act->Ω->Prop}{s x:Operand}{t:TypeId}
 (gd:o.guard=none)(ho:o.op=.call {callee:=.builtin .append,args:= #[s,x],argTypes:= #[t,t]})
 (e:TypeId)(hk:Φ)(sz bytes:Nat)(ht:prog.underlying t=some (.slice e))(E:(prog.info? e).map (λi=>(i.zero,i.size,i.bytes))=some (some hk,sz,bytes))
 (fq:hk.cells.size=sz)(cP:0<sz){u:Φ}{m:Nat}{xs news:List Φ}(hs:a.eval s=v)(a8:w.ownsRow lo e sz v n xs)
 (N:a.eval x=u)(hr:Rd w u sz m news)(O:∀u∈news,u.oneCell'=true)(iI:n+m<=maxLen)(b0:(n+m)*bytes<=140737488355328)(bY:lo<=w.heap.size)
 (hK:∀v' J,J.ownsRow lo e sz v' (n+m) (xs++news)->w.grownBy J v.ownBlock->(v'.ownBlock=v.ownBlock∨v'.ownBlock=some w.heap.size)->Γ lo w J->wpList prog ops Q rest (a.put o.dst v') J):wpList prog ops Q (o::rest) a w:=by
 obtain⟨i0,dg,ex,ej,ev⟩:=tW E;obtain⟨ao,c,rfl,i6,aq,hl,az,V⟩:=hr;have ae:∀J,w.grownBy J v.ownBlock->Γ lo w J:=λJ Z=>(yN lo w).grown Z bY (λk z=>(a8.lt k z).1)
 cases ao with
 |none=>
  have b9:=az rfl;subst b9;obtain rfl:m=0:=ω;have cu:news=[]:=xY (by simpa using hl);subst cu;refine sF gd s x t ho lo e i0 sz ht dg v n xs hs a8 N ?_;exact hK v w (by simpa using a8) ⟨rfl,rfl,rfl,yF _,λ_ _ _=>rfl⟩ (.inl rfl) (yN _ _)
 |some ad=>
  refine wpList_append_own_at w gd s x t ho lo e i0 hk sz bytes ht dg ex ej ev fq cP v n xs hs a8 ad m c news N hl ?_ O iI b0 bY (λv' J Y h3 _ h5=>hK v' J Y h3 h5 (ae J h3));intro j u hu
  rcases wJ m with rfl|hm
  .simp at hl
   simp[hl] at hu
  obtain⟨b,X,iF,ax⟩:=V hm
  obtain rfl:ad=⟨b,X,none⟩:=by simpa using iF
  have A:j<news.length:=(yD.1 hu).1;have c7:(⟨b,X,none⟩:Addr).add j=⟨b,X+j,none⟩:=by unfold uh;split<;>simp_all
  rw[c7,ax j ω,hu]
theorem Rd.zM (w:Ω)(cs:Array Φ)(e:TypeId)(sz n g:Nat)(Z:g=w.heap.size)(hs:cs.size=n*sz)(hn:n<=maxLen):Rd (w.alloc (.cells cs e)) (.slice g n n) sz n cs.toList:=by subst Z;exact Rd.news w cs e sz n hs hn
theorem Av{xs:List Φ}{row:Option Nat}(h:w.ownsRow lo e sz v n xs)(Z:w.grownBy J row)(bb:v.ownBlock=none∨v.ownBlock≠row):J.ownsRow lo e sz v n xs:=uW h Z bb
theorem BS{xs:List Φ}(h:w.ownsRow lo e sz v n xs)(hl:lo'<=lo):w.ownsRow lo' e sz v n xs:=by
 refine⟨h.1,?_⟩
 rcases h.2 with h'|⟨g,H,bw,rfl,D,rest⟩
 .exact .inl h'
 exact .inr ⟨g,H,bw,rfl,yM hl D,rest⟩
theorem AO{row:Option Nat}(h:w.grownBy J row)(h':J.grownBy cm row):w.grownBy cm row:=
 ⟨h'.os.trans h.os,h'.tape.trans h.tape,h'.output.trans h.output,yM h.size h'.size,λb D bb=>(h'.block b (yt D h.size) bb).trans (h.block b D bb)⟩
theorem AX (h:Γ w w J)(row:Option Nat):w.grownBy J row:=⟨h.os,h.tape,h.output,h.size,λb D _=>h.block b D⟩
def GH(v1 v2:Φ):Prop:=∀k,v1.ownBlock=some k->v2.ownBlock≠some k
theorem GH.symm (h:GH v1 v2):GH v2 v1:=λk O Y=>h k Y O
theorem GH.ne (h:GH v1 v2):v1.ownBlock=none∨v1.ownBlock≠v2.ownBlock:=by
 cases hv:v1.ownBlock with
 |none=>exact .inl rfl
 |some k=>exact .inr λe=>h k hv e.symm
theorem GH.grown{u:Φ}(h:GH v u)(hv:v'.ownBlock=v.ownBlock∨v'.ownBlock=some B)(hu:∀k,u.ownBlock=some k->k<B):GH v' u:=by
 intro k z iU
 rcases hv with e|e
 .exact h k (e▸z) iU
 rw[e] at z
 cases z;exact absurd (hu _ iU) (Nat.lt_irrefl _)
theorem mixed:prog.follows .mixedOrders=true:=φ
section
variable {P:Program}
def Ae(l:List Oper)(i:Nat):Nat:=((l[i]?).bind (·.dst)).getD 0
def Aj(l:List Oper)(is:List Nat)(vs:Nat->Φ)(b:Array Φ):Array Φ:=is.foldl (λb i=>b.setIfInBounds (Ae l i) (vs i)) b
def Ip(l:List Oper)(n:Nat):Bool:=
 decide (n<l.length)&&rR .any l.toArray n&&sd .any l.toArray n&&
 ((yL n).all λi=>match l[i]? with|some o=>o.dst.isSome|none=>false)&&
 ((yL n).all λi=>(yL n).all λj=>i==j||Ae l i !=Ae l j)&&
 Region.seqB .any l.toArray (l.length - n) n (sV (n:=l.length) λi=>decide (i.val<n))&&
 ((yL l.length).all λj=>match l[j]? with|some o=>o.after.all λe=>!ul .any e||decide (e.on<j)|none=>false)
def Hh(L:Nat->Bool)(i:Nat):Nat->Bool:=λj=>if j=i then true else L j
theorem Do{L:Nat->Bool}{i j:Nat}(h:Hh L i j=false):L j=false:=by
 unfold Hh at h
 split at h
 .cases h
 exact h
def AT(P:Program)(l:List Oper)(o:Oper)(a:Act)(w:Ω)(hf:Act->Ω->Prop)(Q:Exit->Act->Ω->Prop):Prop:=
 (xm o (yielded l.toArray a.tmps)=true->vh P o a w hf Q)/\(xm o (yielded l.toArray a.tmps)=false->hf (a.put o.dst Θ) w)
theorem AT.of{P:Program}{l:List Oper}{o:Oper}{a:Act}{w:Ω}{hf:Act->Ω->Prop}{Q:Exit->Act->Ω->Prop}(Z:o.guard=none)(h:vh P o a w hf Q):AT P l o a w hf Q:=
 ⟨λ_=>h,λhw=>by simp[xm,Z] at hw⟩
theorem yO{P:Program}{l:List Oper}{o:Oper}{a:Act}{w:Ω}{hf:Act->Ω->Prop}{Q:Exit->Act->Ω->Prop}(h:vh P o a w hf Q)(Z:o.guard=none:=by rfl):AT P l o a w hf Q:=AT.of Z h
theorem PG{l:List Oper}{tmps:Array Φ}{g d:Nat}{b:Bool}(hd:(l[g]?).bind (·.dst)=some d)(hv:tmps[d]?.getD Θ=.bool b):yielded l.toArray tmps g=some b:=by
 have h:(l.toArray[g]?).bind (·.dst)=some d:=by simpa using hd
 cases N:tmps[d]? with
 |none=>rw[N] at hv;simp[Θ] at hv
 |some x=>rw[N] at hv;simp at hv;subst hv;unfold yielded;rw[h,vH,N]
theorem AT.yes{P:Program}{l:List Oper}{o:Oper}{a:Act}{w:Ω}{hf:Act->Ω->Prop}{Q:Exit->Act->Ω->Prop}{g d:Nat}{b:Bool}(Z:o.guard=some (g,b))(hd:(l[g]?).bind (·.dst)=some d)(hv:a.tmps[d]?.getD Θ=.bool b)(h:vh P o a w hf Q):AT P l o a w hf Q:=
 ⟨λ_=>h,λhw=>by simp[xm,Z,PG hd hv] at hw⟩
theorem AT.no{P:Program}{l:List Oper}{o:Oper}{a:Act}{w:Ω}{hf:Act->Ω->Prop}{Q:Exit->Act->Ω->Prop}{g d:Nat}{b:Bool}(Z:o.guard=some (g,b))(hd:(l[g]?).bind (·.dst)=some d)(hv:a.tmps[d]?.getD Θ=.bool (!b))(h:hf (a.put o.dst Θ) w):AT P l o a w hf Q:=
 ⟨λhw=>by rw[xm,Z] at hw;simp only[PG hd hv] at hw;cases b<;>simp at hw,λ_=>h⟩
theorem Bs{a:Act}{v:Φ}(h:a.tmps[t]?.getD Θ=v):a.eval (.tmp t)=v:=by
 show a.tmps.getD t Θ=v
 rw[tS];exact h
theorem Bv{P:Program}{o:Oper}{a:Act}{w J:Ω}{hf:Act->Ω->Prop}{Q:Exit->Act->Ω->Prop}{s x:Operand}{t:TypeId}(ho:o.op=.call {callee:=.builtin .append,args:= #[s,x],argTypes:= #[t,t]})
 {v u v':Φ}(hs:a.eval s=v)(N:a.eval x=u)(cr:(vG #[t,t] o.type #[v,u]).run P w=.ok v' J)(h:hf (a.put o.dst v') J):vh P o a w hf Q:=by
 unfold vh execOp;simp only[ho,resolve,invoke,builtin,vq,Sem.run_pure,wg,List.map_toArray,vF,uV,hs,N,cr];exact h
def Bj(l:List Oper)(i:Nat):Option Nat:=(l[i]?).bind (·.dst)
def Ef(l:List Oper)(tmps:Array Φ)(i:Nat):Φ:=match Bj l i with|some d=>tmps[d]?.getD Θ|none=>Θ
theorem aX{l:List Oper}{a:Act}{i j:Nat}{o:Oper}{v:Φ}(ho:l[i]?=some o)(bb:Bj l i=none∨Bj l i≠Bj l j):Ef l (a.put o.dst v).tmps j=Ef l a.tmps j:=by
 have e:Bj l i=o.dst:=by simp[Bj,ho]
 rw[e] at bb;unfold Ef;cases A:Bj l j with
 |none=>rfl
 |some d=>
  cases hd:o.dst with
  |none=>rfl
  |some d'=>
   have:d'≠d:=by
    rintro rfl
    rcases bb with h|h
    .rw[hd] at h;cases h
    exact h (by rw[hd,A])
   simp only[Act.put];rw[wB this]
theorem aW{l:List Oper}{a:Act}{i:Nat}{o:Oper}{v:Φ}(ho:l[i]?=some o)(hN:∀d,Bj l i=some d->d<a.tmps.size):Ef l (a.put o.dst v).tmps i=match o.dst with|some _=>v|none=>Θ:=by
 have e:Bj l i=o.dst:=by simp[Bj,ho]
 unfold Ef;rw[e];cases hd:o.dst with
 |none=>rfl
 |some d=>have:=hN d (by rw[e,hd]);simp[Act.put,this]
structure eS(l:List Oper)(n:Nat)(a0:Act)(I:(Nat->Bool)->(Nat->Φ)->Ω->Prop)(ac:Array Bool)(a:Act)(w:Ω):Prop where
 head:HeadInv .any l.toArray n ac
 defers:a.defers=a0.defers
 size:a.tmps.size=a0.tmps.size
 base:∀t,(∀i,i<n->Bj l i≠some t)->a.tmps[t]?=a0.tmps[t]?
 inv:I (λj=>ac.getD j false) (Ef l a.tmps) w
theorem NR{ac:Array Bool}{i:Nat}(h:i<ac.size)(d:Bool):(ac.setIfInBounds i true).getD i d=true:=by simp[h]
def eK(l:List Oper):Bool:=(yL l.length).all λj=>match l[j]? with|some o=>o.after.all λe=>!ul .any e||decide (e.on<j)|none=>false
structure eT(l:List Oper)(n N:Nat):Prop where
 tail:(n<l.length/\rR .any l.toArray n=true/\sd .any l.toArray n=true/\Region.seqB .any l.toArray (l.length - n) n (sV (n:=l.length) λi=>decide (i.val<n))=true)∨n=l.length
 ne:∀i j,i<n->j<n->i≠j->Bj l i=none∨Bj l i≠Bj l j
 back:eK l=true
 fit:∀i,i<n->∀d,Bj l i=some d->d<N
theorem eS.wpAny{l:List Oper}{n:Nat}{a0:Act}{I:(Nat->Bool)->(Nat->Φ)->Ω->Prop}{Q:Exit->Act->Ω->Prop}(hB:eT l n a0.tmps.size)
 (a7:∀i,i<n->∀o,l[i]?=some o->∀a w,a.defers=a0.defers->a.tmps.size=a0.tmps.size->(∀t,(∀i,i<n->Bj l i≠some t)->a.tmps[t]?=a0.tmps[t]?)->
  ∀L:Nat->Bool,L i=false->(∀j,yk .any l.toArray i j=true->L j=true/\j<n)->(∀j j',L j=true->yk .any l.toArray j j'=true->L j'=true)->I L (Ef l a.tmps) w->
  ∀hf:Act->Ω->Prop,(∀v J,(∀cq,cq i=(match o.dst with|some _=>v|none=>Θ)->(∀j,j<n->j≠i->cq j=Ef l a.tmps j)->I (Hh L i) cq J)->hf (a.put o.dst v) J)->AT P l o a w hf Q)
 (a6:∀a w,a.defers=a0.defers->a.tmps.size=a0.tmps.size->(∀t,(∀i,i<n->Bj l i≠some t)->a.tmps[t]?=a0.tmps[t]?)->∀L:Nat->Bool,(∀i,i<n->L i=true)->I L (Ef l a.tmps) w->wpList P l.toArray Q (l.drop n) a w):
 ∀(f:Nat)(ac:Array Bool)(a:Act)(w:Ω),f=(l.length - n)+((yL n).filter λi=>!ac.getD i false).length->eS l n a0 I ac a w->Go.wpAny P .any l.toArray Q f ac a w:=by
 obtain⟨ge,bb,bP,hN⟩:=hB;have bP:=bP;unfold eK at bP;have gQ:n<=l.length:=by rcases ge with h|h<;>omega
 have ef:∀i (o:Oper),l[i]?=some o->∀e∈o.after,ul .any e=true->e.on<i:=by intro i o ho e he D;have:=ym.1 bP i (yh.2 (yD.1 ho).1);rw[ho] at this;simpa[D] using Array.all_eq_true'.1 this e he
 have none:∀(ac:Array Bool),(∀i,i<n->ac.getD i false=true)->((yL n).filter λi=>!ac.getD i false)=[]:=by intro ac bA;rw[List.filter_eq_nil_iff];intro i E;simp[bA i (yh.1 E)]
 intro f
 induction f with
 |zero=>
  intro ac a w K inv;have j0:n=l.length:=ω
  have bA:∀i,i<n->ac.getD i false=true:=by
   intro i E;cases N:ac.getD i false with
   |true=>rfl
   |false=>
    exfalso;have:i∈(yL n).filter λi=>!ac.getD i false:=wQ.2 ⟨yh.2 E,by simp[N]⟩
    have:=tx this;omega
  have hT:=a6 a w inv.defers inv.size inv.base _ bA inv.inv;rw[List.drop_eq_nil_of_le ω] at hT;refine⟨?_,hT⟩;rw[List.eq_nil_iff_forall_not_mem];intro i E;obtain⟨gx,o,ho,_⟩:=mem_ready.1 E;have j4:i<l.length:=by have:=(vZ.1 ho).1;simpa using this
  have:=getD_both gx;rw[bA i ω] at this;cases this
 |succ f ih=>
  intro ac a w K inv
  by_cases bA:∀i,i<n->ac.getD i false=true
  .rcases ge with⟨hn,_,_,f4⟩|hn
   .have e7:ac=sV (n:=l.length) λi=>decide (i.val<n):=by
     have cP:ac.size=l.length:=by have:=inv.head.size;simpa using this
     apply Array.ext
     .simp[cP]
     intro i O Y
     simp only[Array.getElem_ofFn]
     by_cases E:i<n
     .have:=bA i E
      simp[O] at this;simp[E,this]
     have:=inv.head.tail i ω (by simpa[cP] using O)
     simp[O] at this;simp[E,this]
    have hT:=a6 a w inv.defers inv.size inv.base _ bA inv.inv;have hW:=wpAny_of_seq (P:=P) (md:=.any) (ops:=l.toArray) (Q':=Q) (l.drop n) n ac a w (λj=>by simp[sO]) (by rw[e7];simpa using f4) hT;have e:(l.drop n).length=f+1:=by rw[none ac bA] at K;simp at K ⊢;omega
    rw[e] at hW;exact hW
   rw[none ac bA] at K
   simp at K;omega
  obtain⟨i0,dg⟩:=Classical.not_forall.1 bA
  obtain⟨f8,iv⟩:=Classical.not_imp.1 dg;have iw:ac.getD i0 false=false:=by simpa using iv
  have cP:ac.size=l.length:=by have:=inv.head.size;simpa using this
  have gW:ac.getD i0 true=false:=getD_in ω iw;refine⟨λhr=>?_,λi E=>?_⟩
  .exfalso
   have:∀k,∀i,i<k->i<n->ac.getD i true=false->False:=by
    intro k
    induction k with
    |zero=>intro i E;omega
    |succ k ihk=>
     intro i j5 b5 gx;have f6:i∉Region.ready .any l.toArray ac:=by rw[hr];simp
     have ho:l[i]?=some l[i]:=yG ω;apply f6;rw[mem_ready];refine⟨gx,l[i],χ,λe he D=>?_⟩;have au:=ef i _ ho e he D;cases N:ac.getD e.on false with
     |true=>rfl
     |false=>exact(ihk e.on ω ω (getD_in ω N)).elim
   exact this n i0 f8 f8 gW
  obtain⟨gx,o,ij,iz⟩:=mem_ready.1 E
  have ho:l[i]?=some o:=by simpa using ij
  have b5:i<n:=by
   rcases uC i n with h|h
   .exact h
   rcases ge with⟨hn,hs,V,_⟩|hn
   .exact absurd E (tail_waits hs V (by simpa using hn) inv.head _ i0 rfl f8 gW i h)
   have:=(yD.1 ho).1;omega
  have gw:=getD_both gx;unfold Go.wpOp;rw[ij];have io:∀j,yk .any l.toArray i j=true->ac.getD j false=true/\j<n:=by intro j A;obtain⟨oj,ii,e,he,D,rfl⟩:=tv A;obtain rfl:oj=o:=yP (ii.symm.trans ij);have:=ef i _ ho e he D;exact⟨iz e he D,ω⟩
  have iC:∀j j',ac.getD j false=true->yk .any l.toArray j j'=true->ac.getD j' false=true:=by intro j j' A hw;obtain⟨oj,ii,e,he,D,rfl⟩:=tv hw;exact inv.head.closed j oj ii A e he D
  have eL:(λj=>(ac.setIfInBounds i true).getD j false)=Hh (λj=>ac.getD j false) i:=by
   funext j
   unfold Hh
   by_cases gl:j=i
   .subst gl
    rw[if_pos rfl,NR ω]
   rw[if_neg gl,getD_set_ne false (Ne.symm gl)]
  have hK:=a7 i b5 o ho a w inv.defers inv.size inv.base _ gw io iC inv.inv (Go.wpAny P .any l.toArray Q f (ac.setIfInBounds i true)) (λv J hI=>by
   have c6:f=(l.length - n)+((yL n).filter λk=>!(ac.setIfInBounds i true).getD k false).length:=by
    have gO:i∈(yL n).filter λk=>!ac.getD k false:=by rw[wQ];exact⟨yh.2 b5,by rw[gw];rfl⟩
    have jy:((yL n).filter λk=>!ac.getD k false).Nodup:=List.nodup_range.filter _;have he:((yL n).filter λk=>!(ac.setIfInBounds i true).getD k false)=((yL n).filter λk=>!ac.getD k false).erase i:=by
     rw[jy.erase_eq_filter,List.filter_filter];refine sA λk z=>?_
     by_cases ip:k=i
     .subst ip
      simp[NR (ω:k<ac.size)]
     rw[getD_set_ne false (Ne.symm ip)]
     simp[ip]
    rw[he,List.length_erase_of_mem gO];have:=tx gO;omega
   refine ih _ _ _ c6 ⟨inv.head.set E b5,?_,?_,?_,?_⟩
   .cases hd:o.dst<;>simpa[Act.put] using inv.defers
   .cases hd:o.dst<;>simpa[Act.put] using inv.size
   .intro t ht
    rw[<-inv.base t ht];cases hd:o.dst with
    |none=>rfl
    |some d=>
     have:d≠t:=λe=>ht i b5 (by simp[Bj,ho,hd,e])
     simp only[Act.put];rw[wB this]
   rw[eL]
   exact hI _ (aW ho (λd hd=>by rw[inv.size];exact hN i b5 d hd)) (λj A gl=>aX ho (bb i j b5 A (Ne.symm gl))))
  cases g9:xm o (yielded l.toArray a.tmps) with
  |true=>dsimp only;rw[g9,if_pos rfl];exact .inl (hK.1 g9)
  |false=>dsimp only;rw[g9,if_neg Bool.false_ne_true];exact hK.2 g9
theorem Mh{Q:Exit->Act->Ω->Prop}{a0:Act}{l:List Oper}{n:Nat}(hm:P.follows .mixedOrders=true){I:(Nat->Bool)->(Nat->Φ)->Ω->Prop}(hB:eT l n a0.tmps.size)(hI:∀vs,I (λ_=>false) vs {w0 with drawn:=w0.drawn+1})
 (a7:∀i,i<n->∀o,l[i]?=some o->∀a w,a.defers=a0.defers->a.tmps.size=a0.tmps.size->(∀t,(∀i,i<n->Bj l i≠some t)->a.tmps[t]?=a0.tmps[t]?)->
  ∀L:Nat->Bool,L i=false->(∀j,yk .any l.toArray i j=true->L j=true/\j<n)->(∀j j',L j=true->yk .any l.toArray j j'=true->L j'=true)->I L (Ef l a.tmps) w->
  ∀hf:Act->Ω->Prop,(∀v J,(∀cq,cq i=(match o.dst with|some _=>v|none=>Θ)->(∀j,j<n->j≠i->cq j=Ef l a.tmps j)->I (Hh L i) cq J)->hf (a.put o.dst v) J)->AT P l o a w hf Q)
 (a6:∀a w,a.defers=a0.defers->a.tmps.size=a0.tmps.size->(∀t,(∀i,i<n->Bj l i≠some t)->a.tmps[t]?=a0.tmps[t]?)->∀L:Nat->Bool,(∀i,i<n->L i=true)->I L (Ef l a.tmps) w->wpList P l.toArray Q (l.drop n) a w):
 (vY id l.toArray true).wp P Q a0 w0:=by
 refine wp_region_any hm ?_;refine eS.wpAny (a0:=a0) (I:=I) hB a7 a6 _ _ _ _ ?_ ⟨⟨χ,λj oj _ hl=>(by rw[ui] at hl;cases hl),λt _ ht=>by simp at ht ⊢;simp[ht]⟩,rfl,rfl,λ_ _=>rfl,?_⟩
 .have:((yL n).filter λi=>!(sk l.toArray.size false).getD i false)=yL n:=by
   rw[uw];intro i _;rw[ui];rfl
  rw[this];have gQ:n<=l.length:=by rcases hB.tail with h|h<;>omega
  simp;omega
 have e:(λj=>(sk l.toArray.size false).getD j false)=λ_=>false:=funext λj=>ui _ _
 rw[e];exact hI _
theorem UM(l:List Oper):∀(is:List Nat)(b c:Array Φ),c.size=b.size->(∀t,(∀i,i∈is->Ae l i≠t)->c[t]?=b[t]?)->
 c=Aj l is (λi=>c.getD (Ae l i) Θ) b:=by
 intro is
 induction is with
 |nil=>intro b c hs h;exact sU λt=>h t (λi E=>by cases E)
 |cons i is ih=>
  intro b c hs h
  show c=Aj l is _ (b.setIfInBounds (Ae l i) (c.getD (Ae l i) Θ))
  refine ih _ c (by simpa using hs) λt ht=>?_
  by_cases fy:Ae l i=t
  .subst fy
   rcases uC (Ae l i) c.size with h'|h'
   .have:Ae l i<b.size:=ω
    simp[h',this]
   have:b.size<=Ae l i:=ω;simp[h',this]
  rw[wB fy]
  exact h t λj A=>by
   rcases xH.1 A with rfl|A
   .exact fy
   exact ht j A
def WN(l:List Oper)(n hx:Nat):Bool:=(yL n).all λi=>decide (Ae l i<hx)
theorem LH{l:List Oper}{n i:Nat}(hB:Ip l n=true)(E:i<n):Bj l i=some (Ae l i):=by
 simp only[Ip,yC] at hB;have:=ym.1 hB.1.1.1.2 i (yh.2 E);unfold Bj Ae;cases ho:l[i]? with
 |none=>rw[ho] at this;cases this
 |some o=>rw[ho] at this;obtain⟨d,hd⟩:=vj.1 this;simp[hd]
theorem LL{l:List Oper}{n i:Nat}{b:Array Φ}(hB:Ip l n=true)(E:i<n):Ef l b i=b[Ae l i]?.getD Θ:=by unfold Ef;rw[LH hB E]
theorem Xm{l:List Oper}{n i:Nat}{o:Oper}(hB:Ip l n=true)(E:i<n)(ho:l[i]?=some o):o.dst=some (Ae l i):=by
 have h:=LH hB E;unfold Bj at h
 rwa [ho,vH] at h
theorem Ug{l:List Oper}{n hx:Nat}(hB:Ip l n=true)(hD:WN l n hx=true):eT l n hx:=by
 have g2:=hB;simp only[Ip,yC,decide_eq_true_eq] at g2;obtain⟨⟨⟨⟨⟨⟨hn,hs⟩,V⟩,Z⟩,gg⟩,f4⟩,bP⟩:=g2;refine⟨.inl ⟨hn,hs,V,f4⟩,λi j E A em=> .inr ?_,bP,λi E d hd=>?_⟩
 .have:=ym.1 (ym.1 gg i (yh.2 E)) j (yh.2 A)
  rw[LH hB E,LH hB A];intro e;simp[em,yP e] at this
 have:=ym.1 hD i (yh.2 E)
 rw[LH hB E] at hd;cases hd;simpa using this
theorem KU{l:List Oper}{n:Nat}{b c:Array Φ}(hB:Ip l n=true)(h:∀t,(∀i,i<n->Bj l i≠some t)->c[t]?=b[t]?):∀t,(∀i,i<n->Ae l i≠t)->c[t]?=b[t]? :=
 λt ht=>h t λi E e=>ht i E (by rw[LH hB E] at e;exact yP e)
theorem Fk{Q:Exit->Act->Ω->Prop}{a0:Act}{l:List Oper}(n:Nat)(hm:P.follows .mixedOrders=true)(hB:Ip l n=true)
 (hx:Nat)(hN:a0.tmps.size=hx)(hD:WN l n hx=true)(R:Nat->Φ->Ω->Prop)(G:(Nat->Bool)->Ω->Prop)(hG:G (λ_=>false) {w0 with drawn:=w0.drawn+1})
 (a7:∀i,i<n->∀o,l[i]?=some o->∀a w,dv (a.defers=a0.defers/\a.tmps.size=a0.tmps.size/\∀t,(∀i,i<n->Ae l i≠t)->a.tmps[t]?=a0.tmps[t]?)->
  dv (∀j,yk .any l.toArray i j=true->R j (a.tmps[Ae l j]?.getD Θ) w)->∀L:Nat->Bool,dv (L i=false/\(∀j,yk .any l.toArray i j=true->L j=true)/\∀j j',L j=true->yk .any l.toArray j j'=true->L j'=true)->G L w->
  ∀hf:Act->Ω->Prop,dv (∀v J,R i v J->G (Hh L i) J->(∀j u,j≠i->j<n->L j=true->R j u w->R j u J)->hf (a.put o.dst v) J)->AT P l o a w hf Q)
 (a6:∀(vs:Nat->Φ) w,(∀i,i<n->R i (vs i) w)->∀L:Nat->Bool,(∀i,i<n->L i=true)->G L w->wpList P l.toArray Q (l.drop n) {a0 with tmps:=Aj l (yL n) vs a0.tmps} w):
 (vY id l.toArray true).wp P Q a0 w0:=by
 subst hN;refine Mh hm (I:=λL vs w=>(∀i,i<n->L i=true->R i (vs i) w)/\G L w) (Ug hB hD) (λvs=>⟨λi _ h=>(by cases h),hG⟩) (λi E o ho a w O Y h3 L h6 h7 h8 hI hf hK=>?_) (λa w O Y h3 L hL hI=>?_)
 .refine a7 i E o ho a w (AA ⟨O,Y,KU hB h3⟩) (AA λj A=>by rw[<-LL hB (h7 j A).2];exact hI.1 j (h7 j A).2 (h7 j A).1) L (AA ⟨h6,λj A=>(h7 j A).1,h8⟩) hI.2 hf (AA λv J hR iH cw=>hK v J λcq hv fv=>⟨λj A hl=>?_,iH⟩)
  by_cases e:j=i
  .subst e
   rw[hv];simp only[Xm hB E ho];exact hR
  have bt:L j=true:=by unfold Hh at hl;rwa [if_neg e] at hl
  rw[fv j A e];exact cw j _ e A bt (hI.1 j A bt)
 have e:=UM l (yL n) a0.tmps a.tmps Y (λt ht=>KU hB h3 t λi E=>ht i (yh.2 E))
 have:=a6 (λi=>a.tmps.getD (Ae l i) Θ) w (λi E=>by rw[tS,<-LL hB E];exact hI.1 i E (hL i E)) L hL hI.2;rw[<-e] at this;obtain⟨tm,df⟩:=a;dsimp only at O this;subst O;exact this
end
section
variable {P:Program} {l:List Oper} {i:Nat} {o o':Oper} {a a0:Act} {w:Ω} {hf:Act->Ω->Prop} {Q:Exit->Act->Ω->Prop} {R:Φ->Ω->Prop} {x y hk:Operand} {v u:Φ}
def fO(l:List Oper)(o:Oper)(a:Act):Prop:=xm o (yielded l.toArray a.tmps)=true
theorem gn(h:o.guard=none):fO l o a:=by simp[fO,xm,h]
theorem et(h:a.tmps[t]?.getD Θ=v):a.eval (.tmp t)=v:=Bs h
theorem eb(h:a.tmps[t]?=a0.tmps[t]?):a.eval (.tmp t)=a0.tmps[t]?.getD Θ:=Bs (by rw[h])
theorem eg(h:a.tmps[t]?=a0.tmps[t]?):a.tmps[t]?.getD Θ=a0.tmps[t]?.getD Θ:=by rw[h]
theorem bc{b X:Nat}(hG:Γ B w0 w)(au:b<B)(h:w0.cell? (b,X)=some v):w.cell? (b,X)=some v:=(hG.cell (p:=⟨b,X,none⟩) au).trans h
theorem dV(ho:l[i]?=some o)(e:l[i]?=some o')(hw:fO l o' a)(HK:dv (∀v J,R v J->Γ w w J->hf (a.put o.dst v) J))(hr:(execOp a.eval o').run P w=.ok (.value v) w)(hR:R v w):AT P l o a w hf Q:=by
 obtain rfl:=yP (ho.symm.trans e);exact⟨λ_=>by unfold vh;rw[hr];exact HK _ _ hR (yN _ _),λh=>by rw[show xm o (yielded l.toArray a.tmps)=true from hw] at h;cases h⟩
theorem dM(ho:l[i]?=some o)(e:l[i]?=some o')(hw:fO l o' a)(HK:dv (∀v J,R v J->Γ w w J->hf (a.put o.dst v) J))(d5:o'.op=.move x)(N:a.eval x=v)(hR:R v w):AT P l o a w hf Q:=
 dV ho e hw HK (by unfold execOp;rw[d5,<-N];rfl) hR
theorem dF{s b X k:Nat}(ho:l[i]?=some o)(e:l[i]?=some o')(hw:fO l o' a)(HK:dv (∀v J,R v J->Γ w.heap.size w J->hf (a.put o.dst v) J))(d5:o'.op=.fieldAddr s x f)(K:∀b X w,(vg s (.pointer (some ⟨b,X,none⟩)) f).run P w=.ok (.pointer (some ⟨b,X+k,none⟩)) w)(N:a.eval x=.pointer (some ⟨b,X,none⟩))(hR:R (.pointer (some ⟨b,X+k,none⟩)) w):AT P l o a w hf Q:=
 dV ho e hw HK (by unfold execOp;rw[d5];simp only[N,vq,K,wg];rfl) hR
theorem dL{p:Addr}(ho:l[i]?=some o)(e:l[i]?=some o')(hw:fO l o' a)(HK:dv (∀v J,R v J->Γ w w J->hf (a.put o.dst v) J))(d5:o'.op=.load t x)(N:a.eval x=.pointer (some p))(hl:(xJ t (.pointer (some p))).run P w=.ok v w)(hR:R v w):AT P l o a w hf Q:=
 dV ho e hw HK (by unfold execOp;rw[d5];simp only[N,vq,hl,wg];rfl) hR
end
section
variable {b X:Nat} {w:Ω} {v0 v1 v2 v3 v4 v5 v6 v7 v8 v9:Φ}
theorem bU:∀b X w,(vg 32 (.pointer (some ⟨b,X,none⟩)) 0).run prog w=.ok (.pointer (some ⟨b,X+0,none⟩)) w:=λb X w=>by go_simp
theorem ep:∀b X w,(vg 32 (.pointer (some ⟨b,X,none⟩)) 1).run prog w=.ok (.pointer (some ⟨b,X+4,none⟩)) w:=λb X w=>by go_simp
theorem eu:∀b X w,(vg 32 (.pointer (some ⟨b,X,none⟩)) 2).run prog w=.ok (.pointer (some ⟨b,X+5,none⟩)) w:=λb X w=>by go_simp
theorem ew:∀b X w,(vg 32 (.pointer (some ⟨b,X,none⟩)) 3).run prog w=.ok (.pointer (some ⟨b,X+6,none⟩)) w:=λb X w=>by go_simp
theorem F7(h:w.cell? (b,X)=some v0):(xJ 3 (.pointer (some ⟨b,X,none⟩))).run prog w=.ok v0 w:=by go_simp
theorem gJ(h:w.cell? (b,X)=some v0):(xJ 4 (.pointer (some ⟨b,X,none⟩))).run prog w=.ok v0 w:=by go_simp
theorem Zq(h:w.cell? (b,X)=some v0):(xJ 9 (.pointer (some ⟨b,X,none⟩))).run prog w=.ok v0 w:=by go_simp
theorem GR(h:w.cell? (b,X)=some v0):(xJ 23 (.pointer (some ⟨b,X,none⟩))).run prog w=.ok v0 w:=by go_simp
theorem Gi(h:w.cell? (b,X)=some v0):(xJ 24 (.pointer (some ⟨b,X,none⟩))).run prog w=.ok v0 w:=by go_simp
theorem Ph(h:w.cell? (b,X)=some v0):(xJ 25 (.pointer (some ⟨b,X,none⟩))).run prog w=.ok v0 w:=by go_simp
theorem YF(h:w.cell? (b,X)=some v0):(xJ 26 (.pointer (some ⟨b,X,none⟩))).run prog w=.ok v0 w:=by go_simp
theorem Pi(h0:w.cell? (b,X)=some v0)(O:w.cell? (b,X+1)=some v1)(Y:w.cell? (b,X+2)=some v2)(h3:w.cell? (b,X+3)=some v3):(xJ 28 (.pointer (some ⟨b,X,none⟩))).run prog w=.ok (.agg #[v0,v1,v2,v3]) w:=by go_simp
theorem K5(h:w.cell? (b,X)=some v0):(xJ 29 (.pointer (some ⟨b,X,none⟩))).run prog w=.ok v0 w:=by go_simp
theorem dm(h:w.cell? (b,X)=some v0):(xJ 30 (.pointer (some ⟨b,X,none⟩))).run prog w=.ok v0 w:=by go_simp
theorem Pj(h0:w.cell? (b,X)=some v0)(O:w.cell? (b,X+1)=some v1)(Y:w.cell? (b,X+2)=some v2)(h3:w.cell? (b,X+3)=some v3)(h4:w.cell? (b,X+4)=some v4)(h5:w.cell? (b,X+5)=some v5)(h6:w.cell? (b,X+6)=some v6)(h7:w.cell? (b,X+7)=some v7)(h8:w.cell? (b,X+8)=some v8):(xJ 32 (.pointer (some ⟨b,X,none⟩))).run prog w=.ok (.agg #[v0,v1,v2,v3,v4,v5,v6,v7,v8]) w:=by go_simp
theorem fX(h0:w.cell? (b,X)=some v0)(O:w.cell? (b,X+1)=some v1)(Y:w.cell? (b,X+2)=some v2)(h3:w.cell? (b,X+3)=some v3)(h4:w.cell? (b,X+4)=some v4)(h5:w.cell? (b,X+5)=some v5):(xJ 34 (.pointer (some ⟨b,X,none⟩))).run prog w=.ok (.agg #[v0,v1,v2,v3,v4,v5]) w:=by go_simp
theorem Kt(h:w.cell? (b,X)=some v0):(xJ 79 (.pointer (some ⟨b,X,none⟩))).run prog w=.ok v0 w:=by go_simp
theorem gF(h0:w.cell? (b,X)=some v0)(O:w.cell? (b,X+1)=some v1)(Y:w.cell? (b,X+2)=some v2):(xJ 87 (.pointer (some ⟨b,X,none⟩))).run prog w=.ok (.agg #[v0,v1,v2]) w:=by go_simp
theorem Of(h:w.cell? (b,X)=some v0):(xJ 95 (.pointer (some ⟨b,X,none⟩))).run prog w=.ok v0 w:=by go_simp
theorem fY(h0:w.cell? (b,X)=some v0)(O:w.cell? (b,X+1)=some v1)(Y:w.cell? (b,X+2)=some v2)(h3:w.cell? (b,X+3)=some v3)(h4:w.cell? (b,X+4)=some v4)(h5:w.cell? (b,X+5)=some v5)(h6:w.cell? (b,X+6)=some v6):(xJ 97 (.pointer (some ⟨b,X,none⟩))).run prog w=.ok (.agg #[v0,v1,v2,v3,v4,v5,v6]) w:=by go_simp
theorem Wn(h0:w.cell? (b,X)=some v0)(O:w.cell? (b,X+1)=some v1)(Y:w.cell? (b,X+2)=some v2)(h3:w.cell? (b,X+3)=some v3):(xJ 125 (.pointer (some ⟨b,X,none⟩))).run prog w=.ok (.agg #[v0,v1,v2,v3]) w:=by go_simp
end
section
variable {P:Program}
theorem Mi{Q:Exit->Act->Ω->Prop}{a0:Act}{l:List Oper}(n:Nat)(hm:P.follows .mixedOrders=true)(hB:Ip l n=true)
 (hx:Nat)(hN:a0.tmps.size=hx)(hD:WN l n hx=true)(R:Nat->Φ->Ω->Prop)(bk:∀i,i<n->∀v w J,Γ w.heap.size w J->R i v w->R i v J)
 (a7:∀i,i<n->∀o,l[i]?=some o->∀a w,dv (a.defers=a0.defers/\a.tmps.size=a0.tmps.size/\∀t,(∀i,i<n->Ae l i≠t)->a.tmps[t]?=a0.tmps[t]?)->
  dv (∀j,yk .any l.toArray i j=true->R j (a.tmps[Ae l j]?.getD Θ) w)->Γ w0 w0 w->
  ∀hf:Act->Ω->Prop,dv (∀v J,R i v J->Γ w w J->hf (a.put o.dst v) J)->AT P l o a w hf Q)
 (a6:∀(vs:Nat->Φ) w,(∀i,i<n->R i (vs i) w)->Γ w0 w0 w->wpList P l.toArray Q (l.drop n) {a0 with tmps:=Aj l (yL n) vs a0.tmps} w):
 (vY id l.toArray true).wp P Q a0 w0:=by
 refine Fk n hm hB hx hN hD R (λ_ w=>Γ w0 w0 w) ⟨rfl,rfl,rfl,yF _,λ_ _=>rfl⟩ ?_ (λvs w O _ _ Y=>a6 vs w O Y);intro i E o ho a w Hb Hd L HL hG hf HK;exact a7 i E o ho a w Hb Hd hG hf (AA λv J O Y=>HK v J O (hG.trans ⟨Y.os,Y.tape,Y.output,Y.size,λk z=>Y.block k (yt z hG.size)⟩) (λj u _ A _ h=>bk j A u w J Y h))
end
def Au(x:AW):List Φ:=[.int .i64 x.k,.string x.g,.int .i64 x.r]
theorem Az (x:AW):(Au x).length=3:=rfl
def AW.val(x:AW):Φ:=.agg #[x.k,x.g,x.r]
def AZ(x:Ag):List Φ:=[.int .i64 x.e,.int .i64 x.p,.int .i64 x.f,.bool x.w]
theorem Co (x:Ag):(AZ x).length=4:=rfl
def Ag.val(x:Ag):Φ:=.agg #[x.e,x.p,x.f,x.w]
def A0(s:ByteArray):List Φ:=[.string s]
theorem Fj (s:ByteArray):(A0 s).length=1:=rfl
def Gs(v:Φ):List Φ:=[v]
theorem Ej (v:Φ):(Gs v).length=1:=rfl
def FR(p:Φ×Int):List Φ:=[p.1,.int .i64 p.2]
theorem GU (p:Φ×Int):(FR p).length=2:=rfl
def BN{α:Type}(sz:Nat)(cs:α->List Φ)(w:Ω)(v:Φ)(xs:List α):Prop:=Rd w v sz xs.length (Cb cs xs)
def AP{α:Type}(lo e sz:Nat)(cs:α->List Φ)(w:Ω)(v:Φ)(xs:List α):Prop:=w.ownsRow lo e sz v xs.length (Cb cs xs)
section
variable {α:Type} {sz lo e:Nat} {cs:α->List Φ} {w J:Ω} {v:Φ} {xs:List α}
theorem BN.below(h:BN sz cs w v xs)(D:Γ w w J):BN sz cs J v xs:=Rd.below h D
theorem AP.rd(h:AP lo e sz cs w v xs):BN sz cs w v xs:=Rd.of_owns h
theorem AP.below(h:AP lo e sz cs w v xs)(D:Γ w w J):AP lo e sz cs J v xs:=BC h D
theorem AP.grown{row:Option Nat}(h:AP lo e sz cs w v xs)(Z:w.grownBy J row)(bb:v.ownBlock=none∨v.ownBlock≠row):AP lo e sz cs J v xs:=Av h Z bb
theorem AP.lower(h:AP lo e sz cs w v xs)(hl:lo'<=lo):AP lo' e sz cs w v xs:=BS h hl
theorem BN.shape(h:BN sz cs w v xs):∃a H,v=.slice a xs.length H/\xs.length<=H/\H<=maxLen:=Rd.shape h
theorem BN.open(hs:∀x,(cs x).length=sz)(cP:0<sz)(h:BN sz cs w v xs):∃a H,v=.slice a xs.length H/\xs.length<=H/\H<=maxLen/\Uw sz cs w a xs:=by obtain⟨a,H,rfl,O,Y⟩:=Rd.shape h;exact⟨a,H,rfl,O,Y,Uw.of hs cP h⟩
end
abbrev Bh(w:Ω)(v:Φ)(xs:List AW):Prop:=BN 3 Au w v xs
abbrev Ds(w:Ω)(v:Φ)(xs:List Ag):Prop:=BN 4 AZ w v xs
abbrev BZ(w:Ω)(v:Φ)(xs:List ByteArray):Prop:=BN 1 A0 w v xs
def GY{α β:Type}(R:α->β->Prop)(xs:List α)(ys:List β):Prop:=xs.length=ys.length/\∀(i:Nat) x y,xs[i]?=some x->ys[i]?=some y->R x y
theorem GY.mono{α β:Type}{R S:α->β->Prop}{xs:List α}{ys:List β}(h:GY R xs ys)(jQ:∀x y,R x y->S x y):GY S xs ys:=⟨h.1,λi x y N hy=>jQ _ _ (h.2 i x y N hy)⟩
theorem GY.nil{α β:Type}{R:α->β->Prop}:GY R [] []:=⟨rfl,λi x y h=>by simp at h⟩
theorem GY.snoc{α β:Type}{R:α->β->Prop}{xs:List α}{ys:List β}{x:α}{y:β}(h:GY R xs ys)(jt:R x y):GY R (xs++[x]) (ys++[y]):=by
 refine⟨by simp[h.1],λi a b ha D=>?_⟩
 by_cases E:i<xs.length
 .rw[xh E] at ha
  rw[xh (by rw[<-h.1];exact E)] at D;exact h.2 i a b ha D
 have O:=(yD.1 ha).1
 simp at O;obtain rfl:i=xs.length:=ω;simp at ha;rw[h.1] at D;simp at D;subst ha D;exact jt
def Bn(w:Ω)(v:Φ)(cz:List (List Int)):Prop:=∃vs,BN 1 Gs w v vs/\GY (A3 w) vs cz
def Mm(w:Ω)(v:Φ)(jo:List (List ByteArray)):Prop:=∃vs,BN 1 Gs w v vs/\GY (BZ w) vs jo
def Gf(w:Ω)(v:Φ)(es:List FF):Prop:=∃ps,BN 2 FR w v ps/\GY (λp e=>BZ w p.1 e.PQ/\p.2=e.root) ps es
def Nk(w:Ω)(m i e c:Φ)(k:AQ):Prop:=Bn w m k.mem/\Bh w i k.ZJ/\Gf w e k.XX/\Ds w c k.XU
section
variable {w J:Ω} {v:Φ}
theorem Bn.below(h:Bn w v cz)(D:Γ w w J):Bn J v cz:=by
 obtain⟨vs,O,Y⟩:=h;exact⟨vs,O.below D,Y.mono λ_ _ h=>A3.below h D⟩
theorem Gf.below{es:List FF}(h:Gf w v es)(D:Γ w w J):Gf J v es:=by
 obtain⟨ps,O,Y⟩:=h;exact⟨ps,O.below D,Y.mono λ_ _ h=>⟨BN.below h.1 D,h.2⟩⟩
theorem Nk.below{m i e:Φ}{k:AQ}(h:Nk w m i e c k)(D:Γ w w J):Nk J m i e c k:=⟨h.1.below D,h.2.1.below D,h.2.2.1.below D,h.2.2.2.below D⟩
end
def Dk(vs:List Φ):Prop:=∀(i j:Nat) u u',i≠j->vs[i]?=some u->vs[j]?=some u'->GH u u'
theorem Dk.nil:Dk []:=λi j u u' _ h=>by simp at h
theorem Dk.snoc{vs:List Φ}(h:Dk vs)(hv:∀u∈vs,GH u v):Dk (vs++[v]):=by
 intro i j u u' em E A;have O:=(yD.1 E).1;have Y:=(yD.1 A).1;simp at O Y
 by_cases hQ:i<vs.length
 .rw[xh hQ] at E
  by_cases ec:j<vs.length
  .rw[xh ec] at A
   exact h i j u u' em E A
  obtain rfl:j=vs.length:=ω;simp at A;subst A;exact hv u (yw E)
 obtain rfl:i=vs.length:=ω;simp at E;subst E;rw[xh ω] at A;exact(hv u' (yw A)).symm
def Ay(lo:Nat)(w:Ω)(v:Φ)(vs:List Φ)(cz:List (List Int)):Prop:=AP lo 29 1 Gs w v vs/\GY (AE lo w) vs cz/\Dk vs
def Dh(lo:Nat)(w:Ω)(v:Φ)(ps:List (Φ×Int))(es:List FF):Prop:=AP lo 81 2 FR w v ps/\GY (λp e=>AP lo 9 1 A0 w p.1 e.PQ/\p.2=e.root) ps es/\Dk (ps.map (·.1))
theorem Ay.rd (h:Ay lo w v vs cz):Bn w v cz:=⟨vs,h.1.rd,h.2.1.mono λ_ _ h=>AE.rd h⟩
variable{XX es:List FF}
theorem Dh.rd{ps:List (Φ×Int)}(h:Dh lo w v ps es):Gf w v es:=⟨ps,h.1.rd,h.2.1.mono λ_ _ h=>⟨h.1.rd,h.2⟩⟩
theorem Ay.below (h:Ay lo w v vs cz)(D:Γ w w J):Ay lo J v vs cz:=⟨h.1.below D,h.2.1.mono λ_ _ h=>AE.below h D,h.2.2⟩
theorem Dh.below{ps:List (Φ×Int)}(h:Dh lo w v ps es)(D:Γ w w J):Dh lo J v ps es:=⟨h.1.below D,h.2.1.mono λ_ _ h=>⟨h.1.below D,h.2⟩,h.2.2⟩
theorem Ay.lower (h:Ay lo w v vs cz)(hl:lo'<=lo):Ay lo' w v vs cz:=⟨h.1.lower hl,h.2.1.mono λ_ _ h=>BS h hl,h.2.2⟩
theorem Dh.lower{ps:List (Φ×Int)}(h:Dh lo w v ps es)(hl:lo'<=lo):Dh lo' w v ps es:=⟨h.1.lower hl,h.2.1.mono λ_ _ h=>⟨h.1.lower hl,h.2⟩,h.2.2⟩
theorem Cn{α:Type}(cs:α->List Φ)(w:Ω)(e sz:Nat):AP w e sz cs (w.alloc (.cells #[] e)) (.slice w 0 0) []:=CU w e sz
def Dy(lo:Nat)(w:Ω)(m i e c:Φ)(k:AQ):Prop:=
 (∃vs,Ay lo w m vs k.mem)/\AP lo 115 3 Au w i k.ZJ/\(∃ps,Dh lo w e ps k.XX)/\AP lo 125 4 AZ w c k.XU
theorem Dy.rd{m i e:Φ}{k:AQ}(h:Dy lo w m i e c k):Nk w m i e c k:=⟨h.1.choose_spec.rd,h.2.1.rd,h.2.2.1.choose_spec.rd,h.2.2.2.rd⟩
theorem Dy.below{m i e:Φ}{k:AQ}(h:Dy lo w m i e c k)(D:Γ w w J):Dy lo J m i e c k:=
 ⟨⟨_,h.1.choose_spec.below D⟩,h.2.1.below D,⟨_,h.2.2.1.choose_spec.below D⟩,h.2.2.2.below D⟩
theorem BB{xs:List Φ}(h:w.ownsRow lo e sz v n xs):∀g,v.ownBlock=some g->∃bw,w.heap[g]?=some (.cells bw e (0,0)):=by
 intro g Z
 rcases h.2 with⟨rfl,_⟩|⟨g',H,bw,rfl,_,hh,_⟩
 .simp[vI] at Z
 simp[vI] at Z
 subst Z;exact⟨bw,hh⟩
theorem BK{e' jp n':Nat}{xs jn:List Φ}(h:w.ownsRow lo e sz v n xs)(h':w.ownsRow lo' e' jp v' n' jn)(bb:e≠e'):GH v v':=by intro g Z cN;obtain⟨c1,O⟩:=BB h g Z;obtain⟨c2,Y⟩:=BB h' g cN;rw[O] at Y;simp at Y;exact bb Y.2
theorem AH{m i e:Φ}(h:w.heap[g]?=some (.cells #[m,i,e,c] t (0,0))):w.cell? g=some m/\w.cell? (g,1)=some i/\w.cell? (g,2)=some e/\w.cell? (g,3)=some c:=
 ⟨yx w g 0 _ _ _ h,yx w g 1 _ _ _ h,yx w g 2 _ _ _ h,yx w g 3 _ _ _ h⟩
theorem AK{cs:Array Φ}(h:w.heap[g]?=some (.cells cs t (0,0))):∀j,w.frozen? ⟨g,j,none⟩=false:=λj=>frozen_of_row w g j _ _ h
theorem AY{o:Obj}(h:w.heap[g]?=some o):g<w.heap.size:=(vZ.1 h).1
theorem AB{o:Obj}(h:w.heap[g]?=some o)(D:Γ w w J):J.heap[g]?=some o:=(D.block g (AY h)).trans h
theorem DP{m i e m' i' e' c':Φ}(h:w.heap[g]?=some (.cells #[m,i,e,c] t (0,0))):
 ((((w.setCell g m').setCell (g,1) i').setCell (g,2) e').setCell (g,3) c').heap[g]?=some (.cells #[m',i',e',c'] t (0,0)):=by
 have h0:=yA w g 0 _ t m' h;have O:=yA _ g 1 _ t i' h0;have Y:=yA _ g 2 _ t e' O;have h3:=yA _ g 3 _ t c' Y;simpa using h3
theorem DY{T:Nat}{xs:List Φ}{bw:Array Φ}{fr:Nat×Nat}(h:w.ownsRow lo e sz v n xs)(Z:w.grownBy J (some g))(D:w.heap[g]?=some (.cells bw T fr))(bb:e≠T:=by decide):J.ownsRow lo e sz v n xs:=by
 refine Av h Z ?_;cases hv:v.ownBlock with
 |none=>exact .inl rfl
 |some k=>
  refine .inr λhe=>?_
  simp only[Option.some.injEq] at he;subst he;obtain⟨c1,O⟩:=BB h k hv;rw[O] at D;simp at D;exact bb D.2.1
section
variable {w J:Ω} {lo g T:Nat} {v:Φ} {bw:Array Φ} {fr:Nat×Nat}
theorem AP.yV{α:Type}{e sz:Nat}{cs:α->List Φ}{xs:List α}(h:AP lo e sz cs w v xs)(Z:w.grownBy J (some g))(D:w.heap[g]?=some (.cells bw T fr))(bb:e≠T:=by decide):AP lo e sz cs J v xs:=DY h Z D bb
theorem Ay.yV(h:Ay lo w v vs cz)(Z:w.grownBy J (some g))(D:w.heap[g]?=some (.cells bw T fr))(O:29≠T:=by decide)(Y:3≠T:=by decide):Ay lo J v vs cz:=
 ⟨h.1.yV Z D O,h.2.1.mono λ_ _ h=>DY h Z D Y,h.2.2⟩
theorem Dh.yV{ps:List (Φ×Int)}{es:List FF}(h:Dh lo w v ps es)(Z:w.grownBy J (some g))(D:w.heap[g]?=some (.cells bw T fr))(O:81≠T:=by decide)(Y:9≠T:=by decide):Dh lo J v ps es:=
 ⟨h.1.yV Z D O,h.2.1.mono λ_ _ h=>⟨h.1.yV Z D Y,h.2⟩,h.2.2⟩
end
theorem Ay.kept{u:Φ}{xs:List Φ}(h:Ay lo w v vs cz)(Z:w.grownBy J u.ownBlock)(hu:w.ownsRow lo' e sz u n xs)(O:29≠e)(Y:3≠e):Ay lo J v vs cz:=
 ⟨Av h.1 Z (BK h.1 hu O).ne,h.2.1.mono λ_ _ h=>Av h Z (BK h hu Y).ne,h.2.2⟩
theorem At (w:Ω)(g j:Nat)(u:Φ):w.grownBy (w.setCell (g,j) u) (some g):=⟨rfl,rfl,rfl,χ,λk _ z=>heap_setCell_other w ⟨g,j,none⟩ k u (λe=>z (by simp[e]))⟩
theorem Ar (h:w0.grownBy w (some g))(j:Nat)(u:Φ):w0.grownBy (w.setCell (g,j) u) (some g):=AO h (At w g j u)
section
variable {P:Program}
theorem Nf{Q:Exit->Act->Ω->Prop}{a0:Act}{l:List Oper}(n:Nat)(hm:P.follows .mixedOrders=true)(hB:Ip l n=true)
 (hx:Nat)(hN:a0.tmps.size=hx)(hD:WN l n hx=true)(s:Nat)(row:Option Nat)(R:Nat->Φ->Ω->Prop)
 (bk:∀i,i<n->i≠s->∀v w J,w0.grownBy w row->w.grownBy J row->R i v w->R i v J)(f7:∀v w J,Γ w.heap.size w J->R s v w->R s v J)
 (a7:∀i,i<n->i≠s->∀o,l[i]?=some o->∀a w,dv (a.defers=a0.defers/\a.tmps.size=a0.tmps.size/\∀t,(∀i,i<n->Ae l i≠t)->a.tmps[t]?=a0.tmps[t]?)->
  dv (∀j,yk .any l.toArray i j=true->R j (a.tmps[Ae l j]?.getD Θ) w)->w0.grownBy w row->
  ∀hf:Act->Ω->Prop,dv (∀v J,R i v J->Γ w w J->hf (a.put o.dst v) J)->AT P l o a w hf Q)
 (fz:∀o,l[s]?=some o->∀a w,dv (a.defers=a0.defers/\a.tmps.size=a0.tmps.size/\∀t,(∀i,i<n->Ae l i≠t)->a.tmps[t]?=a0.tmps[t]?)->
  dv (∀j,yk .any l.toArray s j=true->R j (a.tmps[Ae l j]?.getD Θ) w)->Γ w0 w0 w->
  ∀hf:Act->Ω->Prop,dv (∀v J,R s v J->w.grownBy J row->hf (a.put o.dst v) J)->AT P l o a w hf Q)
 (a6:∀(vs:Nat->Φ) w,(∀i,i<n->R i (vs i) w)->w0.grownBy w row->wpList P l.toArray Q (l.drop n) {a0 with tmps:=Aj l (yL n) vs a0.tmps} w):
 (vY id l.toArray true).wp P Q a0 w0:=by
 refine Fk n hm hB hx hN hD R (λL w=>w0.grownBy w row/\(L s=false->Γ w0 w0 w)) ⟨AX (Ai (yN _ _) 1) _,λ_=>Ai (yN _ _) 1⟩ ?_ (λvs w O _ _ Y=>a6 vs w O Y.1);intro i E o ho a w Hb Hd L HL hG hf HK
 by_cases jb:i=s
 .subst jb
  exact fz o ho a w Hb Hd (hG.2 HL.1) hf (AA λv J O Y=>HK v J O ⟨AO hG.1 Y,λh=>by simp[Hh] at h⟩ (λj u A e8 _ h=>bk j e8 A u w J hG.1 Y h))
 exact a7 i E jb o ho a w Hb Hd hG.1 hf (AA λv J O Y=>HK v J O ⟨AO hG.1 (AX Y _),λh=>(hG.2 (Do h)).trans (Y.mono hG.1.size)⟩ (λj u A e8 _ h=>by
  by_cases ja:j=s
  .subst ja;exact f7 u w J Y h
  exact bk j e8 ja u w J hG.1 (AX Y _) h))
end
theorem dN{l:List Oper}{tmps:Array Φ}(hd:(l[g]?).bind (·.dst)=some d)(hv:tmps[d]?.getD Θ=Θ):yielded l.toArray tmps g=none:=by
 have h:(l.toArray[g]?).bind (·.dst)=some d:=by simpa using hd
 unfold yielded;rw[h,vH];cases N:tmps[d]? with
 |none=>rfl
 |some x=>rw[N] at hv;simp at hv;subst hv;rfl
variable{P:Program}
theorem AT.un{l:List Oper}{a:Act}{hf:Act->Ω->Prop}{Q:Exit->Act->Ω->Prop}{b:Bool}(Z:o.guard=some (g,b))(hd:(l[g]?).bind (·.dst)=some d)(hv:a.tmps[d]?.getD Θ=Θ)(h:hf (a.put o.dst Θ) w):AT P l o a w hf Q:=
 ⟨λhw=>by rw[xm,Z] at hw;simp only[dN hd hv] at hw;cases b<;>simp at hw,λ_=>h⟩
theorem Bu{row:Option Nat}{o:Nat}(h:w.grownBy J row)(D:b<w.heap.size)(bb:row≠some b):J.cell? (b,o)=w.cell? (b,o):=vW (h.block b D (λe=>bb e.symm))
def DD(l:List Oper)(is:List Nat)(vs:Nat->Φ)(b:Array Φ):Array Φ:=is.foldl (λb i=>match Bj l i with|some d=>b.setIfInBounds d (vs i)|none=>b) b
def Yv(l:List Oper)(hx:Nat):Bool:=
 ((yL l.length).all λi=>(yL l.length).all λj=>i==j||(Bj l i).isNone||Bj l i !=Bj l j)&&
 ((yL l.length).all λj=>match l[j]? with|some o=>o.after.all λe=>!ul .any e||decide (e.on<j)|none=>false)&&
 ((yL l.length).all λi=>match Bj l i with|some d=>decide (d<hx)|none=>true)
section
variable {P:Program}
theorem WR(l:List Oper):∀(is:List Nat)(b c:Array Φ),c.size=b.size->(∀t,(∀i,i∈is->Bj l i≠some t)->c[t]?=b[t]?)->c=DD l is (λi=>Ef l c i) b:=by
 intro is
 induction is with
 |nil=>intro b c hs h;exact sU λt=>h t (λi E=>by cases E)
 |cons i is ih=>
  intro b c hs h
  show c=DD l is _ (match Bj l i with|some d=>b.setIfInBounds d (Ef l c i)|none=>b)
  cases hd:Bj l i with
  |none=>
   exact ih b c hs λt ht=>h t λj A=>by
    rcases xH.1 A with rfl|A
    .rw[hd];exact(λe=>by cases e)
    exact ht j A
  |some d=>
   refine ih _ c (by simpa using hs) λt ht=>?_
   by_cases fy:d=t
   .subst fy
    have hv:Ef l c i=c[d]?.getD Θ:=by unfold Ef;rw[hd]
    show c[d]?=(b.setIfInBounds d (Ef l c i))[d]?
    rw[hv]
    rcases uC d c.size with h'|h'
    .have:d<b.size:=ω
     simp[h',this]
    have:b.size<=d:=ω;simp[h',this]
   show c[t]?=(b.setIfInBounds d (Ef l c i))[t]?
   rw[wB fy];exact h t λj A=>by
    rcases xH.1 A with rfl|A
    .rw[hd];exact λe=>fy (yP e)
    exact ht j A
theorem TW{Q:Exit->Act->Ω->Prop}{a0:Act}{l:List Oper}(n:Nat)(hm:P.follows .mixedOrders=true)
 (hx:Nat)(hN:a0.tmps.size=hx)(hB:Yv l hx=true)(hn:l.length=n)(S:Nat->Bool)(R:(Nat->Bool)->Nat->Φ->Ω->Prop)(G:(Nat->Bool)->Ω->Prop)
 (hG:G (λ_=>false) {w0 with drawn:=w0.drawn+1})
 (bk:∀j,j<n->∀L i v w J,i<n->S i=false->L i=false->L j=true->Γ w.heap.size w J->R L j v w->R (Hh L i) j v J)
 (ed:∀L i w J,i<n->S i=false->L i=false->Γ w.heap.size w J->G L w->G (Hh L i) J)
 (a7:∀i,i<n->S i=false->∀o,l[i]?=some o->∀a w,dv (a.defers=a0.defers/\a.tmps.size=a0.tmps.size/\∀t,(∀i,i<n->Bj l i≠some t)->a.tmps[t]?=a0.tmps[t]?)->
  ∀L:Nat->Bool,dv (∀j,L j=true->j<n->R L j (Ef l a.tmps j) w)->dv (L i=false/\(∀j,yk .any l.toArray i j=true->L j=true)/\∀j j',L j=true->yk .any l.toArray j j'=true->L j'=true)->G L w->
  ∀hf:Act->Ω->Prop,dv (∀v J,R (Hh L i) i (match o.dst with|some _=>v|none=>Θ) J->Γ w w J->hf (a.put o.dst v) J)->AT P l o a w hf Q)
 (d9:∀i,i<n->S i=true->∀o,l[i]?=some o->∀a w,dv (a.defers=a0.defers/\a.tmps.size=a0.tmps.size/\∀t,(∀i,i<n->Bj l i≠some t)->a.tmps[t]?=a0.tmps[t]?)->
  ∀L:Nat->Bool,dv (∀j,L j=true->j<n->R L j (Ef l a.tmps j) w)->dv (L i=false/\(∀j,yk .any l.toArray i j=true->L j=true)/\∀j j',L j=true->yk .any l.toArray j j'=true->L j'=true)->G L w->
  ∀hf:Act->Ω->Prop,dv (∀v J,R (Hh L i) i (match o.dst with|some _=>v|none=>Θ) J->G (Hh L i) J->(∀j,j≠i->j<n->L j=true->R L j (Ef l a.tmps j) w->R (Hh L i) j (Ef l a.tmps j) J)->hf (a.put o.dst v) J)->AT P l o a w hf Q)
 (a6:∀(vs:Nat->Φ) w,∀L:Nat->Bool,(∀i,i<n->L i=true)->(∀i,i<n->R L i (vs i) w)->G L w->wpList P l.toArray Q [] {a0 with tmps:=DD l (yL n) vs a0.tmps} w):
 (vY id l.toArray true).wp P Q a0 w0:=by
 subst hn;subst hN;have g2:=hB;simp only[Yv,yC] at g2;obtain⟨⟨gg,bP⟩,b5⟩:=g2;refine Mh hm (n:=l.length) (I:=λL vs w=>(∀i,i<l.length->L i=true->R L i (vs i) w)/\G L w) ⟨.inr rfl,λi j E A em=>?_,bP,λi E d hd=>?_⟩ (λvs=>⟨λi _ h=>(by cases h),hG⟩) (λi E o ho a w O Y h3 L h6 h7 h8 hI hf hK=>?_) (λa w O Y h3 L hL hI=>?_)
 .have:=ym.1 (ym.1 gg i (yh.2 E)) j (yh.2 A)
  simp only[xL,beq_iff_eq,em,false_or,bne_iff_ne,Option.isNone_iff_eq_none] at this;exact this
 .have:=ym.1 b5 i (yh.2 E)
  rw[hd] at this;simpa using this
 .have gr:∀{v J},R (Hh L i) i (match o.dst with|some _=>v|none=>Θ) J->(∀j,j≠i->j<l.length->L j=true->R L j (Ef l a.tmps j) w->R (Hh L i) j (Ef l a.tmps j) J)->∀cq:Nat->Φ,cq i=(match o.dst with|some _=>v|none=>Θ)->(∀j,j<l.length->j≠i->cq j=Ef l a.tmps j)->∀j,j<l.length->Hh L i j=true->R (Hh L i) j (cq j) J:=by
   intro v J hR z cq hv fv j A hl
   by_cases e:j=i
   .subst e
    rw[hv];exact hR
   have bt:L j=true:=by unfold Hh at hl;rwa [if_neg e] at hl
   rw[fv j A e];exact z j e A bt (hI.1 j A bt)
  cases hS:S i with
  |false=>exact a7 i E hS o ho a w (AA ⟨O,Y,h3⟩) L (AA λj A e8=>hI.1 j e8 A) (AA ⟨h6,λj A=>(h7 j A).1,h8⟩) hI.2 hf (AA λv J hR D=>hK v J λcq hv fv=>⟨gr hR (λj gl e8 hM hu=>bk j e8 L i _ w J E hS h6 hM D hu) cq hv fv,ed L i w J E hS h6 D hI.2⟩)
  |true=>exact d9 i E hS o ho a w (AA ⟨O,Y,h3⟩) L (AA λj A e8=>hI.1 j e8 A) (AA ⟨h6,λj A=>(h7 j A).1,h8⟩) hI.2 hf (AA λv J hR iH z=>hK v J λcq hv fv=>⟨gr hR z cq hv fv,iH⟩)
 have e:=WR l (yL l.length) a0.tmps a.tmps Y (λt ht=>h3 t λi E=>ht i (yh.2 E))
 have:=a6 (λi=>Ef l a.tmps i) w L hL (λi E=>hI.1 i E (hL i E)) hI.2;rw[<-e] at this;rw[List.drop_length];obtain⟨tm,df⟩:=a;dsimp only at O this;subst O;exact this
end
inductive Vx where
 |p (b o:Nat)
 |i (x:Int)
 |s (b n c:Nat)
 |b (x:Bool)
 |t (x:ByteArray)
 |v (x:Φ)
 |a (x:Array Φ)
 |u
 |z
def Vx.val:Vx->Option Φ
 | .p x y=>some (.pointer (some ⟨x,y,none⟩))
 | .i x=>some (.int .i64 x)
 | .s x y k=>some (.slice x y k)
 | .b x=>some (.bool x)
 | .t x=>some (.string x)
 | .v x=>some x
 | .a x=>some (.agg x)
 | .u=>some Θ
 | .z=>none
def El(L:List Vx)(i:Nat):Option Φ:=(L[i]?).bind Vx.val
def RV(L:List Vx)(R:Nat->Φ->Ω->Prop)(i:Nat)(v:Φ)(w:Ω):Prop:=
 match El L i with
 |some x=>v=x
 |none=>R i v w
variable{L:List Vx}
theorem RV.of{R:Nat->Φ->Ω->Prop}(h:El L i=some v):RV L R i v w:=by unfold RV;rw[h]
theorem RV.eq{R:Nat->Φ->Ω->Prop}{x:Φ}(h:RV L R i v w)(e:El L i=some x):v=x:=by unfold RV at h;rw[e] at h;exact h
theorem RV.mono{R:Nat->Φ->Ω->Prop}(hR:R i v w->R i v J)(h:RV L R i v w):RV L R i v J:=by
 unfold RV at h ⊢;cases e:El L i with
 |some x=>rw[e] at h;exact h
 |none=>rw[e] at h;exact hR h
def Vq(l:List Oper)(n t:Nat):Option Nat:=(yL n).find? λj=>Ae l j==t
def cf(l:List Oper)(n i:Nat)(L:List Vx)(a0 a:Act):Operand->Φ
 | .tmp t=>
  match Vq l n t with
  |some j=>
   match yk .any l.toArray i j with
   |true=>match El L j with
    |some x=>x
    |none=>a.eval (.tmp t)
   |false=>a.eval (.tmp t)
  |none=>a0.tmps[t]?.getD Θ
 |x=>a.eval x
def aG(l:List Oper)(n:Nat)(L:List Vx)(a0:Act):Operand->Φ
 | .tmp t=>
  match Vq l n t with
  |some j=>(El L j).getD Θ
  |none=>a0.tmps[t]?.getD Θ
 |_=>Θ
def Lv(l:List Oper)(i:Nat)(L:List Vx)(o:Oper):Option Bool:=
 match o.guard with
 |none=>some true
 |some (g,b)=>
  match yk .any l.toArray i g with
  |true=>
   match(l[g]?).bind (·.dst) with
   |some _=>
    match El L g with
    |some (.bool c)=>some (c==b)
    |some (.tuple _)=>some false
    |_=>none
   |none=>none
  |false=>none
section
variable {P:Program} {l:List Oper} {n i:Nat} {o o':Oper} {a a0:Act} {w:Ω} {hf:Act->Ω->Prop} {Q:Exit->Act->Ω->Prop} {L:List Vx} {R:Nat->Φ->Ω->Prop} {v:Φ}
theorem Sv(Hb:dv (a.defers=a0.defers/\a.tmps.size=a0.tmps.size/\∀t,(∀i,i<n->Ae l i≠t)->a.tmps[t]?=a0.tmps[t]?))(Hd:dv (∀j,yk .any l.toArray i j=true->RV L R j (a.tmps[Ae l j]?.getD Θ) w)):cf l n i L a0 a=a.eval:=by
 funext x
 cases x with
 |tmp t=>
  show(match Vq l n t with|some j=>_|none=>_)=_
  cases e:Vq l n t with
  |none=>
   simp only;have h:∀j,j<n->Ae l j≠t:=by intro j A Y;have:=sN.1 e j (yh.2 A);simp[Y] at this
   exact(Bs (by rw[Hb.2.2 t h])).symm
  |some j=>
   simp only;have Y:Ae l j=t:=by have:=r9 e;simpa using this
   cases e3:yk .any l.toArray i j with
   |false=>rfl
   |true=>
    simp only;cases e4:El L j with
    |none=>rfl
    |some y=>simp only;have:=(Hd j e3).eq e4;rw[Y] at this;exact(Bs this).symm
 |const v=>rfl
 |global g=>rfl
 |func f=>rfl
theorem LM{c:Bool}(Hd:dv (∀j,yk .any l.toArray i j=true->RV L R j (a.tmps[Ae l j]?.getD Θ) w))(h:Lv l i L o=some c):xm o (yielded l.toArray a.tmps)=c:=by
 unfold Lv at h;unfold xm;cases e:o.guard with
 |none=>rw[e] at h;simp only at h ⊢;exact yP h
 |some gb=>
  obtain⟨g,b⟩:=gb;rw[e] at h;simp only at h ⊢;cases e1:yk .any l.toArray i g with
  |false=>rw[e1] at h;cases h
  |true=>
   rw[e1] at h;simp only at h;cases e2:(l[g]?).bind (·.dst) with
   |none=>rw[e2] at h;cases h
   |some d=>
    rw[e2] at h;simp only at h;have hd:Ae l g=d:=by unfold Ae;rw[e2];rfl
    have Y:(l.toArray[g]?).bind (·.dst)=some d:=by simpa using e2
    cases e3:El L g with
    |none=>rw[e3] at h;cases h
    |some x=>
     have h3:=(Hd g e1).eq e3;rw[hd] at h3;rw[e3] at h;cases x with
     |bool c9=>have hv:=yP h;rw[PG e2 h3,<-hv];cases c9<;>cases b<;>rfl
     |tuple y=>
      have hv:=yP h;rw[<-hv];unfold yielded;rw[Y,vH];cases N:a.tmps[d]? with
      |none=>rfl
      |some y=>rw[N] at h3;simp only[sM] at h3;subst h3;rfl
     |_=>cases h
theorem sP(ho:l[i]?=some o)(HK:dv (∀v J,RV L R i v J->Γ w w J->hf (a.put o.dst v) J))(Hb:dv (a.defers=a0.defers/\a.tmps.size=a0.tmps.size/\∀t,(∀i,i<n->Ae l i≠t)->a.tmps[t]?=a0.tmps[t]?))(Hd:dv (∀j,yk .any l.toArray i j=true->RV L R j (a.tmps[Ae l j]?.getD Θ) w))
 (e:l[i]?=some o':=by rfl)(hv:El L i=some v:=by rfl)(hw:Lv l i L o'=some true:=by kernel_rfl)(hr:(execOp (cf l n i L a0 a) o').run P w=.ok (.value v) w:=by kernel_rfl):AT P l o a w hf Q:=
 dV ho e (LM Hd hw) HK (by rw[<-Sv Hb Hd];exact hr) (RV.of hv)
theorem sL{t:Nat}{x:Operand}{p:Φ}(ho:l[i]?=some o)(HK:dv (∀v J,RV L R i v J->Γ w w J->hf (a.put o.dst v) J))(Hb:dv (a.defers=a0.defers/\a.tmps.size=a0.tmps.size/\∀t,(∀i,i<n->Ae l i≠t)->a.tmps[t]?=a0.tmps[t]?))(Hd:dv (∀j,yk .any l.toArray i j=true->RV L R j (a.tmps[Ae l j]?.getD Θ) w))
 (e:l[i]?=some o':=by rfl)(d5:o'.op=.load t x:=by rfl)(hp:aG l n L a0 x=p:=by rfl)(hq:cf l n i L a0 a x=aG l n L a0 x:=by kernel_rfl)(hv:El L i=some v:=by rfl)(hw:Lv l i L o'=some true:=by kernel_rfl)(hl:(xJ t p).run P w=.ok v w):AT P l o a w hf Q:=
 dV ho e (LM Hd hw) HK (by rw[<-Sv Hb Hd];unfold execOp;rw[d5];simp only[hq.trans hp,vq,hl,wg];rfl) (RV.of hv)
theorem sB(ho:l[i]?=some o)(HK:dv (∀v J,RV L R i v J->Γ w w J->hf (a.put o.dst v) J))(Hd:dv (∀j,yk .any l.toArray i j=true->RV L R j (a.tmps[Ae l j]?.getD Θ) w))
 (e:l[i]?=some o':=by rfl)(hv:El L i=some Θ:=by rfl)(hw:Lv l i L o'=some false:=by kernel_rfl):AT P l o a w hf Q:=by
 obtain rfl:=yP (ho.symm.trans e);exact⟨λh=>absurd ((LM Hd hw).symm.trans h) ψ,λ_=>HK _ _ (RV.of hv) (yN _ _)⟩
theorem sC{F:FuncId}{vs:Array Φ}{Qc:Ending->Ω->Prop}(ho:l[i]?=some o)(HK:dv (∀v J,RV L R i v J->Γ w w J->hf (a.put o.dst v) J))(Hb:dv (a.defers=a0.defers/\a.tmps.size=a0.tmps.size/\∀t,(∀i,i<n->Ae l i≠t)->a.tmps[t]?=a0.tmps[t]?))(Hd:dv (∀j,yk .any l.toArray i j=true->RV L R j (a.tmps[Ae l j]?.getD Θ) w))
 (V:Ξ P F vs w Qc)(hq:∀e J,Qc e J->∃v,e=.returned v/\RV L R i v J/\Γ w w J)
 (e:l[i]?=some o':=by rfl)(hw:Lv l i L o'=some true:=by kernel_rfl)(hr:(execOp (cf l n i L a0 a) o').run P w=.ok (.enter F vs) w:=by kernel_rfl):AT P l o a w hf Q:=by
 obtain rfl:=yP (ho.symm.trans e);refine⟨λ_=>?_,λh=>absurd ((LM Hd hw).symm.trans h) ψ⟩;unfold vh;rw[<-Sv Hb Hd,hr,tG];refine V.mono ?_;intro x J h;obtain⟨v,rfl,O,Y⟩:=hq x J h;exact HK v J O Y
theorem sD{F:FuncId}{vs:Array Φ}(ho:l[i]?=some o)(HK:dv (∀v J,RV L R i v J->Γ w w J->hf (a.put o.dst v) J))(Hb:dv (a.defers=a0.defers/\a.tmps.size=a0.tmps.size/\∀t,(∀i,i<n->Ae l i≠t)->a.tmps[t]?=a0.tmps[t]?))(Hd:dv (∀j,yk .any l.toArray i j=true->RV L R j (a.tmps[Ae l j]?.getD Θ) w))
 (V:Ξ P F vs w λe J=>e=.returned v/\Γ w w J)(e:l[i]?=some o':=by rfl)(hv:El L i=some v:=by rfl)(hw:Lv l i L o'=some true:=by kernel_rfl)(hr:(execOp (cf l n i L a0 a) o').run P w=.ok (.enter F vs) w:=by kernel_rfl):AT P l o a w hf Q:=
 sC ho HK Hb Hd V (λ_ _ h=>⟨v,h.1,RV.of hv,h.2⟩) e hw hr
theorem sE{F:FuncId}{vs:Array Φ}(ho:l[i]?=some o)(HK:dv (∀v J,RV L R i v J->Γ w w J->hf (a.put o.dst v) J))(Hb:dv (a.defers=a0.defers/\a.tmps.size=a0.tmps.size/\∀t,(∀i,i<n->Ae l i≠t)->a.tmps[t]?=a0.tmps[t]?))(Hd:dv (∀j,yk .any l.toArray i j=true->RV L R j (a.tmps[Ae l j]?.getD Θ) w))
 (V:Ξ P F vs w λe J=>e=.returned v/\w=J)(e:l[i]?=some o':=by rfl)(hv:El L i=some v:=by rfl)(hw:Lv l i L o'=some true:=by kernel_rfl)(hr:(execOp (cf l n i L a0 a) o').run P w=.ok (.enter F vs) w:=by kernel_rfl):AT P l o a w hf Q:=
 sC ho HK Hb Hd V (λ_ _ h=>⟨v,h.1,RV.of hv,h.2▸yN _ _⟩) e hw hr
theorem sI{t b X ln cp:Nat}{x y:Operand}{j:Int}(ho:l[i]?=some o)(HK:dv (∀v J,RV L R i v J->Γ w w J->hf (a.put o.dst v) J))(Hb:dv (a.defers=a0.defers/\a.tmps.size=a0.tmps.size/\∀t,(∀i,i<n->Ae l i≠t)->a.tmps[t]?=a0.tmps[t]?))(Hd:dv (∀j,yk .any l.toArray i j=true->RV L R j (a.tmps[Ae l j]?.getD Θ) w))
 (e:l[i]?=some o':=by rfl)(d5:o'.op=.indexAddr t x y:=by rfl)(hp:aG l n L a0 x=.slice (some ⟨b,X,none⟩) ln cp:=by rfl)(hy:aG l n L a0 y=.int .i64 j:=by rfl)(jw:cf l n i L a0 a x=aG l n L a0 x:=by kernel_rfl)(jq:cf l n i L a0 a y=aG l n L a0 y:=by kernel_rfl)(hv:El L i=some v:=by rfl)(hw:Lv l i L o'=some true:=by kernel_rfl)(hr:(Instr.indexAt t (.slice (some ⟨b,X,none⟩) ln cp) (.int .i64 j)).run P w=.ok v w):AT P l o a w hf Q:=
 dV ho e (LM Hd hw) HK (by rw[<-Sv Hb Hd];unfold execOp;rw[d5];simp only[jw.trans hp,jq.trans hy,vq,hr,wg];rfl) (RV.of hv)
theorem Ac(n hx:Nat)(L:List Vx)(R:Nat->Φ->Ω->Prop)
 (a7:∀i,i<n->∀o,l[i]?=some o->∀a w,dv (a.defers=a0.defers/\a.tmps.size=a0.tmps.size/\∀t,(∀i,i<n->Ae l i≠t)->a.tmps[t]?=a0.tmps[t]?)->
  dv (∀j,yk .any l.toArray i j=true->RV L R j (a.tmps[Ae l j]?.getD Θ) w)->Γ w0 w0 w->
  ∀hf:Act->Ω->Prop,dv (∀v J,RV L R i v J->Γ w w J->hf (a.put o.dst v) J)->AT P l o a w hf Q)
 (a6:∀(vs:Nat->Φ) w,(∀i,i<n->RV L R i (vs i) w)->Γ w0 w0 w->wpList P l.toArray Q (l.drop n) {a0 with tmps:=Aj l (yL n) vs a0.tmps} w)
 (hm:P.follows .mixedOrders=true:=by kernel_rfl)(hB:Ip l n=true:=by kernel_rfl)(hN:a0.tmps.size=hx:=by rfl)(hD:WN l n hx=true:=by kernel_rfl)
 (bk:∀i,i<n->∀v w J,Γ w.heap.size w J->R i v w->R i v J:=by exact λ_ _ _ _ _ _ h=>h):(vY id l.toArray true).wp P Q a0 w0:=
 Mi n hm hB hx hN hD (RV L R) (λi E v w J D h=>RV.mono (bk i E v w J D) h) a7 a6
theorem BD(n hx:Nat)(L:List Vx)(R:Nat->Φ->Ω->Prop)
 (a7:∀i,i<n->∀o,l[i]?=some o->∀a w,dv (a.defers=a0.defers/\a.tmps.size=a0.tmps.size/\∀t,(∀i,i<n->Ae l i≠t)->a.tmps[t]?=a0.tmps[t]?)->
  dv (∀j,yk .any l.toArray i j=true->RV L R j (a.tmps[Ae l j]?.getD Θ) w)->Γ w0 w0 w->
  ∀hf:Act->Ω->Prop,dv (∀v J,RV L R i v J->Γ w w J->hf (a.put o.dst v) J)->AT P l o a w hf Q)
 (bk:∀i,i<n->∀v w J,Γ w.heap.size w J->R i v w->R i v J)
 (a6:∀(vs:Nat->Φ) w,(∀i,i<n->RV L R i (vs i) w)->Γ w0 w0 w->wpList P l.toArray Q (l.drop n) {a0 with tmps:=Aj l (yL n) vs a0.tmps} w)
 (hm:P.follows .mixedOrders=true:=by kernel_rfl)(hB:Ip l n=true:=by kernel_rfl)(hN:a0.tmps.size=hx:=by rfl)(hD:WN l n hx=true:=by kernel_rfl):(vY id l.toArray true).wp P Q a0 w0:=
 Mi n hm hB hx hN hD (RV L R) (λi E v w J D h=>RV.mono (bk i E v w J D) h) a7 a6
end
def RF(hc:List Vx)(R:(Nat->Bool)->Nat->Φ->Ω->Prop)(L:Nat->Bool)(i:Nat)(v:Φ)(w:Ω):Prop:=
 match El hc i with
 |some x=>v=x
 |none=>R L i v w
section
variable {P:Program} {l:List Oper} {n i:Nat} {o o':Oper} {a a0:Act} {w:Ω} {hf:Act->Ω->Prop} {Q:Exit->Act->Ω->Prop} {hc:List Vx} {R:(Nat->Bool)->Nat->Φ->Ω->Prop} {L:Nat->Bool} {v:Φ}
theorem RF.of(h:El hc i=some v):RF hc R L i v w:=by unfold RF;rw[h]
theorem RF.eq{x:Φ}(h:RF hc R L i v w)(e:El hc i=some x):v=x:=by unfold RF at h;rw[e] at h;exact h
theorem RF.mono{L':Nat->Bool}{J:Ω}(hR:R L i v w->R L' i v J)(h:RF hc R L i v w):RF hc R L' i v J:=by
 unfold RF at h ⊢;cases e:El hc i with
 |some x=>rw[e] at h;exact h
 |none=>rw[e] at h;exact hR h
def Y9(l:List Oper)(n t:Nat):Option Nat:=(yL n).find? λj=>Bj l j==some t
def YV(l:List Oper)(n i:Nat)(hc:List Vx)(a0 a:Act):Operand->Φ
 | .tmp t=>
  match Y9 l n t with
  |some j=>
   match yk .any l.toArray i j with
   |true=>match El hc j with
    |some x=>x
    |none=>a.eval (.tmp t)
   |false=>a.eval (.tmp t)
  |none=>a0.tmps[t]?.getD Θ
 |x=>a.eval x
def fe(l:List Oper)(n:Nat)(hc:List Vx)(a0:Act):Operand->Φ
 | .tmp t=>
  match Y9 l n t with
  |some j=>(El hc j).getD Θ
  |none=>a0.tmps[t]?.getD Θ
 |_=>Θ
def Qb(l:List Oper)(n i:Nat)(hc:List Vx)(o:Oper):Option Bool:=
 match o.guard with
 |none=>some true
 |some (g,b)=>
  match yk .any l.toArray i g&&decide (g<n) with
  |true=>
   match(l[g]?).bind (·.dst) with
   |some _=>
    match El hc g with
    |some (.bool c)=>some (c==b)
    |some (.tuple _)=>some false
    |_=>none
   |none=>none
  |false=>none
abbrev aY(l:List Oper)(n:Nat)(a0 a:Act):Prop:=a.defers=a0.defers/\a.tmps.size=a0.tmps.size/\∀t,(∀i,i<n->Bj l i≠some t)->a.tmps[t]?=a0.tmps[t]?
abbrev ZI(l:List Oper)(n:Nat)(hc:List Vx)(R:(Nat->Bool)->Nat->Φ->Ω->Prop)(L:Nat->Bool)(a:Act)(w:Ω):Prop:=∀j,L j=true->j<n->RF hc R L j (Ef l a.tmps j) w
abbrev Ys(l:List Oper)(i:Nat)(L:Nat->Bool):Prop:=L i=false/\(∀j,yk .any l.toArray i j=true->L j=true)/\∀j j',L j=true->yk .any l.toArray j j'=true->L j'=true
abbrev eU(hc:List Vx)(R:(Nat->Bool)->Nat->Φ->Ω->Prop)(L:Nat->Bool)(i:Nat)(o:Oper)(a:Act)(w:Ω)(hf:Act->Ω->Prop):Prop:=∀v J,RF hc R (Hh L i) i (match o.dst with|some _=>v|none=>Θ) J->Γ w w J->hf (a.put o.dst v) J
theorem Qu(Hb:dv (aY l n a0 a))(Hd:dv (ZI l n hc R L a w))(HL:dv (Ys l i L)):YV l n i hc a0 a=a.eval:=by
 funext x
 cases x with
 |tmp t=>
  show(match Y9 l n t with|some j=>_|none=>_)=_
  cases e:Y9 l n t with
  |none=>
   simp only;have h:∀j,j<n->Bj l j≠some t:=by intro j A Y;have:=sN.1 e j (yh.2 A);simp[Y] at this
   exact(Bs (by rw[Hb.2.2 t h])).symm
  |some j=>
   simp only;have Y:Bj l j=some t:=by have:=r9 e;simpa using this
   have A:j<n:=yh.1 (List.mem_of_find?_eq_some e);cases e3:yk .any l.toArray i j with
   |false=>rfl
   |true=>
    simp only;cases e4:El hc j with
    |none=>rfl
    |some y=>simp only;have:=(Hd j (HL.2.1 j e3) A).eq e4;unfold Ef at this;rw[Y] at this;exact(Bs this).symm
 |const v=>rfl
 |global g=>rfl
 |func f=>rfl
theorem PC{c:Bool}(Hd:dv (ZI l n hc R L a w))(HL:dv (Ys l i L))(h:Qb l n i hc o=some c):xm o (yielded l.toArray a.tmps)=c:=by
 unfold Qb at h;unfold xm;cases e:o.guard with
 |none=>rw[e] at h;simp only at h ⊢;exact yP h
 |some gb=>
  obtain⟨g,b⟩:=gb;rw[e] at h;simp only at h ⊢;cases e1:(yk .any l.toArray i g&&decide (g<n)) with
  |false=>rw[e1] at h;cases h
  |true=>
   rw[e1] at h;simp only at h;obtain⟨e5,e6⟩:=Bool.and_eq_true_iff.1 e1;have e6:=of_decide_eq_true e6;cases e2:(l[g]?).bind (·.dst) with
   |none=>rw[e2] at h;cases h
   |some d=>
    rw[e2] at h;simp only at h;have Y:(l.toArray[g]?).bind (·.dst)=some d:=by simpa using e2
    cases e3:El hc g with
    |none=>rw[e3] at h;cases h
    |some x=>
     have h3:=(Hd g (HL.2.1 g e5) e6).eq e3;unfold Ef at h3;rw[show Bj l g=some d from e2] at h3;simp only at h3;rw[e3] at h;cases x with
     |bool c9=>have hv:=yP h;rw[PG e2 h3,<-hv];cases c9<;>cases b<;>rfl
     |tuple y=>
      have hv:=yP h;rw[<-hv];unfold yielded;rw[Y,vH];cases N:a.tmps[d]? with
      |none=>rfl
      |some y=>rw[N] at h3;simp only[sM] at h3;subst h3;rfl
     |_=>cases h
theorem gH(ho:l[i]?=some o)(e:l[i]?=some o')(hw:xm o' (yielded l.toArray a.tmps)=true)(HK:dv (eU hc R L i o a w hf))(hv:El hc i=some v)(hd:o'.dst.isSome=true)(hr:(execOp a.eval o').run P w=.ok (.value v) w):AT P l o a w hf Q:=by
 obtain rfl:=yP (ho.symm.trans e);refine⟨λ_=>?_,λh=>by rw[hw] at h;cases h⟩;unfold vh;rw[hr,Oper.upon_value];obtain⟨d,Y⟩:=vj.1 hd;exact HK _ _ (by rw[Y];exact RF.of hv) (yN _ _)
theorem Tj(ho:l[i]?=some o)(HK:dv (eU hc R L i o a w hf))(Hb:dv (aY l n a0 a))(Hd:dv (ZI l n hc R L a w))(HL:dv (Ys l i L))
 (e:l[i]?=some o':=by rfl)(hd:o'.dst.isSome=true:=by rfl)(hv:El hc i=some v:=by rfl)(hw:Qb l n i hc o'=some true:=by kernel_rfl)(hr:(execOp (YV l n i hc a0 a) o').run P w=.ok (.value v) w:=by kernel_rfl):AT P l o a w hf Q:=
 gH ho e (PC Hd HL hw) HK hv hd (by rw[<-Qu Hb Hd HL];exact hr)
theorem Kf{x:Operand}{p:Φ}(ho:l[i]?=some o)(HK:dv (eU hc R L i o a w hf))(Hb:dv (aY l n a0 a))(Hd:dv (ZI l n hc R L a w))(HL:dv (Ys l i L))
 (e:l[i]?=some o':=by rfl)(hd:o'.dst.isSome=true:=by rfl)(d5:o'.op=.load t x:=by rfl)(hp:fe l n hc a0 x=p:=by rfl)(hq:YV l n i hc a0 a x=fe l n hc a0 x:=by kernel_rfl)(hv:El hc i=some v:=by rfl)(hw:Qb l n i hc o'=some true:=by kernel_rfl)(hl:(xJ t p).run P w=.ok v w):AT P l o a w hf Q:=
 gH ho e (PC Hd HL hw) HK hv hd (by rw[<-Qu Hb Hd HL];unfold execOp;rw[d5];simp only[hq.trans hp,vq,hl,wg];rfl)
theorem ey{F:FuncId}{vs:Array Φ}{Qc:Ending->Ω->Prop}(ho:l[i]?=some o)(HK:dv (eU hc R L i o a w hf))(Hb:dv (aY l n a0 a))(Hd:dv (ZI l n hc R L a w))(HL:dv (Ys l i L))
 (V:Ξ P F vs w Qc)(hq:∀e J,Qc e J->∃v,e=.returned v/\RF hc R (Hh L i) i v J/\Γ w w J)
 (e:l[i]?=some o':=by rfl)(hd:o'.dst.isSome=true:=by rfl)(hw:Qb l n i hc o'=some true:=by kernel_rfl)(hr:(execOp (YV l n i hc a0 a) o').run P w=.ok (.enter F vs) w:=by kernel_rfl):AT P l o a w hf Q:=by
 obtain rfl:=yP (ho.symm.trans e);refine⟨λ_=>?_,λh=>absurd ((PC Hd HL hw).symm.trans h) ψ⟩;unfold vh;rw[<-Qu Hb Hd HL,hr,tG];refine V.mono ?_;intro x J h;obtain⟨v,rfl,O,Y⟩:=hq x J h;obtain⟨d,h3⟩:=vj.1 hd;exact HK v J (by rw[h3];exact O) Y
theorem gG{F:FuncId}{vs:Array Φ}(ho:l[i]?=some o)(HK:dv (eU hc R L i o a w hf))(Hb:dv (aY l n a0 a))(Hd:dv (ZI l n hc R L a w))(HL:dv (Ys l i L))
 (V:Ξ P F vs w λe J=>e=.returned v/\Γ w w J)(e:l[i]?=some o':=by rfl)(hd:o'.dst.isSome=true:=by rfl)(hv:El hc i=some v:=by rfl)(hw:Qb l n i hc o'=some true:=by kernel_rfl)(hr:(execOp (YV l n i hc a0 a) o').run P w=.ok (.enter F vs) w:=by kernel_rfl):AT P l o a w hf Q:=
 ey ho HK Hb Hd HL V (λ_ _ h=>⟨v,h.1,RF.of hv,h.2⟩) e hd hw hr
theorem A6(ai:dv (Ys l i L))(k:Nat)(h:yk .any l.toArray k i=true:=by kernel_rfl):L k=false:=by
 cases N:L k with
 |false=>rfl
 |true=>exact absurd (ai.2.2 k i N h) (by rw[ai.1];decide)
theorem Cv(n hx:Nat)(S:Nat->Bool)(hc:List Vx)(R:(Nat->Bool)->Nat->Φ->Ω->Prop)(G:(Nat->Bool)->Ω->Prop)
 (hG:G (λ_=>false) {w0 with drawn:=w0.drawn+1})
 (bk:∀j,j<n->∀L i v w J,i<n->S i=false->L i=false->L j=true->Γ w.heap.size w J->R L j v w->R (Hh L i) j v J)
 (ed:∀L i w J,i<n->S i=false->L i=false->Γ w.heap.size w J->G L w->G (Hh L i) J)
 (a7:∀i,i<n->S i=false->∀o,l[i]?=some o->∀a w,dv (aY l n a0 a)->∀L:Nat->Bool,dv (ZI l n hc R L a w)->dv (Ys l i L)->G L w->∀hf:Act->Ω->Prop,dv (eU hc R L i o a w hf)->AT P l o a w hf Q)
 (d9:∀i,i<n->S i=true->∀o,l[i]?=some o->∀a w,dv (aY l n a0 a)->∀L:Nat->Bool,dv (ZI l n hc R L a w)->dv (Ys l i L)->G L w->
  ∀hf:Act->Ω->Prop,dv (∀v J,RF hc R (Hh L i) i (match o.dst with|some _=>v|none=>Θ) J->G (Hh L i) J->(∀j,j≠i->j<n->L j=true->RF hc R L j (Ef l a.tmps j) w->RF hc R (Hh L i) j (Ef l a.tmps j) J)->hf (a.put o.dst v) J)->AT P l o a w hf Q)
 (a6:∀(vs:Nat->Φ) w,∀L:Nat->Bool,(∀i,i<n->L i=true)->(∀i,i<n->RF hc R L i (vs i) w)->G L w->wpList P l.toArray Q [] {a0 with tmps:=DD l (yL n) vs a0.tmps} w)
 (hm:P.follows .mixedOrders=true:=by kernel_rfl)(hN:a0.tmps.size=hx:=by rfl)(hB:Yv l hx=true:=by kernel_rfl)(hn:l.length=n:=by rfl):(vY id l.toArray true).wp P Q a0 w0:=
 TW n hm hx hN hB hn S (RF hc R) G hG (λj A L i v w J O Y h3 h4 D h=>RF.mono (bk j A L i v w J O Y h3 h4 D) h) ed a7 d9 a6
end
section
variable {α:Type}
theorem A9{l:List α}{i:Nat}{d:α}(h:i<l.length):l[i]?=some (l.getD i d):=by simp[h]
theorem Dl{l:List α}{i:Nat}{d:α}(h:i<l.length):l.getD i d∈l:=yw (A9 h)
theorem Im{l:List α}{x d:α}(h:x∈l):∃i,i<l.length/\l.getD i d=x:=by obtain⟨i,E,rfl⟩:=xl h;exact⟨i,E,by simp[E]⟩
theorem KP{l:List α}{i j:Nat}{x d:α}:(l.set i x).getD j d=if j=i/\i<l.length then x else l.getD j d:=by
 simp only[yd,vE]
 by_cases h:i=j
 .subst h
  by_cases Y:i<l.length
  .simp[Y]
  simp[Y]
 have h':¬j=i:=λe=>h e.symm
 simp[h,h']
theorem DU{l:List α}{i:Nat}{f:α->α}:(An l i f).length=l.length:=by
 unfold An
 split<;>simp
theorem Nt{l:List α}{i j:Nat}{f:α->α}{d:α}:(An l i f).getD j d=if j=i/\i<l.length then f (l.getD i d) else l.getD j d:=by
 unfold An
 split
 .rename_i x N
  have E:=(yD.1 N).1;rw[KP];have:l.getD i d=x:=by simp[N]
  rw[this]
 rename_i N
 have E:¬i<l.length:=by simpa using N
 simp[E]
theorem J8{l:List α}{i:Nat}{f:α->α}{d:α}:An l i f=l.set i (f (l.getD i d)):=by
 unfold An
 split
 .rename_i x N
  simp[N]
 rename_i N
 have E:l.length<=i:=by simpa using N
 rw[vd E]
theorem M6{n:Nat}{p:Nat->Bool}:(yL n).all p=true↔∀i,i<n->p i=true:=by simp[ym]
theorem LU{l:List α}{p:α->Bool}:l.any p=true↔∃x∈l,p x=true:=χ
end
theorem LI{G:Nat->Nat}(h:∀t,t<n->F t=G t):((yL n).map F).sum=((yL n).map G).sum:=by
 induction n with
 |zero=>rfl
 |succ n ih=>rw[xj,xM,xM,wW,wW,ih (λt ht=>h t ω)];simp[h n ω]
theorem ND{G:Nat->Nat}(K:f<n)(h:∀t,t<n->t≠f->F t=G t):((yL n).map F).sum+G f=((yL n).map G).sum+F f:=by
 induction n with
 |zero=>omega
 |succ n ih=>
  rw[xj,xM,xM,wW,wW];simp only[vF,uV,uq,ug,xT]
  by_cases hn:f=n
  .subst hn
   rw[LI (λt ht=>h t ω ω)];omega
  have:=ih ω (λt ht bb=>h t ω bb)
  have:=h n ω ω;omega
theorem Md:((yL n).map F).sum=0↔∀t,t<n->F t=0:=by
 induction n with
 |zero=>simp
 |succ n ih=>
  rw[xj,xM,wW];simp only[vF,uV,uq,ug,xT];constructor
  .intro h t ht
   by_cases e:t=n
   .subst e;omega
   exact ih.1 ω t ω
  intro h
  rw[ih.2 (λt ht=>h t ω),h n ω]
theorem fJ{c:Nat}(h:∀t,t<n->F t<=c):((yL n).map F).sum<=c*n:=by
 induction n with
 |zero=>simp
 |succ n ih=>rw[xj,xM,wW,Nat.mul_succ];simp only[vF,uV,uq,ug,xT];have:=ih (λt ht=>h t ω);have:=h n ω;omega
theorem Yj{c:Nat}(Z:g<n)(h:∀t,t<n->F t<=c)(h0:F g=0):((yL n).map F).sum+c<=c*n:=by
 have O:=ND (F:=F) (G:=λt=>if t=g then c else F t) Z (λt ht bb=>by simp[bb]);have Y:=fJ (F:=λt=>if t=g then c else F t) (n:=n) (c:=c) (λt ht=>by
  by_cases e:t=g
  .simp[e]
  simp only[e,if_false];exact h t ht)
 simp only[if_true,h0] at O;omega
theorem Eh{w:Int}(h:Bx w=true):BQ w<12:=by simp only[Bx,yC,decide_eq_true_eq] at h;unfold BQ;omega
theorem GC{r:List Int}:g∈named r↔∃w∈r,Bx w=true/\BQ w=g:=by simp[named,and_assoc]
theorem F9 (h:g∈named r):g<12:=by obtain⟨w,_,hw,rfl⟩:=GC.1 h;exact Eh hw
def EP(g:Nat)(w:Int):Bool:=Bx w&&decide (BQ w=g)
theorem Kh:(named r).count g=r.countP (EP g):=by
 unfold named
 induction r with
 |nil=>rfl
 |cons w r ih=>
  rw[List.filter_cons];cases hw:Bx w
  .rw[if_neg χ,ih,xE]
   simp[EP,hw]
  rw[if_pos rfl,vF,rZ,ih,xE]
  by_cases h:BQ w=g<;>simp[EP,hw,h]
theorem Fi:(named r).length<=r.length:=by unfold named;rw[uJ];exact xG _ _
def Eg(b:Bool):Nat:=if b then 1 else 0
theorem WI{p:Int->Bool}{w:Int}(D:b<r.length):(r.set b w).countP p+Eg (p (r.getD b 0))=r.countP p+Eg (p w):=by
 induction r generalizing b with
 |nil=>simp at D
 |cons x r ih=>
  cases b with
  |zero=>simp only[sK,xE,sT,Eg];omega
  |succ b=>simp only[sJ,xE,sS];have:=ih (b:=b) (by simpa using D);omega
theorem Zx{w:Int}(D:b<r.length):(named (r.set b w)).count g+Eg (EP g (r.getD b 0))=(named r).count g+Eg (EP g w):=by rw[Kh,Kh];exact WI D
theorem Tr{w:Int}(h:g∈named (r.set b w)):g∈named r∨(Bx w=true/\BQ w=g):=by
 obtain⟨x,N,O,Y⟩:=GC.1 h
 rcases vU N with N|rfl
 .exact .inl (GC.2 ⟨x,N,O,Y⟩)
 exact .inr ⟨O,Y⟩
theorem EC:f∈Bi m root↔0<=root/\(f=root.toNat∨f∈named (AJ m root.toNat)∨∃t,t∈named (AJ m root.toNat)/\f∈named (AJ m t)):=by
 unfold Bi
 split
 .simp;omega
 simp;omega
variable{m':List (List Int)}
theorem QU (h0:0<=root->AJ m' root.toNat=AJ m root.toNat)(O:0<=root->∀t,t∈named (AJ m root.toNat)->AJ m' t=AJ m t)(f:Nat):f∈Bi m' root↔f∈Bi m root:=by
 rw[EC,EC]
 by_cases hr:0<=root
 .rw[h0 hr]
  simp only[hr,true_and];refine or_congr Iff.rfl (or_congr Iff.rfl (exists_congr λt=>?_));constructor
  .rintro⟨a,b⟩;exact⟨a,by rw[<-O hr t a];exact b⟩
  rintro⟨a,b⟩;exact⟨a,by rw[O hr t a];exact b⟩
 simp[hr]
variable{ZJ:List AW}
variable{PQ:List ByteArray}
theorem Gl:BO ZJ fs PQ=true↔∀f,f∈fs->Ci PQ (JK ZJ f).g=true:=by simp[BO,ym]
theorem TU{root a:Nat}(h0:AJ m' root=AJ m root)(O:∀t,t∈named (AJ m root)->AJ m' t=AJ m t):Cd m' root a=Cd m root a:=by
 have e0:Aw m' root (a/16)=Aw m root (a/16):=by unfold Aw;rw[h0]
 unfold Cd;rw[e0]
 split
 .rename_i Z
  have hm:BQ (Aw m root (a/16))∈named (AJ m root):=by
   refine GC.2 ⟨_,?_,Z,rfl⟩;unfold Aw at Z ⊢
   by_cases hl:a/16<(AJ m root).length
   .exact Dl hl
   have:(AJ m root).getD (a/16) 0=0:=by simp at hl;simp[hl]
   rw[this] at Z;simp[Bx] at Z
  have e1:Aw m' (BQ (Aw m root (a/16))) (a/4%4)=Aw m (BQ (Aw m root (a/16))) (a/4%4):=by unfold Aw;unfold Aw at hm;rw[O _ hm]
  rw[e1]
 rfl
theorem KY (Z:Bx (Aw m f i)=true):BQ (Aw m f i)∈named (AJ m f):=by
 refine GC.2 ⟨_,?_,Z,rfl⟩;unfold Aw at Z ⊢
 by_cases hl:i<(AJ m f).length
 .exact Dl hl
 have:(AJ m f).getD i 0=0:=by simp at hl;simp[hl]
 rw[this] at Z;simp[Bx] at Z
theorem BG{r:List Int}:EW r=true↔r.length=4/\∀w∈r,0<=w/\w<=9999:=by simp only[EW,yC,ym,decide_eq_true_eq,EJ,Aa];exact And.comm
theorem Ak:CJ m=true↔m.length=12/\∀f,f<12->EW (AJ m f)=true:=by
 simp only[CJ,yC,ym,decide_eq_true_eq];constructor
 .rintro⟨O,Y⟩
  exact⟨Y,λf K=>O _ (Dl ω)⟩
 rintro⟨O,Y⟩
 refine⟨λr hr=>?_,O⟩;obtain⟨i,E,rfl⟩:=Im (d:=[]) hr;exact Y i ω
theorem UW (h:CJ m=true)(hr:EW r=true):CJ (m.set f r)=true:=by
 rw[Ak] at h ⊢;refine⟨by rw[yi];exact h.1,λg Z=>?_⟩;unfold AJ;rw[KP]
 split
 .exact hr
 exact h.2 g Z
theorem Pu:AJ (m.set f r) g=if g=f/\f<m.length then r else AJ m g:=by unfold AJ;exact KP
theorem Ia{w:Int}:AJ (Cs m f i w) g=if g=f/\f<m.length then(AJ m f).set i w else AJ m g:=by unfold Cs AJ;exact Nt
theorem Ou{w:Int}:Cs m f i w=m.set f ((AJ m f).set i w):=J8
theorem Um{w:Int}(h:EW r=true)(hw:EJ w=true):EW (r.set i w)=true:=by
 rw[BG] at h ⊢;refine⟨by rw[yi];exact h.1,λx N=>?_⟩
 rcases vU N with N|rfl
 .exact h.2 x N
 exact Aa.1 hw
theorem Yy:∀(x y:List UInt8),wH x y=decide (x<y)
 | [],[]=>by simp[wH]
 |_::_,[]=>by simp[wH]
 | [],_::_=>by simp[wH]
 |a::x,b::y=>by
  rw[wH,Yy x y]
  by_cases O:a<b
  .simp[O,uM]
  by_cases Y:a=b
  .subst Y;simp[uM]
  simp[O,Y,uM]
def OE(a b:ByteArray):Bool:=wH a.toList b.toList
theorem Lf{a b:ByteArray}:OE a b=true↔a.toList<b.toList:=by simp[OE,Yy]
theorem Np{a b:ByteArray}:OD a b=!OE a b:=rfl
theorem Pm{a b c:ByteArray}(O:OE a b=true)(Y:OE b c=true):OE a c=true:=Lf.2 (List.lt_trans (Lf.1 O) (Lf.1 Y))
theorem toList_inj{a b:ByteArray}(h:a.toList=b.toList):a=b:=by have ha:a.toList=a.data.toList:=xI a;have D:b.toList=b.data.toList:=xI b;rw[ha,D] at h;cases a;cases b;simp at h;rw[h]
theorem YH{a b:ByteArray}(h:OE a b=false)(bb:a≠b):OE b a=true:=by
 rw[Lf];have O:¬a.toList<b.toList:=by rw[<-Lf];simp[h]
 have Y:a.toList≠b.toList:=λe=>bb (toList_inj e)
 have h3:b.toList<=a.toList:=List.not_lt.1 O
 rcases List.le_iff_lt_or_eq.1 h3 with h|h
 .exact h
 exact absurd h.symm Y
theorem Ew{ss:List ByteArray}:BY ss=true↔(∀s∈ss,BT s=true)/\ss.Pairwise (λa b=>OE a b=true)/\ss.length<=6:=by
 unfold BY;simp only[yC,decide_eq_true_eq,M6,DO,xL,Np,Bool.not_not];constructor
 .rintro⟨h,hl⟩
  refine⟨λs hs=>?_,?_,hl⟩
  .obtain⟨i,E,rfl⟩:=Im (d:=⟨#[]⟩) hs
   exact(h i E).1
  rw[wO]
  have ei:∀d i,i+1+d<ss.length->OE (Cz ss i) (Cz ss (i+1+d))=true:=by
   intro d
   induction d with
   |zero=>
    intro i E
    rcases(h (i+1) ω).2 with h'|h'
    .omega
    simpa using h'
   |succ d ih=>
    intro i E;have O:=ih i ω
    rcases(h (i+1+(d+1)) ω).2 with h'|h'
    .omega
    refine Pm O ?_
    have e:i+1+(d+1) - 1=i+1+d:=ω;rw[e] at h';exact h'
  intro i j E A em;have:=ei (j - i - 1) i ω;have e:i+1+(j - i - 1)=j:=ω
  rw[e] at this;simpa[Cz,E,A] using this
 rintro⟨O,Y,h3⟩
 refine⟨λi E=>⟨O _ (Dl E),?_⟩,h3⟩
 by_cases h0:i=0
 .exact .inl h0
 right
 rw[wO] at Y;have:=Y (i - 1) i ω E ω;simpa[Cz,E,(ω:i - 1<ss.length)] using this
theorem OM{x:ByteArray}:x∈Rb ss s↔x=s∨x∈ss:=by
 unfold Rb;have e:=xB (p:=λx=>!OD x s) (l:=ss);constructor
 .intro h
  rcases wI.1 h with h|h
  .right;rw[<-e];exact tf _ h
  rcases xH.1 h with h|h
  .exact .inl h
  right;rw[<-e];exact uL _ h
 rintro(rfl|h)
 .simp
 rw[<-e] at h
 rcases wI.1 h with h|h
 .exact tf _ h
 exact uL _ (uI _ h)
theorem MQ{p:ByteArray->Bool}{l:List ByteArray}{x:ByteArray}(h:x∈l.takeWhile p):p x=true:=by
 induction l with
 |nil=>simp at h
 |cons y l ih=>
  rw[uv] at h
  split at h
  .rename_i hy
   rcases xH.1 h with rfl|h
   .exact hy
   exact ih h
  simp at h
theorem dZ (h:BY ss=true)(hs:BT s=true)(hn:s∉ss)(hl:ss.length≠6):BY (Rb ss s)=true:=by
 rw[Ew] at h ⊢;obtain⟨O,Y,h3⟩:=h;have e:=xB (p:=λx=>!OD x s) (l:=ss);refine⟨λx N=>?_,?_,?_⟩
 .rcases OM.1 N with rfl|N
  .exact hs
  exact O x N
 .unfold Rb
  rw[<-e] at Y;rw[td] at Y ⊢;obtain⟨p1,p2,p3⟩:=Y;have fn:∀y∈ss.dropWhile (λx=>!OD x s),OE s y=true:=by
   generalize hd:ss.dropWhile (λx=>!OD x s)=l at p2;cases l with
   |nil=>simp
   |cons y l=>
    have js:(!OD y s)=false:=by
     have:=List.head?_dropWhile_not (λx=>!OD x s) ss;rw[hd] at this;simpa using this
    have jr:y∈ss:=by rw[<-e,hd];exact uL _ (vR ..)
    have hy:OE s y=true:=YH (by simpa[Np] using js) (λe=>hn (e▸jr));intro hk hz
    rcases xH.1 hz with rfl|hz
    .exact hy
    exact Pm hy ((sH.1 p2).1 hk hz)
  refine⟨p1,sH.2 ⟨fn,p2⟩,λa ha b D=>?_⟩;have jO:OE a s=true:=by simpa[Np] using MQ ha
  rcases xH.1 D with rfl|D
  .exact jO
  exact p3 a ha b D
 have:(Rb ss s).length=ss.length+1:=by
  unfold Rb;rw[yz,vV];have:=congrArg List.length e;rw[yz] at this;omega
 omega
theorem ZV{p:ByteArray->Bool}(h:BY ss=true):BY (ss.filter p)=true:=by
 rw[Ew] at h ⊢;exact⟨λs hs=>h.1 s (wQ.1 hs).1,h.2.1.filter _,yM (xG _ _) h.2.2⟩
theorem Il{g:ByteArray}:Ci PQ g=true↔∃s∈PQ,L3 s g=true:=by simp[Ci]
theorem Zv{r r':List ByteArray}{g:ByteArray}(h:∀s∈r,s∈r')(hm:Ci r g=true):Ci r' g=true:=by obtain⟨s,hs,V⟩:=Il.1 hm;exact Il.2 ⟨s,h s hs,V⟩
theorem cK (g:ByteArray):Ci [⟨#[]⟩] g=true:=by refine Il.2 ⟨_,vR ..,?_⟩;simp[L3]
theorem bH (h:BY ss=true)(hs:BT s=true):BY (BW ss s).1=true:=by
 unfold BW
 split
 .exact h
 rename_i hn
 split
 .exact h
 rename_i hl
 exact dZ h hs (λhm=>hn (LU.2 ⟨s,hm,χ⟩)) hl
theorem bG{x:ByteArray}(N:x∈ss):x∈(BW ss s).1:=by
 unfold BW
 split
 .exact N
 split
 .exact N
 exact OM.2 (.inr N)
theorem FB{c:List Ag}:Bl c=true↔(∀x∈c,Cc x=true)/\c.Pairwise (λx y=>BR y.e y.p x=false)/\c.length<=4:=by
 unfold Bl;simp only[yC,decide_eq_true_eq,M6,DV,uf,vi];constructor
 .rintro⟨h,hl⟩
  refine⟨λx N=>?_,?_,hl⟩
  .obtain⟨i,E,rfl⟩:=Im (d:=⟨0,0,0,false⟩) N
   exact(h i E).1
  rw[wO]
  intro i j E A em;have Y:=(h j A).2 c[i] (tF.2 ⟨i,ω,rfl⟩);have e:AU c j=c[j]:=by simp[AU,A]
  rw[e] at Y;simpa using Y
 rintro⟨O,Y,h3⟩
 refine⟨λi E=>⟨O _ (Dl E),λx N=>?_⟩,h3⟩;obtain⟨j,A,rfl⟩:=tF.1 N;rw[wO] at Y;have:=Y j i ω E ω;have e:AU c i=c[i]:=by simp[AU,E]
 rw[e];simp[this]
theorem WL{c:List Ag}{e:Int}(h:Bl c=true):Bl (Gb c e)=true:=by
 rw[FB] at h ⊢;unfold Gb;exact⟨λs hs=>h.1 s (wQ.1 hs).1,h.2.1.filter _,yM (xG _ _) h.2.2⟩
theorem UJ{c:List Ag}{e:Int}{x:Ag}:x∈Gb c e↔x∈c/\x.e≠e:=by simp[Gb]
theorem WM{c:List Ag}{es:List Nat}(h:Bl c=true):Bl (es.foldl (λc e=>Gb c (e:Nat)) c)=true:=by
 induction es generalizing c with
 |nil=>exact h
 |cons e es ih=>exact ih (WL h)
theorem ZU{c:List Ag}{es:List Nat}{x:Ag}:x∈es.foldl (λc e=>Gb c (e:Nat)) c↔x∈c/\∀e∈es,x.e≠(e:Int):=by
 induction es generalizing c with
 |nil=>simp
 |cons e es ih=>rw[yJ,ih,UJ];simp[and_assoc]
theorem Wz{c:List Ag}{x y:Ag}(h:y∈Jo c x):y=x∨y∈c:=by
 unfold Jo at h
 rcases wI.1 h with h|h
 .right
  split at h
  .exact(wQ.1 (vx h)).1
  exact(wQ.1 h).1
 left;simpa using h
theorem Y4{c:List Ag}{x:Ag}(h:Bl c=true)(N:Cc x=true):Bl (Jo c x)=true:=by
 have hm:=λy=>Wz (c:=c) (x:=x) (y:=y)
 rw[FB] at h ⊢;obtain⟨O,Y,h3⟩:=h;refine⟨λy hy=>?_,?_,?_⟩
 .rcases hm y hy with rfl|hy
  .exact N
  exact O y hy
 .unfold Jo
  rw[td];refine⟨?_,χ,λa ha b D=>?_⟩
  .split
   .exact(Y.filter _).drop
   exact Y.filter _
  obtain rfl:b=x:=by simpa using D
  have iG:a∈c.filter λy=>!BR b.e b.p y:=by
   split at ha
   .exact vx ha
   exact ha
  simpa using(wQ.1 iG).2
 unfold Jo
 have hl:=xG (λy=>!BR x.e x.p y) c
 split
 .rw[yz,xC];simp;omega
 rw[yz];simp;omega
theorem Xn{c:List Ag}{e p:Int}(h:¬H5 c e p<0):∃i,i<c.length/\H5 c e p=(i:Int)/\BR e p (AU c i)=true:=by
 unfold H5 at h ⊢
 split
 .rename_i ha
  obtain⟨x,N,hs⟩:=LU.1 ha;have hl:c.findIdx (BR e p)<c.length:=vM.2 ⟨x,N,hs⟩;refine⟨_,hl,rfl,?_⟩;have:=vD (w:=hl);simpa[AU,hl] using this
 rename_i ha
 rw[if_neg ha] at h;omega
def Ab(k:AQ)(e:Nat):Int:=(AI k.XX e).root
def BM(k:AQ)(e:Nat):List ByteArray:=(AI k.XX e).PQ
def A5(k:AQ)(f:Nat):Int:=(JK k.ZJ f).k
def U0(x:AW):Prop:=(x.k=0/\x.g=⟨#[]⟩)∨(1<=x.k/\x.k<=3/\BT x.g=true)
def Mn(m:List (List Int))(ZJ:List AW)(g t:Nat):Nat:=if Bp (JK ZJ t).k then(named (AJ m t)).count g else 0
theorem FG:countP m ZJ g=((yL 12).map (Mn m ZJ g)).sum:=rfl
theorem Is{k:Int}:Bp k=true↔k=2∨k=3:=by simp[Bp]
structure Dg(k:AQ):Prop where
 mem:CJ k.mem=true
 len:k.ZJ.length=12
 inf:∀f,f<12->U0 (JK k.ZJ f)
 XU:Bl k.XU=true
 zX:k.XX.length=3
 PQ:∀e,e<3->BY (BM k e)=true
 roots:∀e,e<3->Ab k e= -1∨(0<=Ab k e/\Ab k e<=11/\A5 k (Ab k e).toNat=3)
 allow:∀e,e<3->∀f,f∈Bi k.mem (Ab k e)->Ci (BM k e) (JK k.ZJ f).g=true
 tabs:∀f,f<12->Bp (A5 k f)=true->∀w∈AJ k.mem f,(Bx w=true/\BQ w≠f/\A5 k (BQ w)=A5 k f - 1)∨w=0
 refs:∀f,f<12->(JK k.ZJ f).r=(countP k.mem k.ZJ f:Int)+(Ex k.XX f:Int)
 trans:∀x∈k.XU,DJ k x=true
theorem IZ (h:XX.length=3)(g:Nat):Ex XX g=Eg (decide ((AI XX 0).root=(g:Int)))+Eg (decide ((AI XX 1).root=(g:Int)))+Eg (decide ((AI XX 2).root=(g:Int))):=by
 match XX,h with
 | [a,b,c],_=>simp only[Ex,xE,List.countP_nil,AI,Eg];simp;omega
section
variable {k:AQ} (h:Dg k)
include h
theorem Dg.row(K:f<12):(AJ k.mem f).length=4:=(BG.1 ((Ak.1 h.mem).2 f K)).1
theorem Dg.word{i:Nat}(K:f<12)(E:i<4):0<=Aw k.mem f i/\Aw k.mem f i<=9999:=(BG.1 ((Ak.1 h.mem).2 f K)).2 _ (Dl (by rw[h.row K];exact E))
theorem Dg.named{g:Nat}(K:f<12)(ht:Bp (A5 k f)=true)(Z:g∈named (AJ k.mem f)):g<12/\g≠f/\A5 k g=A5 k f - 1:=by
 obtain⟨w,hw,O,rfl⟩:=GC.1 Z
 rcases h.tabs f K ht w hw with⟨_,a,b⟩|rfl
 .exact⟨Eh O,a,b⟩
 simp[Bx] at O
theorem Dg.zI{e:Nat}(he:e<3)(hr:0<=Ab k e):(Ab k e).toNat<12/\A5 k (Ab k e).toNat=3:=by
 rcases h.roots e he with a|⟨a,b,c⟩
 .omega
 exact⟨ω,c⟩
theorem Dg.zU{e:Nat}(he:e<3)(hr:0<=Ab k e)(ht:t∈ϰ (AJ k.mem (Ab k e).toNat)):t<12/\A5 k t=2:=by obtain⟨a,b⟩:=h.zI he hr;have:=h.named a (by rw[b];rfl) ht;exact⟨this.1,ω⟩
theorem Dg.zu{e:Nat}(he:e<3)(hr:0<=Ab k e)(ht:t∈ϰ (AJ k.mem (Ab k e).toNat))(K:f∈ϰ (AJ k.mem t)):f<12/\A5 k f=1:=by obtain⟨a,b⟩:=h.zU he hr ht;have:=h.named a (by rw[b];rfl) K;exact⟨this.1,ω⟩
theorem Dg.zG{e:Nat}(he:e<3)(K:f∈Bi k.mem (Ab k e)):f<12/\1<=A5 k f:=by
 obtain⟨hr,O⟩:=EC.1 K
 rcases O with rfl|O|⟨t,ht,O⟩
 .have:=h.zI he hr;exact⟨this.1,ω⟩
 .have:=h.zU he hr O;exact⟨this.1,ω⟩
 have:=h.zu he hr ht O;exact⟨this.1,ω⟩
theorem Dg.cnt_zero{g:Nat}(Z:g<12):Mn k.mem k.ZJ g g=0:=by
 unfold Mn
 split
 .rename_i ht
  rw[uk];intro hm;exact(h.named Z ht hm).2.1 rfl
 rfl
theorem Dg.yY{g:Nat}(ht:t<12):Mn k.mem k.ZJ g t<=4:=by
 unfold Mn
 split
 .have O:(ϰ (AJ k.mem t)).count g<=_:=List.count_le_length
  have Y:=Fi (r:=AJ k.mem t);rw[h.row ht] at Y;omega
 omega
theorem Dg.count_le{g:Nat}(Z:g<12):countP k.mem k.ZJ g<=44:=by
 have:((yL 12).map (Mn k.mem k.ZJ g)).sum+4<=4*12:=Yj Z (λt ht=>h.yY (g:=g) ht) (h.cnt_zero Z);rw[FG];omega
theorem Dg.yZ(K:f<12):0<=(JK k.ZJ f).r/\(JK k.ZJ f).r<=47:=by
 have O:=h.count_le K;have Y:Ex k.XX f<=3:=by
  have:=wC (p:=λe:FF=>decide (e.root=(f:Int))) (l:=k.XX);rw[h.zX] at this;exact this
 rw[h.refs f K];omega
theorem Dg.unused(K:f<12)(h0:(JK k.ZJ f).r=0):(∀t,t<12->Bp (A5 k t)=true->f∉ϰ (AJ k.mem t))/\∀e,e<3->Ab k e≠(f:Int):=by
 have O:=h.refs f K;have Y:countP k.mem k.ZJ f=0:=ω;have h3:Ex k.XX f=0:=ω;rw[FG,Md] at Y;constructor
 .intro t ht d4 hm
  have:=Y t ht;unfold Mn A5 at*;rw[if_pos d4,uk] at this;exact this hm
 intro e he
 rw[IZ h.zX] at h3;unfold Eg at h3;have:e=0∨e=1∨e=2:=ω;intro hr;unfold Ab at hr
 rcases this with rfl|rfl|rfl<;>simp[hr] at h3
theorem Dg.zC(K:f<12)(h0:A5 k f=0):(JK k.ZJ f).r=0:=by
 rw[h.refs f K];have Y:countP k.mem k.ZJ f=0:=by
  rw[FG,Md];intro t ht;unfold Mn
  split
  .rename_i d4
   rw[uk];intro hm;have:=(h.named ht d4 hm).2.2;have:A5 k t=2∨A5 k t=3:=Is.1 d4;omega
  rfl
 have h3:Ex k.XX f=0:=by
  rw[IZ h.zX];have ei:∀e,e<3->Eg (decide ((AI k.XX e).root=(f:Int)))=0:=by
   intro e he;unfold Eg
   by_cases hr:(AI k.XX e).root=(f:Int)
   .exfalso
    have:Ab k e=(f:Int):=hr;have:=h.zI he ω;rw[‹Ab k e=(f:Int)›] at this;simp at this;omega
   simp[hr]
  rw[ei 0 ω,ei 1 ω,ei 2 ω]
 omega
theorem Dg.zb{e a:Nat}(he:e<3)(hr:0<=Ab k e)(hw:(Cd k.mem (Ab k e).toNat a).1=0):(Cd k.mem (Ab k e).toNat a).2.1<12/\A5 k (Cd k.mem (Ab k e).toNat a).2.1=1/\(Cd k.mem (Ab k e).toNat a).2.1∈Bi k.mem (Ab k e):=by
 unfold Cd at hw ⊢
 split at hw
 .rename_i O
  split at hw
  .rename_i Y
   rw[if_pos O,if_pos Y];have m1:=KY O;have m2:=KY Y;have:=h.zu he hr m1 m2;exact⟨this.1,this.2,EC.2 ⟨hr,.inr (.inr ⟨_,m1,m2⟩)⟩⟩
  simp at hw
 simp at hw
end
theorem Zi{x:AW}(h:U0 x)(h0:0<=x.r)(O:x.r<=50)(hz:x.k=0->x.r=0):Dm x=true:=by
 rcases h with⟨a,b⟩|⟨a,b,c⟩
 .have:x=AW.zero:=by
   obtain⟨k,g,r⟩:=x;simp at a b hz;subst a b;simp[AW.zero,hz rfl]
  simp[Dm,this]
 simp[Dm,Bo,a,b,c,h0,O]
theorem Zh{x:AW}(h:Dm x=true):U0 x:=by
 unfold Dm at h;simp only[xL,decide_eq_true_eq,yC,Aa] at h
 rcases h with rfl|⟨⟨⟨a,b⟩,c⟩,_⟩
 .exact .inl ⟨rfl,rfl⟩
 exact .inr ⟨a,b,c⟩
theorem A4{l:List AW}:BJ l=true↔l.length=12/\∀f,f<12->Dm (JK l f)=true:=by
 simp only[BJ,yC,ym,decide_eq_true_eq];constructor
 .rintro⟨O,Y⟩
  exact⟨Y,λf K=>O _ (Dl ω)⟩
 rintro⟨O,Y⟩
 refine⟨λr hr=>?_,O⟩;obtain⟨i,E,rfl⟩:=Im (d:=AW.zero) hr;exact Y i ω
theorem Mr{w:Int}:GI ZJ f kind PQ w=true↔(Bx w=true/\BQ w≠f/\(JK ZJ (BQ w)).k=kind - 1/\Ci PQ (JK ZJ (BQ w)).g=true)∨(Bx w=false/\w=0):=by unfold GI;cases h:Bx w<;>simp[and_assoc]
theorem Mq{m:List (List Int)}{f:Nat}:Iw m ZJ f kind PQ=true↔∀w∈AJ m f,GI ZJ f kind PQ w=true:=by simp[Iw,ym]
theorem UL (h:XX.length=3){p:FF->Bool}:XX.all p=true↔∀e,e<3->p (AI XX e)=true:=by
 rw[ym];constructor
 .intro hp e he
  exact hp _ (Dl ω)
 intro hp x N
 obtain⟨i,E,rfl⟩:=Im (d:=⟨[],0⟩) N;exact hp i ω
theorem FN{k:AQ}:DG k=true↔Dg k:=by
 unfold DG;simp only[yC,M6];constructor
 .rintro⟨⟨⟨⟨⟨⟨O,Y⟩,h3⟩,h4⟩,h5⟩,h6⟩,h7⟩
  unfold Jm at h4;simp only[yC,decide_eq_true_eq] at h4;obtain⟨h4,hl⟩:=h4;rw[UL hl] at h4;rw[A4] at Y;have hE:∀e,e<3->BY (BM k e)=true/\(Ab k e= -1∨(0<=Ab k e/\Ab k e<=11)/\A5 k (Ab k e).toNat=3)/\BO k.ZJ (Bi k.mem (Ab k e)) (BM k e)=true:=by intro e he;have:=h4 e he;unfold Ea at this;simp only[yC,xL,decide_eq_true_eq,Aa] at this;exact⟨this.1.1,this.1.2,this.2⟩
  refine⟨O,Y.1,λf K=>Zh (Y.2 f K),h3,hl,λe he=>(hE e he).1,λe he=>?_,λe he=>Gl.1 (hE e he).2.2,λf K ht w hw=>?_,λf K=>?_,λx N=>ym.1 h7 x N⟩
  .rcases(hE e he).2.1 with a|⟨⟨a,b⟩,c⟩
   .exact .inl a
   exact .inr ⟨a,b,c⟩
  .have:=h5 f K
   unfold EH at this;unfold A5 at ht;rw[ht,Bool.not_true,Bool.false_or,Mq] at this
   rcases Mr.1 (this w hw) with⟨a,b,c,_⟩|⟨_,a⟩
   .exact .inl ⟨a,b,c⟩
   exact .inr a
  have:=h6 f K
  simpa[IY] using this
 intro h
 refine⟨⟨⟨⟨⟨⟨h.mem,?_⟩,h.XU⟩,?_⟩,λf K=>?_⟩,λf K=>?_⟩,ym.2 h.trans⟩
 .rw[A4]
  refine⟨h.len,λf K=>Zi (h.inf f K) (h.yZ K).1 (by have:=(h.yZ K).2;omega) (λh0=>h.zC K h0)⟩
 .unfold Jm
  simp only[yC,decide_eq_true_eq];refine⟨?_,h.zX⟩;rw[UL h.zX];intro e he;unfold Ea;simp only[yC,xL,decide_eq_true_eq,Aa];refine⟨⟨h.PQ e he,?_⟩,Gl.2 (h.allow e he)⟩
  rcases h.roots e he with a|⟨a,b,c⟩
  .exact .inl a
  exact .inr ⟨⟨a,b⟩,c⟩
 .unfold EH
  simp only[xL,uf];cases ht:Bp (JK k.ZJ f).k
  .exact .inl rfl
  right
  rw[Mq];intro w hw;rw[Mr]
  rcases h.tabs f K ht w hw with⟨a,b,c⟩|rfl
  .exact .inl ⟨a,b,c,cK _⟩
  exact .inr ⟨rfl,rfl⟩
 simp[IY,h.refs f K]
theorem IP{l:List AW}{x:AW}:JK (l.set f x) g=if g=f/\f<l.length then x else JK l g:=KP
theorem Fu{l:List AW}{u:AW->AW}:JK (An l f u) g=if g=f/\f<l.length then u (JK l f) else JK l g:=Nt
theorem HJ{l:List FF}{u:FF->FF}:AI (An l f u) g=if g=f/\f<l.length then u (AI l f) else AI l g:=Nt
variable{XU:List Ag}
theorem Dg.data{k:AQ}(h:Dg k){f:Nat}(K:f<12)(z:A5 k f=0∨A5 k f=1){row:List Int}(cT:EW row=true){x:AW}(N:U0 x)(jW:x.k=0∨x.k=1)(hr:x.r=(JK k.ZJ f).r)
 (gz:(x.k=A5 k f/\x.g=(JK k.ZJ f).g)∨(JK k.ZJ f).r=0)(V:Bl XU=true)(ht:∀y∈XU,DJ k y=true):Dg ⟨k.mem.set f row,k.ZJ.set f x,k.XX,XU⟩:=by
 have jC:=(Ak.1 h.mem).1;have b6:∀g,g≠f->AJ (k.mem.set f row) g=AJ k.mem g:=λg Z=>by rw[Pu,if_neg (by rintro⟨a,_⟩;exact Z a)]
 have bK:∀g,g≠f->JK (k.ZJ.set f x) g=JK k.ZJ g:=λg Z=>by rw[IP,if_neg (by rintro⟨a,_⟩;exact Z a)]
 have cx:JK (k.ZJ.set f x) f=x:=by rw[IP,if_pos ⟨rfl,by rw[h.len];exact K⟩]
 have d4:∀t,Bp (JK (k.ZJ.set f x) t).k=true->t≠f/\Bp (A5 k t)=true:=by
  intro t ht
  by_cases e:t=f
  .subst e
   rw[cx,Is] at ht;omega
  rw[bK t e] at ht
  exact⟨e,ht⟩
 have iZ:∀t,Bp (A5 k t)=true->t≠f:=by intro t ht e;subst e;rw[Is] at ht;omega
 have cw:∀t g,t<12->Bp (A5 k t)=true->g∈ϰ (AJ k.mem t)->(JK (k.ZJ.set f x) g).k=A5 k g/\(JK (k.ZJ.set f x) g).g=(JK k.ZJ g).g:=by
  intro t g ht cn Z
  by_cases e:g=f
  .subst e
   rw[cx]
   rcases gz with hs|h0
   .exact hs
   exact absurd Z ((h.unused K h0).1 t ht cn)
  rw[bK g e];exact⟨rfl,rfl⟩
 have bE:∀e,e<3->0<=Ab k e->(Ab k e).toNat≠f:=λe he h0=>iZ _ (by rw[(h.zI he h0).2];rfl)
 have gP:∀e,e<3->0<=Ab k e->∀t,t∈ϰ (AJ k.mem (Ab k e).toNat)->t≠f:=λe he h0 t ht=>iZ _ (by rw[(h.zU he h0 ht).2];rfl)
 have f5:∀e,e<3->∀g,g∈Bi (k.mem.set f row) (Ab k e)↔g∈Bi k.mem (Ab k e):=λe he=>QU (λh0=>b6 _ (bE e he h0)) (λh0 t ht=>b6 _ (gP e he h0 t ht))
 refine⟨UW h.mem cT,by simp[h.len],λg Z=>?_,V,h.zX,h.PQ,λe he=>?_,λe he g Z=>?_,λt ht cn w hw=>?_,λg Z=>?_,λy hy=>?_⟩
 .by_cases e:g=f
  .subst e;rw[cx];exact N
  rw[bK g e];exact h.inf g Z
 .rcases h.roots e he with a|⟨a,b,c⟩
  .exact .inl a
  refine .inr ⟨a,b,?_⟩
  show(JK (k.ZJ.set f x) (Ab k e).toNat).k=3
  rw[bK _ (bE e he a)];exact c
 .have cN:=(f5 e he g).1 Z
  have hm:=h.allow e he g cN
  show Ci (BM k e) (JK (k.ZJ.set f x) g).g=true
  obtain⟨h0,O⟩:=EC.1 cN;have gK:=h.zI he h0;have e:(JK (k.ZJ.set f x) g).g=(JK k.ZJ g).g:=by
   rcases O with rfl|O|⟨t,O,Y⟩
   .rw[bK _ (bE e he h0)]
   .exact(cw _ g gK.1 (by rw[gK.2];rfl) O).2
   have hJ:=h.zU he h0 O
   exact(cw _ g hJ.1 (by rw[hJ.2];rfl) Y).2
  rw[e];exact hm
 .obtain⟨bb,ez⟩:=d4 t cn
  rw[show AJ (k.mem.set f row) t=AJ k.mem t from b6 t bb] at hw
  rcases h.tabs t ht ez w hw with⟨a,b,c⟩|rfl
  .refine .inl ⟨a,b,?_⟩
   have:=(cw t (BQ w) ht ez (GC.2 ⟨w,hw,a,rfl⟩)).1
   show(JK (k.ZJ.set f x) (BQ w)).k=(JK (k.ZJ.set f x) t).k - 1
   rw[this,bK t bb];exact c
  exact .inr rfl
 .have c6:countP (k.mem.set f row) (k.ZJ.set f x) g=countP k.mem k.ZJ g:=by
   rw[FG,FG];refine LI λt ht=>?_
   unfold Mn
   by_cases e:t=f
   .subst e
    rw[cx,if_neg (by rw[Is];omega),if_neg (by rw[Is];unfold A5 at z;omega)]
   rw[bK t e,b6 t e]
  show(JK (k.ZJ.set f x) g).r=(countP (k.mem.set f row) (k.ZJ.set f x) g:Int)+(Ex k.XX g:Int)
  rw[c6,<-h.refs g Z]
  by_cases e:g=f
  .subst e;rw[cx,hr]
  rw[bK g e]
 have O:=ht y hy
 have fl:=(FB.1 V).1 y hy;unfold Cc at fl;simp only[yC,Aa] at fl;have he:y.e.toNat<3:=ω;unfold DJ at O ⊢;simp only[yC,decide_eq_true_eq] at O ⊢;refine⟨O.1,?_⟩;have hw:=TU (m:=k.mem) (m':=k.mem.set f row) (root:=(Ab k y.e.toNat).toNat) (a:=4*y.p.toNat) (b6 _ (bE _ he O.1)) (λt ht=>b6 _ (gP _ he O.1 t ht));exact hw.trans O.2
theorem KB{n:Int}:(BP ZJ fs n).length=ZJ.length:=by
 unfold BP
 induction fs generalizing ZJ with
 |nil=>rfl
 |cons f fs ih=>rw[yJ,ih,DU]
theorem Oq{n:Int}(Z:g<ZJ.length):JK (BP ZJ fs n) g= {JK ZJ g with r:=(JK ZJ g).r+n*(fs.count g:Int)}:=by
 unfold BP
 induction fs generalizing ZJ with
 |nil=>simp
 |cons f fs ih=>
  rw[yJ,ih (by rw[DU];exact Z),Fu,rZ]
  by_cases e:g=f
  .subst e
   rw[if_pos ⟨rfl,Z⟩];simp[JD];rw[Int.mul_add];omega
  rw[if_neg (by rintro⟨a,_⟩;exact e a)]
  have e':¬f=g:=λa=>e a.symm
  simp[e']
theorem Dg.retype{k:AQ}(h:Dg k){f:Nat}(K:f<12)(h0:(JK k.ZJ f).r=0){kind n:Int}(iq:1<=kind)(jH:kind<=3)(jJ:A5 k f≠0)
 (hn:(n=1/\Bp (A5 k f)=false/\Bp kind=true)∨(n= -1/\Bp (A5 k f)=true/\Bp kind=false))
 (fm:Bp kind=true->∀w∈AJ k.mem f,(Bx w=true/\BQ w≠f/\A5 k (BQ w)=kind - 1)∨w=0):
 Dg {k with ZJ:=An (BP k.ZJ (ϰ (AJ k.mem f)) n) f (Dn kind)}:=by
 obtain⟨u1,u2⟩:=h.unused K h0;have hl:(BP k.ZJ (ϰ (AJ k.mem f)) n).length=12:=by rw[KB,h.len]
 have bu:∀g,g<12->JK (An (BP k.ZJ (ϰ (AJ k.mem f)) n) f (Dn kind)) g= {(JK k.ZJ g) with k:=if g=f then kind else A5 k g,r:=(JK k.ZJ g).r+n*((ϰ (AJ k.mem f)).count g:Int)}:=by
  intro g Z;rw[Fu,hl]
  by_cases e:g=f
  .subst e
   rw[if_pos ⟨rfl,K⟩,Oq (by rw[h.len];exact Z)];simp[Dn]
  rw[if_neg (by rintro⟨a,_⟩;exact e a),Oq (by rw[h.len];exact Z)]
  simp[e,A5]
 have iW:f∉ϰ (AJ k.mem f):=by
  intro hm
  rcases hn with⟨_,_,c⟩|⟨_,b,_⟩
  .obtain⟨w,hw,O,Y⟩:=GC.1 hm
   rcases fm c w hw with⟨_,a,_⟩|rfl
   .exact a Y
   simp[Bx] at O
  exact u1 f K b hm
 refine⟨h.mem,by rw[DU];exact hl,λg Z=>?_,h.XU,h.zX,h.PQ,λe he=>?_,λe he g Z=>?_,λt ht cn w hw=>?_,λg Z=>?_,h.trans⟩
 .show U0 (JK (An _ f (Dn kind)) g)
  rw[bu g Z]
  by_cases e:g=f
  .subst e
   rcases h.inf g Z with⟨a,b⟩|⟨a,b,c⟩
   .exact absurd a jJ
   right;simp;exact⟨iq,jH,c⟩
  simp only[e,if_false]
  exact h.inf g Z
 .rcases h.roots e he with a|⟨a,b,c⟩
  .exact .inl a
  refine .inr ⟨a,b,?_⟩
  show(JK (An _ f (Dn kind)) (Ab k e).toNat).k=3
  rw[bu _ ω];have:(Ab k e).toNat≠f:=λe'=>u2 e he ω
  simp only[this,if_false];exact c
 .show Ci (BM k e) (JK (An _ f (Dn kind)) g).g=true
  have:=h.allow e he g Z;rw[bu _ (h.zG he Z).1];exact this
 .have bB:Bp (JK (An (BP k.ZJ (ϰ (AJ k.mem f)) n) f (Dn kind)) t).k=true:=cn
  rw[bu t ht] at bB
  show(Bx w=true/\BQ w≠t/\(JK (An (BP k.ZJ (ϰ (AJ k.mem f)) n) f (Dn kind)) (BQ w)).k=(JK (An (BP k.ZJ (ϰ (AJ k.mem f)) n) f (Dn kind)) t).k - 1)∨w=0
  rw[bu t ht]
  by_cases e:t=f
  .subst e
   simp only[if_true] at bB
   rcases fm bB w hw with⟨a,b,c⟩|rfl
   .refine .inl ⟨a,b,?_⟩
    rw[bu _ (Eh a)];simp only[if_true,b,if_false];exact c
   exact .inr rfl
  simp only[e,if_false] at bB
  rcases h.tabs t ht bB w hw with⟨a,b,c⟩|rfl
  .refine .inl ⟨a,b,?_⟩
   rw[bu _ (Eh a)];have:BQ w≠f:=λe'=>u1 t ht bB (GC.2 ⟨w,hw,a,e'⟩)
   simp only[this,if_false,e];exact c
  exact .inr rfl
 show(JK (An (BP k.ZJ (ϰ (AJ k.mem f)) n) f (Dn kind)) g).r=(countP k.mem (An (BP k.ZJ (ϰ (AJ k.mem f)) n) f (Dn kind)) g:Int)+(Ex k.XX g:Int)
 rw[bu g Z];have cd:=ND (F:=Mn k.mem (An (BP k.ZJ (ϰ (AJ k.mem f)) n) f (Dn kind)) g) (G:=Mn k.mem k.ZJ g) K (λt ht bb=>by unfold Mn;rw[bu t ht];simp only[bb,if_false];rfl)
 rw[<-FG,<-FG] at cd;have c1:Mn k.mem (An (BP k.ZJ (ϰ (AJ k.mem f)) n) f (Dn kind)) g f=if Bp kind then(ϰ (AJ k.mem f)).count g else 0:=by unfold Mn;rw[bu f K];simp
 have c2:Mn k.mem k.ZJ g f=if Bp (A5 k f) then(ϰ (AJ k.mem f)).count g else 0:=rfl
 rw[c1,c2] at cd;have:=h.refs g Z
 rcases hn with⟨rfl,a,b⟩|⟨rfl,a,b⟩
 .rw[a,b] at cd
  simp at cd ⊢;omega
 rw[a,b] at cd
 simp at cd ⊢;omega
theorem GO (h:¬Ao ZJ<0):(Ao ZJ).toNat<ZJ.length/\(JK ZJ (Ao ZJ).toNat).k=0/\0<=Ao ZJ:=by
 unfold Ao at h ⊢
 split
 .rename_i ha
  obtain⟨x,N,hs⟩:=LU.1 ha;have hl:ZJ.findIdx (λx=>decide (x.k=0))<ZJ.length:=vM.2 ⟨x,N,hs⟩;refine⟨by simpa using hl,?_,ω⟩;have:=vD (w:=hl);simpa[JK,hl] using this
 rename_i ha
 rw[if_neg ha] at h;omega
theorem Ov{α:Type}{l:List α}{d:α}:l.set i (l.getD i d)=l:=by
 apply sy;intro j;rw[vE]
 by_cases h:i=j
 .subst h
  by_cases Y:i<l.length
  .simp[Y]
  simp[Y]
 simp[h]
theorem dE{k:AQ}(h:Dg k){c:AV}:Dg (Ju k c).1:=by
 unfold Ju
 split
 .exact h
 rename_i hn
 split
 .exact h
 split
 .exact h
 rename_i K
 obtain⟨a,b,_⟩:=GO K;rw[h.len] at a;have hr:=h.zC a b;refine h.data (x:=⟨1,c.nm,0⟩) a (.inl b) ψ (.inr ⟨by show(1:Int)<=1;omega,by show(1:Int)<=3;omega,by simpa using hn⟩) (.inr rfl) hr.symm (.inr hr) h.XU h.trans
theorem ba{k:AQ}(h:Dg k){c:AV}(ha:c.a.toNat<12):Dg (K4 k c).1:=by
 unfold K4
 split
 .exact h
 rename_i z
 split
 .exact h
 rename_i hr
 have hr:(JK k.ZJ c.a.toNat).r=0:=ω
 have:=h.data (x:=AW.zero) ha (.inr (by unfold A5;omega)) ((Ak.1 h.mem).2 _ ha) (.inl ⟨rfl,rfl⟩) (.inl rfl) hr.symm (.inr hr) h.XU h.trans;rw[show k.mem.set c.a.toNat (AJ k.mem c.a.toNat)=k.mem from Ov] at this;exact this
theorem Y2{k:AQ}(h:Dg k){f:Nat}{w:Int}(K:f<12)(z:A5 k f=1)(hw:EJ w=true)(V:Bl XU=true)(ht:∀y∈XU,DJ k y=true):Dg {k with mem:=Cs k.mem f i w,XU:=XU}:=by have:=h.data (x:=JK k.ZJ f) K (.inr z) (Um (i:=i) (w:=w) ((Ak.1 h.mem).2 _ K) hw) (h.inf f K) (.inr z) rfl (.inl ⟨rfl,rfl⟩) V ht;rw[show k.ZJ.set f (JK k.ZJ f)=k.ZJ from Ov] at this;rw[Ou];exact this
theorem cX{k:AQ}(h:Dg k){c:AV}(ha:c.a.toNat<12):Dg (LD k c).1:=by
 unfold LD
 split
 .exact h
 rename_i hn
 simp only[not_or] at hn;obtain⟨O,Y,h3⟩:=hn;exact Y2 h ha (by unfold A5;omega) (by simpa using h3) h.XU h.trans
theorem Ue{k:AQ}(h:Dg k){r:List AW×Int}(hr:r.2=0->Dg {k with ZJ:=r.1}):Dg (EG k r).1:=by
 unfold EG
 split
 .exact hr ‹_›
 exact h
theorem dx{k:AQ}(h:Dg k){f:Nat}(K:f<12){kind:Int}(z:Bp kind=true):(GV k.mem k.ZJ f kind PQ).2=0->Dg {k with ZJ:=(GV k.mem k.ZJ f kind PQ).1}:=by
 unfold GV
 split
 .intro h;simp at h
 rename_i hn
 simp only[not_or,uB] at hn
 split
 .intro h;simp at h
 rename_i Z
 have Z:Iw k.mem k.ZJ f kind PQ=true:=by simpa using Z
 split
 .intro _
  have jG:=Is.1 z;refine h.retype K hn.2 ω ω (by unfold A5;omega) (.inl ⟨rfl,?_,z⟩) (λ_ w hw=>?_)
  .unfold A5;rw[hn.1];rfl
  rcases Mr.1 (Mq.1 Z w hw) with⟨a,b,c,_⟩|⟨_,a⟩
  .exact .inl ⟨a,b,c⟩
  exact .inr a
 intro h;simp at h
theorem aS{k:AQ}(h:Dg k){f:Nat}(K:f<12):(DT k.mem k.ZJ f).2=0->Dg {k with ZJ:=(DT k.mem k.ZJ f).1}:=by
 unfold DT
 split
 .intro h;simp at h
 rename_i hn
 simp only[not_or,uB,wV] at hn
 split
 .intro _
  have jG:=Is.1 hn.1;exact h.retype K hn.2 ω ω (by unfold A5;omega) (.inr ⟨rfl,hn.1,rfl⟩) (λhh=>by simp[Bp] at hh)
 intro h;simp at h
theorem Cy{w n:Int}:(BI ZJ w n).length=ZJ.length:=by
 unfold BI
 split
 .exact DU
 rfl
theorem GE{w n:Int}(hl:ZJ.length=12):JK (BI ZJ w n) g= {JK ZJ g with r:=(JK ZJ g).r+n*(Eg (EP g w):Int)}:=by
 unfold BI
 split
 .rename_i Z
  rw[Fu]
  by_cases e:g=BQ w
  .subst e
   rw[if_pos ⟨rfl,by rw[hl];exact Eh Z⟩];simp[JD,EP,Z,Eg]
  have e':¬BQ w=g:=λx=>e x.symm
  rw[if_neg (by rintro⟨a,_⟩;exact e a)];simp[EP,Z,Eg,e']
 rename_i Z
 simp[EP,Z,Eg]
theorem Px{k:AQ}{a:Nat}:e∈GX k a↔e<3/\a∈Bi k.mem (Ab k e):=by simp[GX,Ab]
theorem eB{k:AQ}(h:Dg k){c:AV}(ha:c.a.toNat<12)(jX:0<=c.c->c.c<=9999∨Bx c.c=true∨c.c=0->EJ c.c=true):Dg (If k c).1:=by
 unfold If
 split
 .exact h
 rename_i hn
 simp only[not_or,wV] at hn;obtain⟨O,Y,h3⟩:=hn;unfold EV at h3
 split
 .exact h
 rename_i bA
 have bA:((GX k c.a.toNat).all λe=>BO k.ZJ (Du k c.c) (AI k.XX e).PQ)=true:=by simpa using bA
 split
 .exact h
 rename_i hmay
 generalize hfd:c.a.toNat=f at*;have D:c.b.toNat<4:=by have:=Aa.1 Y;omega
 generalize gm:c.b.toNat=b at*;generalize hwd:c.c=w at*;have hl:=h.len;have jC:=(Ak.1 h.mem).1;have jZ:=h.row ha;have ie:Bx w=true->A5 k (BQ w)=A5 k f - 1:=by intro Z;rw[if_pos Z] at h3;simpa[A5] using h3
 have iT:Bx w=false->w=0:=by intro Z;rw[if_neg (by simp[Z])] at h3;simpa using h3
 have j1:=Is.1 O;have gv:EJ w=true:=by
  cases Z:Bx w
  .rw[iT Z];rfl
  have cN:=Z
  simp only[Bx,yC,decide_eq_true_eq] at cN;refine Aa.2 ⟨ω,ω⟩
 have ic:Bx w=true->BQ w≠f:=by intro Z e;have:=ie Z;rw[e] at this;omega
 have bu:∀g,JK (BI (BI k.ZJ (Aw k.mem f b) (-1)) w 1) g= {JK k.ZJ g with r:=(JK k.ZJ g).r+(-1)*(Eg (EP g (Aw k.mem f b)):Int)+1*(Eg (EP g w):Int)}:=by intro g;rw[GE (by rw[Cy];exact hl),GE hl]
 have b8:∀g,(JK (BI (BI k.ZJ (Aw k.mem f b) (-1)) w 1) g).k=A5 k g:=λg=>by rw[bu];rfl
 have ga:∀g,(JK (BI (BI k.ZJ (Aw k.mem f b) (-1)) w 1) g).g=(JK k.ZJ g).g:=λg=>by rw[bu]
 have ea:AJ (Cs k.mem f b w) f=(AJ k.mem f).set b w:=by rw[Ia,if_pos ⟨rfl,ω⟩]
 have cT:∀g,g≠f->AJ (Cs k.mem f b w) g=AJ k.mem g:=λg Z=>by rw[Ia,if_neg (by rintro⟨a,_⟩;exact Z a)]
 have c5:∀t g,g∈ϰ (AJ (Cs k.mem f b w) t)->g∈ϰ (AJ k.mem t)∨(t=f/\Bx w=true/\BQ w=g):=by
  intro t g Z
  by_cases e:t=f
  .subst e
   rw[ea] at Z
   rcases Tr Z with a|a
   .exact .inl a
   exact .inr ⟨rfl,a⟩
  rw[cT t e] at Z
  exact .inl Z
 have iY:∀e,e<3->f∉Bi k.mem (Ab k e)->(0<=Ab k e->AJ (Cs k.mem f b w) (Ab k e).toNat=AJ k.mem (Ab k e).toNat)/\(0<=Ab k e->∀t,t∈ϰ (AJ k.mem (Ab k e).toNat)->AJ (Cs k.mem f b w) t=AJ k.mem t):=by
  intro e he f6;rw[EC] at f6;refine⟨λh0=>cT _ (λe'=>f6 ⟨h0,.inl e'.symm⟩),λh0 t ht=>cT _ (λe'=>f6 ⟨h0,.inr (.inl (e'▸ht))⟩)⟩
 refine⟨?_,by rw[Cy,Cy];exact hl,λg Z=>?_,WM h.XU,h.zX,h.PQ,λe he=>?_,λe he g Z=>?_,λt ht cn x N=>?_,λg Z=>?_,λy hy=>?_⟩
 .show CJ (Cs k.mem f b w)=true
  rw[Ou];exact UW h.mem (Um ((Ak.1 h.mem).2 f ha) gv)
 .show U0 (JK (BI (BI k.ZJ (Aw k.mem f b) (-1)) w 1) g)
  rw[bu];exact h.inf g Z
 .rcases h.roots e he with x|⟨x,y,hk⟩
  .exact .inl x
  exact .inr ⟨x,y,by show(JK (BI (BI k.ZJ (Aw k.mem f b) (-1)) w 1) (Ab k e).toNat).k=3;rw[b8];exact hk⟩
 .show Ci (BM k e) (JK (BI (BI k.ZJ (Aw k.mem f b) (-1)) w 1) g).g=true
  rw[ga]
  by_cases hr:f∈Bi k.mem (Ab k e)
  .have hu:∀g,g∈Du k w->Ci (BM k e) (JK k.ZJ g).g=true:=Gl.1 (ym.1 bA e (Px.2 ⟨he,hr⟩))
   have b7:∀g,Bx w=true->(BQ w=g∨(Bp (A5 k (BQ w))=true/\g∈ϰ (AJ k.mem (BQ w))))->g∈Du k w:=by
    intro g Z hh;unfold Du;rw[if_pos Z]
    rcases hh with rfl|⟨O,Y⟩
    .exact vR ..
    unfold A5 at O
    rw[if_pos O];exact uI _ Y
   obtain⟨h0,cN⟩:=EC.1 Z
   change 0<=Ab k e at h0
   have old:∀g,(g=(Ab k e).toNat∨g∈ϰ (AJ k.mem (Ab k e).toNat)∨∃t,t∈ϰ (AJ k.mem (Ab k e).toNat)/\g∈ϰ (AJ k.mem t))->Ci (BM k e) (JK k.ZJ g).g=true:=λg hh=>h.allow e he g (EC.2 ⟨h0,hh⟩)
   rcases cN with cN|cN|⟨t,ht,cN⟩
   .exact old g (.inl cN)
   .rcases c5 _ _ cN with a|⟨_,a,b⟩
    .exact old g (.inr (.inl a))
    exact hu g (b7 g a (.inl b))
   rcases c5 _ _ cN with a|⟨_,a,b⟩
   .rcases c5 _ _ ht with a'|⟨er,a',b'⟩
    .exact old g (.inr (.inr ⟨t,a',a⟩))
    have gK:=(h.zI he h0).2
    change (Ab k e).toNat=f at er
    rw[er] at gK;refine hu g (b7 g a' (.inr ⟨?_,by rw[b'];exact a⟩));rw[ie a',gK];rfl
   exact hu g (b7 g a (.inl b))
  obtain⟨r0,r1⟩:=iY e he hr
  exact h.allow e he g ((QU r0 r1 g).1 Z)
 .have bB:Bp (JK (BI (BI k.ZJ (Aw k.mem f b) (-1)) w 1) t).k=true:=cn
  rw[b8] at bB
  show(Bx x=true/\BQ x≠t/\(JK (BI (BI k.ZJ (Aw k.mem f b) (-1)) w 1) (BQ x)).k=(JK (BI (BI k.ZJ (Aw k.mem f b) (-1)) w 1) t).k - 1)∨x=0
  rw[b8,b8];have gk:x∈AJ (Cs k.mem f b w) t:=N
  by_cases e:t=f
  .subst e
   rw[ea] at gk
   rcases vU gk with gk|rfl
   .exact h.tabs t ht bB x gk
   cases Z:Bx x
   .exact .inr (iT Z)
   exact .inl ⟨rfl,ic Z,ie Z⟩
  rw[cT t e] at gk
  exact h.tabs t ht bB x gk
 .show(JK (BI (BI k.ZJ (Aw k.mem f b) (-1)) w 1) g).r=(countP (Cs k.mem f b w) (BI (BI k.ZJ (Aw k.mem f b) (-1)) w 1) g:Int)+(Ex k.XX g:Int)
  have cd:=ND (F:=Mn (Cs k.mem f b w) (BI (BI k.ZJ (Aw k.mem f b) (-1)) w 1) g) (G:=Mn k.mem k.ZJ g) ha (λt ht bb=>by unfold Mn;rw[b8,cT t bb];rfl)
  rw[<-FG,<-FG] at cd;have c1:Mn (Cs k.mem f b w) (BI (BI k.ZJ (Aw k.mem f b) (-1)) w 1) g f=(ϰ ((AJ k.mem f).set b w)).count g:=by unfold Mn;rw[b8,ea];exact if_pos O
  have c2:Mn k.mem k.ZJ g f=(ϰ (AJ k.mem f)).count g:=if_pos O;have c3:(ϰ ((AJ k.mem f).set b w)).count g+Eg (EP g (Aw k.mem f b))=(ϰ (AJ k.mem f)).count g+Eg (EP g w):=Zx (ω:b<(AJ k.mem f).length);rw[c1,c2] at cd;have:=h.refs g Z;rw[bu];simp only;omega
 obtain⟨gu,iS⟩:=ZU.1 hy
 have h4:=h.trans y gu;have fl:=(FB.1 h.XU).1 y gu;unfold Cc at fl;simp only[yC,Aa] at fl;have he:y.e.toNat<3:=ω;have f6:f∉Bi k.mem (Ab k y.e.toNat):=λhr=>iS y.e.toNat (Px.2 ⟨he,hr⟩) ω
 obtain⟨r0,r1⟩:=iY _ he f6;unfold DJ at h4 ⊢;simp only[yC,decide_eq_true_eq] at h4 ⊢;exact⟨h4.1,(TU (a:=4*y.p.toNat) (r0 h4.1) (r1 h4.1)).trans h4.2⟩
def Gu(ZJ:List AW)(old new:Int):List AW:=
 if 0<=new then An (if 0<=old then An ZJ old.toNat (JD (-1)) else ZJ) new.toNat (JD 1) else(if 0<=old then An ZJ old.toNat (JD (-1)) else ZJ)
theorem YX:(Gu ZJ old new).length=ZJ.length:=by
 unfold Gu
 split<;>split<;>simp[DU]
theorem Ul (hl:ZJ.length=12)(Z:g<12):JK (Gu ZJ old new) g= {JK ZJ g with r:=(JK ZJ g).r - (Eg (decide (old=(g:Int))):Int)+(Eg (decide (new=(g:Int))):Int)}:=by
 have O:JK (if 0<=old then An ZJ old.toNat (JD (-1)) else ZJ) g= {JK ZJ g with r:=(JK ZJ g).r - (Eg (decide (old=(g:Int))):Int)}:=by
  split
  .rw[Fu]
   by_cases e:g=old.toNat
   .rw[if_pos ⟨e,ω⟩,<-e]
    have:old=(g:Int):=ω;simp[JD,Eg,this];omega
   rw[if_neg (by rintro⟨a,_⟩;exact e a)]
   have:¬old=(g:Int):=ω;simp[Eg,this]
  have:¬old=(g:Int):=ω;simp[Eg,this]
 have Y:(if 0<=old then An ZJ old.toNat (JD (-1)) else ZJ).length=12:=by split<;>simp[DU,hl]
 unfold Gu
 split
 .rw[Fu,Y]
  by_cases e:g=new.toNat
  .rw[if_pos ⟨e,ω⟩,<-e,O]
   have:new=(g:Int):=ω;simp[JD,Eg,this]
  rw[if_neg (by rintro⟨a,_⟩;exact e a),O]
  have:¬new=(g:Int):=ω;simp[Eg,this]
 rw[O]
 have:¬new=(g:Int):=ω;simp[Eg,this]
theorem aK (hl:XX.length=3)(he:e<3){n:Int}:Ex (An XX e (ET n)) g+Eg (decide ((AI XX e).root=(g:Int)))=Ex XX g+Eg (decide (n=(g:Int))):=by
 rw[IZ (by rw[DU];exact hl),IZ hl];simp only[HJ,hl];have:e=0∨e=1∨e=2:=ω;rcases this with rfl|rfl|rfl<;>simp[ET]<;>omega
theorem YY (hl:XX.length=3){ss:List ByteArray}:Ex (An XX e (BV ss)) g=Ex XX g:=by
 rw[IZ (by rw[DU];exact hl),IZ hl];simp only[HJ]
 by_cases h0:0=e/\e<XX.length<;>by_cases O:1=e/\e<XX.length<;>by_cases Y:2=e/\e<XX.length<;>simp only[h0,O,Y,if_true,if_false,BV]<;>(try (obtain⟨rfl,_⟩:=h0))<;>(try (obtain⟨rfl,_⟩:=O))<;>(try (obtain⟨rfl,_⟩:=Y))<;>simp
theorem ch{k:AQ}(h:Dg k){c:AV}(he:0<=c.e/\c.e<=2):Dg (Lt k c).1:=by
 unfold Lt
 split
 .exact h
 rename_i O
 split
 .exact h
 rename_i Y
 have Y:BO k.ZJ (Bi k.mem c.a) (BM k c.e.toNat)=true:=by simpa[BM] using Y
 rw[Gl] at Y;have gZ:c.e.toNat<3:=ω;generalize hed:c.e.toNat=e at*;generalize c.a=n at*;have O:n= -1∨(0<=n/\n<=11/\A5 k n.toNat=3):=by
  by_cases hn:n= -1
  .exact .inl hn
  right
  have O:¬(Bo n 0 11=false∨(JK k.ZJ n.toNat).k≠3):=λhh=>O ⟨hn,hh⟩
  simp only[not_or,wV,uB] at O;have:=Aa.1 O.1;exact⟨this.1,this.2,O.2⟩
 show Dg ⟨k.mem,Gu k.ZJ (Ab k e) n,An k.XX e (ET n),Gb k.XU c.e⟩
 have bu:=λg (Z:g<12)=>Ul (ZJ:=k.ZJ) (old:=Ab k e) (new:=n) (g:=g) h.len Z
 have cy:∀j,AI (An k.XX e (ET n)) j=if j=e then⟨BM k e,n⟩ else AI k.XX j:=by
  intro j;rw[HJ,h.zX]
  by_cases A:j=e
  .rw[if_pos ⟨A,gZ⟩,if_pos A];rfl
  rw[if_neg (by rintro⟨a,_⟩;exact A a),if_neg A]
 refine⟨h.mem,by rw[YX];exact h.len,λg Z=>?_,WL h.XU,by rw[DU];exact h.zX,λj A=>?_,λj A=>?_,λj A g Z=>?_,λt ht cn x N=>?_,λg Z=>?_,λy hy=>?_⟩
 .show U0 (JK (Gu _ _ _) g)
  rw[bu g Z];exact h.inf g Z
 .show BY (AI (An k.XX e (ET n)) j).PQ=true
  rw[cy]
  split
  .exact h.PQ e gZ
  exact h.PQ j A
 .show(AI (An k.XX e (ET n)) j).root= -1∨(0<=(AI (An k.XX e (ET n)) j).root/\(AI (An k.XX e (ET n)) j).root<=11/\(JK (Gu k.ZJ (Ab k e) n) (AI (An k.XX e (ET n)) j).root.toNat).k=3)
  rw[cy]
  split
  .rcases O with O|⟨a,b,d⟩
   .exact .inl O
   refine .inr ⟨a,b,?_⟩
   rw[bu _ η];exact d
  rcases h.roots j A with x|⟨x,y,hk⟩
  .exact .inl x
  refine .inr ⟨x,y,?_⟩
  have N:(AI k.XX j).root=Ab k j:=rfl;rw[N,bu _ ω];exact hk
 .have d8:g∈Bi k.mem (AI (An k.XX e (ET n)) j).root:=Z
  show Ci (AI (An k.XX e (ET n)) j).PQ (JK (Gu k.ZJ (Ab k e) n) g).g=true
  rw[cy] at d8 ⊢
  by_cases ec:j=e
  .simp only[ec,if_true] at d8 ⊢
   have iy:g<12:=by
    obtain⟨h0,hh⟩:=EC.1 d8
    rcases hh with rfl|hh|⟨t,_,hh⟩
    .rcases O with O|O<;>omega
    .exact F9 hh
    exact F9 hh
   rw[bu g iy];exact Y g d8
  simp only[ec,if_false] at d8 ⊢
  rw[bu g (h.zG A d8).1];exact h.allow j A g d8
 .have bB:Bp (JK (Gu k.ZJ (Ab k e) n) t).k=true:=cn
  rw[bu t ht] at bB
  show(Bx x=true/\BQ x≠t/\(JK (Gu k.ZJ (Ab k e) n) (BQ x)).k=(JK (Gu k.ZJ (Ab k e) n) t).k - 1)∨x=0
  rcases h.tabs t ht bB x N with⟨a,b,d⟩|rfl
  .refine .inl ⟨a,b,?_⟩
   rw[bu t ht,bu _ (Eh a)];exact d
  exact .inr rfl
 .show(JK (Gu k.ZJ (Ab k e) n) g).r=(countP k.mem (Gu k.ZJ (Ab k e) n) g:Int)+(Ex (An k.XX e (ET n)) g:Int)
  have V:countP k.mem (Gu k.ZJ (Ab k e) n) g=countP k.mem k.ZJ g:=by
   rw[FG,FG];refine LI λt ht=>?_
   unfold Mn;rw[bu t ht]
  have hr:=aK (g:=g) h.zX gZ (n:=n);have:=h.refs g Z;rw[V,bu g Z];have e':(AI k.XX e).root=Ab k e:=rfl;rw[e'] at hr;simp only;omega
 obtain⟨gu,iS⟩:=UJ.1 hy
 have h4:=h.trans y gu;have fl:=(FB.1 h.XU).1 y gu;unfold Cc at fl;simp only[yC,Aa] at fl;have bb:y.e.toNat≠e:=ω;unfold DJ at h4 ⊢;rw[show AI (AQ.XX ⟨k.mem,Gu k.ZJ (Ab k e) n,An k.XX e (ET n),Gb k.XU c.e⟩) y.e.toNat=AI k.XX y.e.toNat from by show AI (An k.XX e (ET n)) y.e.toNat=_;rw[cy,if_neg bb]];exact h4
theorem Dg.zt{k:AQ}(h:Dg k)(he:e<3){ss:List ByteArray}(hs:BY ss=true)(ha:∀f,f∈Bi k.mem (Ab k e)->Ci ss (JK k.ZJ f).g=true):Dg {k with XX:=An k.XX e (BV ss)}:=by
 have cy:∀j,AI (An k.XX e (BV ss)) j=if j=e then⟨ss,Ab k e⟩ else AI k.XX j:=by
  intro j;rw[HJ,h.zX]
  by_cases A:j=e
  .rw[if_pos ⟨A,he⟩,if_pos A];rfl
  rw[if_neg (by rintro⟨a,_⟩;exact A a),if_neg A]
 have bE:∀j,(AI (An k.XX e (BV ss)) j).root=Ab k j:=by
  intro j;rw[cy]
  split
  .rename_i A;rw[A]
  rfl
 refine⟨h.mem,h.len,h.inf,h.XU,by rw[DU];exact h.zX,λj A=>?_,λj A=>?_,λj A g Z=>?_,h.tabs,λg Z=>?_,λy hy=>?_⟩
 .show BY (AI (An k.XX e (BV ss)) j).PQ=true
  rw[cy]
  split
  .exact hs
  exact h.PQ j A
 .show(AI (An k.XX e (BV ss)) j).root= -1∨(0<=(AI (An k.XX e (BV ss)) j).root/\(AI (An k.XX e (BV ss)) j).root<=11/\(JK k.ZJ (AI (An k.XX e (BV ss)) j).root.toNat).k=3)
  rw[bE];exact h.roots j A
 .have d8:g∈Bi k.mem (AI (An k.XX e (BV ss)) j).root:=Z
  show Ci (AI (An k.XX e (BV ss)) j).PQ (JK k.ZJ g).g=true
  rw[bE] at d8;rw[cy]
  split
  .rename_i ec
   rw[ec] at d8;exact ha g d8
  exact h.allow j A g d8
 .show(JK k.ZJ g).r=(countP k.mem k.ZJ g:Int)+(Ex (An k.XX e (BV ss)) g:Int)
  rw[YY h.zX];exact h.refs g Z
 have h4:=h.trans y hy
 unfold DJ at h4 ⊢;rw[show(AI (AQ.XX {k with XX:=An k.XX e (BV ss)}) y.e.toNat).root=(AI k.XX y.e.toNat).root from bE _];exact h4
theorem Zg{k:AQ}(h:Dg k){c:AV}:Dg (Ft k c).1:=by
 unfold Ft
 split
 .exact h
 rename_i O
 simp only[not_or,wV] at O;have:=Aa.1 O.1
 split
 .exact h
 split
 .exact h
 exact h.zt ω (bH (h.PQ _ ω) O.2) (λf K=>Zv (λs hs=>bG hs) (h.allow _ ω f K))
theorem YU{k:AQ}(h:Dg k){c:AV}:Dg (EX k c).1:=by
 unfold EX
 split
 .exact h
 rename_i O
 simp only[not_or,wV] at O;have:=Aa.1 O.1
 split
 .exact h
 split
 .exact h
 rename_i h3
 have h3:=Gl.1 (show BO k.ZJ (Bi k.mem (Ab k c.a.toNat)) (Bk (AI k.XX c.a.toNat).PQ c.nm)=true by simpa[Ab] using h3);exact h.zt ω (ZV (h.PQ _ ω)) h3
theorem eG{k:AQ}(h:Dg k){c:AV}(he:0<=c.e/\c.e<=2):Dg (PA k c).1:=by
 unfold PA;simp only
 split
 .exact h
 rename_i O
 simp only[not_or,wV] at O;obtain⟨ha,hr,D⟩:=O
 split
 .exact h
 rename_i hw
 split
 .exact h
 have gZ:c.e.toNat<3:=ω;have hr:0<=Ab k c.e.toNat:=by unfold Ab;omega
 have hw:(Cd k.mem (Ab k c.e.toNat).toNat c.a.toNat).1=0:=by simpa[Ab] using hw
 obtain⟨K,z,_⟩:=h.zb gZ hr hw;have ha:=Aa.1 ha;have hC:Bl (if H5 k.XU c.e (c.a/4)<0 then Jo k.XU ⟨c.e,c.a/4,((Cd k.mem (Ab k c.e.toNat).toNat c.a.toNat).2.1:Nat),(Cd k.mem (Ab k c.e.toNat).toNat c.a.toNat).2.2⟩ else k.XU)=true:=by
  split
  .refine Y4 h.XU ?_
   simp only[Cc,yC,Aa];omega
  exact h.XU
 have hT:∀y∈(if H5 k.XU c.e (c.a/4)<0 then Jo k.XU ⟨c.e,c.a/4,((Cd k.mem (Ab k c.e.toNat).toNat c.a.toNat).2.1:Nat),(Cd k.mem (Ab k c.e.toNat).toNat c.a.toNat).2.2⟩ else k.XU),DJ k y=true:=by
  intro y hy
  split at hy
  .rcases Wz hy with rfl|hy
   .unfold DJ
    simp only[yC,decide_eq_true_eq];refine⟨hr,?_⟩;have e1:4*(c.a/4).toNat/16=c.a.toNat/16:=ω;have e2:4*(c.a/4).toNat/4%4=c.a.toNat/4%4:=ω;have e3:Cd k.mem (AI k.XX c.e.toNat).root.toNat (4*(c.a/4).toNat)=Cd k.mem (Ab k c.e.toNat).toNat c.a.toNat:=by unfold Cd;rw[e1,e2];rfl
    rw[e3,yq];exact Prod.ext hw rfl
   exact h.trans y hy
  exact h.trans y hy
 split
 .rename_i h11
  refine Y2 h K z ?_ hC hT;simp only[not_and,wV] at D;exact D h11
 have:=h.data (x:=JK k.ZJ (Cd k.mem (Ab k c.e.toNat).toNat c.a.toNat).2.1) K (.inr z) ((Ak.1 h.mem).2 _ K) (h.inf _ K) (.inr z) rfl (.inl ⟨rfl,rfl⟩) hC hT
 rw[show k.ZJ.set _ (JK k.ZJ (Cd k.mem (Ab k c.e.toNat).toNat c.a.toNat).2.1)=k.ZJ from Ov,show k.mem.set _ (AJ k.mem (Cd k.mem (Ab k c.e.toNat).toNat c.a.toNat).2.1)=k.mem from Ov] at this;exact this
theorem Za{k:AQ}(h:Dg k){c:AV}:Dg (IN k c).1:=by
 unfold IN
 split
 .exact h
 rename_i O
 simp only[not_or,wV,not_and] at O;have ha:=Aa.1 O.1;have g1:c.a.toNat<12:=ω
 split
 .exact h
 split
 .exact ba h g1
 split
 .exact cX h g1
 split
 .rename_i h4
  exact Ue h (dx h g1 (O.2.2 h4))
 split
 .exact Ue h (aS h g1)
 exact eB h g1 (λh0 hh=>by
  rcases hh with hh|hh|hh
  .exact Aa.2 ⟨h0,hh⟩
  .simp only[Bx,yC,decide_eq_true_eq] at hh
   exact Aa.2 ⟨ω,ω⟩
  rw[hh];rfl)
theorem OR{k:AQ}(h:Dg k){c:AV}(he:0<=c.e/\c.e<=2):Dg (Ad k c).1:=by
 unfold Ad
 split
 .exact dE h
 split
 .exact Za h
 split
 .exact ch h he
 split
 .exact Zg h
 split
 .exact YU h
 split
 .exact eG h he
 exact h
structure Bz where
 w:Int
 a:Int
 u:Bool
 deriving DecidableEq
structure AR where
 Ve:AQ
 swap:List (List Int)
 low:List Int
 XY:List Bz
 FV:Int
 U4:Int
 deriving DecidableEq
def gA:ByteArray:=⟨#[97]⟩
def AD(l:List Bz)(n:Nat):Bz:=l.getD n ⟨0,0,false⟩
def Bf(l:List Int)(n:Nat):Int:=l.getD n 0
def F3(s:List (List Int)):Bool:=s.all (λr=>r.isEmpty||EW r)&&decide (s.length=16)
def Ii(f:Int):Int:=4*f+3
def Gd(ZJ:List AW)(f:Nat):Bool:=decide ((JK ZJ f).g=gA)&&decide ((JK ZJ f).r=1)
def GT(p:AR)(i:Nat):Bool:=Bo (Bf p.low i) 0 11&&decide (Aw p.Ve.mem (Ab p.Ve 0).toNat i=Ii (Bf p.low i))&&Gd p.Ve.ZJ (Bf p.low i).toNat
def Ch(p:AR):Bool:=decide (0<=Ab p.Ve 0)&&decide (p.low.length=4)&&Gd p.Ve.ZJ (Ab p.Ve 0).toNat&&(yL 4).all (GT p)
def Ce(p:AR)(n:Nat):Int:=Aw p.Ve.mem (Bf p.low (n/4)).toNat (n%4)
def HZ(p:AR)(n:Nat):Bool:=
 if(AD p.XY n).w=0 then decide ((AD p.XY n).a=0)&&!(AD p.XY n).u&&decide (Ce p n=0)
 else if(AD p.XY n).w=1 then Bo (AD p.XY n).a 0 11&&decide (Ce p n=Ii (AD p.XY n).a)&&Gd p.Ve.ZJ (AD p.XY n).a.toNat
 else if(AD p.XY n).w=2 then Bo (AD p.XY n).a 0 15&&!(AJ p.swap (AD p.XY n).a.toNat).isEmpty&&!(AD p.XY n).u&&decide (Ce p n=0)
 else false
def DZ(s:Nat)(x:Bz):Bool:=decide (x.w=2)&&decide (x.a=(s:Int))
def Cq(XY:List Bz)(s:Nat):Nat:=XY.countP (DZ s)
def EY(p:AR)(s:Nat):Bool:=decide (Cq p.XY s=if(AJ p.swap s).isEmpty then 0 else 1)
def IH(k:AQ):Bool:=Ci (BM k 0) gA&&!Ci (BM k 1) gA&&!Ci (BM k 2) gA
def Pg(w:Int)(x:Bz):Bool:=decide (x.w=w)
def Al(XY:List Bz)(w:Int):Nat:=XY.countP (Pg w)
def By(p:AR):Bool:=
 DG p.Ve&&F3 p.swap&&IH p.Ve&&Ch p&&decide (p.XY.length=16)&&(yL 16).all (EY p)&&(yL 16).all (HZ p)&&Bo p.FV 0 15&&Bo p.U4 1 6&&decide ((Al p.XY 1:Int)<=p.U4)
def Ah(kind a b c:Int):AV:=⟨kind,0,a,b,c,gA⟩
def JN(p:AR)(n:Nat)(w:Int):AV:=Ah 6 (Bf p.low (n/4)) ((n%4:Nat):Int) w
def FO(h:Int):Int:=(h+1)%16
def Oz(x:Bz):Bz:= {x with u:=false}
def Ct:Nat->List Bz->Int->List Bz×Int×Option Nat
 |0,XY,FV=>(XY,FV,none)
 |n+1,XY,FV=>
  if(AD XY FV.toNat).w=1/\(AD XY FV.toNat).u=false then(XY,FO FV,some FV.toNat)
  else Ct n (XY.set FV.toNat (Oz (AD XY FV.toNat))) (FO FV)
def Bt(s:List (List Int)):Int:=if s.any vl then(s.findIdx vl:Nat) else -1
def Eu(p:AR)(n:Nat):AR:=
 {p with Ve:=(Ad (Ad p.Ve (JN p n 0)).1 (Ah 2 (AD p.XY n).a 0 0)).1,swap:=p.swap.set (Bt p.swap).toNat (AJ p.Ve.mem (AD p.XY n).a.toNat),XY:=p.XY.set n ⟨2,Bt p.swap,false⟩}
def Wy(k:AQ)(f:Int)(ws:List Int):AQ:=(yL 4).foldl (λk i=>(Ad k (Ah 3 f (i:Nat) (ws.getD i 0))).1) k
def Qi(p:AR)(n:Nat):AR×Bool:=
 let r:=Ad p.Ve (Ah 1 0 0 0)
 if r.2.2≠0 then(p,false)
 else
  let x:=AD p.XY n
  let k2:=if x.w=2 then Wy r.1 r.2.1 (AJ p.swap x.a.toNat) else r.1
  ({p with Ve:=(Ad k2 (JN p n (Ii r.2.1))).1,swap:=if x.w=2 then p.swap.set x.a.toNat [] else p.swap,XY:=p.XY.set n ⟨1,r.2.1,true⟩},true)
def F5(XY:List Bz)(n:Nat):List Bz:=XY.set n {AD XY n with u:=true}
def JZ(p:AR):Bool:=decide (Ao p.Ve.ZJ<0)||decide ((Al p.XY 1:Int)=p.U4)
def Br(p:AR)(n:Nat):AR×Bool:=
 if(AD p.XY n).w=1 then({p with XY:=F5 p.XY n},true)
 else if Ao p.Ve.ZJ<0/\Al p.XY 1=0 then(p,false)
 else if JZ p then
  match Ct 32 p.XY p.FV with
  |(XY,FV,some m)=>Qi (Eu {p with XY:=XY,FV:=FV} m) n
  |(_,_,none)=>(p,false)
 else Qi p n
def IW(p:AR)(a:Nat):AR×Int×Bool:=
 let t:=Br p (a/4)
 if t.2 then({t.1 with Ve:=(Ad t.1.Ve (Ah 10 (a:Int) 0 0)).1},(Ad t.1.Ve (Ah 10 (a:Int) 0 0)).2.1,true) else(t.1,0,false)
def Gg(p:AR)(a:Nat)(w:Int):AR×Bool:=
 let t:=Br p (a/4)
 if t.2 then({t.1 with Ve:=(Ad t.1.Ve (Ah 11 (a:Int) w 0)).1},true) else(t.1,false)
def Io(p:AR)(c:AV):AR×Int:=({p with Ve:=(Ad p.Ve c).1},(Ad p.Ve c).2.2)
def Gh(p:AR)(a:Nat):Int:=
 if(AD p.XY (a/4)).w=1 then Aw p.Ve.mem (AD p.XY (a/4)).a.toNat (a%4)
 else if(AD p.XY (a/4)).w=2 then Aw p.swap (AD p.XY (a/4)).a.toNat (a%4) else 0
def Lz(ZJ:List AW)(f:Nat):Prop:=(JK ZJ f).g=gA/\(JK ZJ f).r=1
theorem UX:Gd ZJ f=true↔Lz ZJ f:=by simp[Gd,Lz]
def LT(p:AR)(n:Nat):Prop:=
 ((AD p.XY n).w=0/\(AD p.XY n).a=0/\(AD p.XY n).u=false/\Ce p n=0)∨
 ((AD p.XY n).w=1/\(0<=(AD p.XY n).a/\(AD p.XY n).a<=11)/\Ce p n=Ii (AD p.XY n).a/\Lz p.Ve.ZJ (AD p.XY n).a.toNat)∨
 ((AD p.XY n).w=2/\(0<=(AD p.XY n).a/\(AD p.XY n).a<=15)/\AJ p.swap (AD p.XY n).a.toNat≠[]/\(AD p.XY n).u=false/\Ce p n=0)
theorem Jz{α:Type}{l:List α}:l.isEmpty=true↔l=[]:=tO
variable{p:AR}
theorem YP:HZ p n=true↔LT p n:=by
 unfold HZ LT
 by_cases h0:(AD p.XY n).w=0
 .simp[h0,and_assoc]
 by_cases O:(AD p.XY n).w=1
 .simp[O,and_assoc,Aa,UX]
 by_cases Y:(AD p.XY n).w=2
 .simp[Y,and_assoc,Aa]
 simp[h0,O,Y]
structure Dz(p:AR):Prop where
 k:Dg p.Ve
 zN:p.swap.length=16
 zF:∀s,s<16->AJ p.swap s=[]∨EW (AJ p.swap s)=true
 may:Ci (BM p.Ve 0) gA=true
 alone:∀e,1<=e->e<3->Ci (BM p.Ve e) gA=false
 root:0<=Ab p.Ve 0
 zD:p.low.length=4
 yW:Lz p.Ve.ZJ (Ab p.Ve 0).toNat
 lows:∀i,i<4->0<=Bf p.low i/\Bf p.low i<=11/\Aw p.Ve.mem (Ab p.Ve 0).toNat i=Ii (Bf p.low i)/\Lz p.Ve.ZJ (Bf p.low i).toNat
 zY:p.XY.length=16
 slots:∀s,s<16->Cq p.XY s=if(AJ p.swap s).isEmpty then 0 else 1
 XY:∀n,n<16->LT p n
 FV:0<=p.FV/\p.FV<=15
 U4:1<=p.U4/\p.U4<=6
 count:(Al p.XY 1:Int)<=p.U4
theorem Gw{s:List (List Int)}:F3 s=true↔s.length=16/\∀i,i<16->AJ s i=[]∨EW (AJ s i)=true:=by
 simp only[F3,yC,ym,decide_eq_true_eq,xL,Jz];constructor
 .rintro⟨O,Y⟩
  exact⟨Y,λf K=>O _ (Dl ω)⟩
 rintro⟨O,Y⟩
 refine⟨λr hr=>?_,O⟩;obtain⟨i,E,rfl⟩:=Im (d:=[]) hr;exact Y i ω
theorem EB:By p=true↔Dz p:=by
 unfold By Ch IH;simp only[yC,M6,YP,Aa,decide_eq_true_eq,FN,Gw,EY,GT,UX,uf];constructor
 .rintro⟨⟨⟨⟨⟨⟨⟨⟨⟨O,Y⟩,h3⟩,h4⟩,h5⟩,h6⟩,h7⟩,h8⟩,h9⟩,h10⟩
  obtain⟨⟨⟨a,b⟩,c⟩,d⟩:=h4;refine⟨O,Y.1,Y.2,h3.1.1,λe he je=>?_,a,b,c,λi E=>?_,h5,h6,h7,h8,h9,h10⟩
  .have:e=1∨e=2:=ω
   rcases this with rfl|rfl
   .exact h3.1.2
   exact h3.2
  obtain⟨⟨x,y⟩,hk⟩:=d i E
  exact⟨x.1,x.2,y,hk⟩
 intro h
 exact⟨⟨⟨⟨⟨⟨⟨⟨⟨h.k,h.zN,h.zF⟩,⟨h.may,h.alone 1 ω ω⟩,h.alone 2 ω ω⟩,⟨⟨h.root,h.zD⟩,h.yW⟩,λi E=>by obtain⟨x,y,hk,u⟩:=h.lows i E;exact⟨⟨⟨x,y⟩,hk⟩,u⟩⟩,h.zY⟩,h.slots⟩,h.XY⟩,h.FV⟩,h.U4⟩,h.count⟩
theorem IT{f:Int}(h0:0<=f)(O:f<=11):Bx (Ii f)=true/\BQ (Ii f)=f.toNat/\LY (Ii f)=true:=by unfold Bx BQ LY Ii;simp only[yC,decide_eq_true_eq];refine⟨⟨⟨?_,?_⟩,?_⟩,?_,?_⟩<;>omega
theorem Yl{a:Nat}(ha:a<n)(D:b<n)(bb:a≠b)(O:1<=F a)(Y:1<=F b):2<=((yL n).map F).sum:=by
 have e1:=ND (F:=F) (G:=λt=>if t=a then 0 else F t) ha (λt _ bb=>by simp[bb]);have e2:=ND (F:=λt=>if t=a then 0 else F t) (G:=λt=>if t=b then 0 else if t=a then 0 else F t) D (λt _ bb=>by simp[bb]);have fb:¬b=a:=λe=>bb e.symm
 simp only[if_true,fb,if_false] at e1 e2;omega
theorem Sb{a:Nat}(ha:a<n):F a<=((yL n).map F).sum:=by
 have e1:=ND (F:=F) (G:=λt=>if t=a then 0 else F t) ha (λt _ bb=>by simp[bb]);simp only[if_true] at e1;omega
theorem ZT{p:Int->Bool}(E:i<r.length)(A:j<r.length)(bb:i≠j)(O:p (r.getD i 0)=true)(Y:p (r.getD j 0)=true):2<=r.countP p:=by
 induction r generalizing i j with
 |nil=>simp at E
 |cons x r ih=>
  rw[xE];cases i with
  |zero=>
   cases j with
   |zero=>omega
   |succ j=>simp at O Y A;have:0<r.countP p:=uu.2 ⟨_,Dl (d:=0) A,by simpa using Y⟩;rw[if_pos (by simpa using O)];omega
  |succ i=>
   cases j with
   |zero=>simp at O Y E;have:0<r.countP p:=uu.2 ⟨_,Dl (d:=0) E,by simpa using O⟩;rw[if_pos (by simpa using Y)];omega
   |succ j=>have:=ih (i:=i) (j:=j) (by simpa using E) (by simpa using A) ω (by simpa using O) (by simpa using Y);omega
section
variable {k:AQ} (h:Dg k)
include h
theorem Dg.yX{i:Nat}(ht:t<12)(cn:Bp (A5 k t)=true)(E:i<4)(hn:EP f (Aw k.mem t i)=true):1<=Mn k.mem k.ZJ f t:=by unfold Mn;unfold A5 at cn;rw[if_pos cn,Kh];exact uu.2 ⟨_,Dl (d:=0) (by rw[h.row ht];exact E),hn⟩
theorem Dg.once{i t' i':Nat}(K:f<12)(O:(JK k.ZJ f).r=1)(ht:t<12)(cn:Bp (A5 k t)=true)(E:i<4)(hn:EP f (Aw k.mem t i)=true)
 (iV:t'<12)(ez:Bp (A5 k t')=true)(hQ:i'<4)(i2:EP f (Aw k.mem t' i')=true):t=t'/\i=i':=by
 have hr:=h.refs f K;have V:countP k.mem k.ZJ f<=1:=ω;rw[FG] at V
 by_cases e:t=t'
 .subst e
  refine⟨rfl,?_⟩
  by_cases e:i=i'
  .exact e
  exfalso
  have Y:2<=Mn k.mem k.ZJ f t:=by unfold Mn;unfold A5 at cn;rw[if_pos cn,Kh];exact ZT (by rw[h.row ht];exact E) (by rw[h.row ht];exact hQ) e hn i2
  have:=Sb (F:=Mn k.mem k.ZJ f) ht;omega
 exfalso
 have:=Yl (F:=Mn k.mem k.ZJ f) ht iV e (h.yX ht cn E hn) (h.yX iV ez hQ i2);omega
theorem Dg.zm{i e:Nat}(K:f<12)(O:(JK k.ZJ f).r=1)(ht:t<12)(cn:Bp (A5 k t)=true)(E:i<4)(hn:EP f (Aw k.mem t i)=true)(he:e<3):Ab k e≠(f:Int):=by
 intro hr;have gL:=h.refs f K;have Y:=Sb (F:=Mn k.mem k.ZJ f) ht;have h3:=h.yX ht cn E hn;rw[<-FG] at Y;rw[IZ h.zX] at gL;unfold Ab at hr;have:e=0∨e=1∨e=2:=ω
 unfold Eg at gL
 rcases this with rfl|rfl|rfl<;>simp[hr] at gL<;>split at gL<;>(try split at gL)<;>omega
theorem Dg.named_at{g:Nat}(ht:t<12)(Z:g∈ϰ (AJ k.mem t)):∃i,i<4/\EP g (Aw k.mem t i)=true:=by obtain⟨w,hw,O,Y⟩:=GC.1 Z;obtain⟨i,E,rfl⟩:=Im (d:=0) hw;rw[h.row ht] at E;exact⟨i,E,by simp only[EP,Aw,yC];exact⟨O,decide_eq_true Y⟩⟩
end
section
variable {p:AR} (h:Dz p)
include h
theorem Dz.zK:(Ab p.Ve 0).toNat<12/\A5 p.Ve (Ab p.Ve 0).toNat=3:=h.k.zI ω h.root
theorem Dz.zw{i:Nat}(E:i<4):EP (Bf p.low i).toNat (Aw p.Ve.mem (Ab p.Ve 0).toNat i)=true:=by obtain⟨a,b,c,_⟩:=h.lows i E;obtain⟨x,y,_⟩:=IT a b;rw[c];simp[EP,x,y]
theorem Dz.zU{i:Nat}(E:i<4):(Bf p.low i).toNat<12/\A5 p.Ve (Bf p.low i).toNat=2:=by obtain⟨a,b,c,_⟩:=h.lows i E;obtain⟨x,y,_⟩:=IT a b;have hm:=KY (m:=p.Ve.mem) (f:=(Ab p.Ve 0).toNat) (i:=i) (by rw[c];exact x);rw[c,y] at hm;exact h.k.zU ω h.root hm
theorem Dz.ze{i j:Nat}(E:i<4)(A:j<4)(e:(Bf p.low i).toNat=(Bf p.low j).toNat):i=j:=by have hr:=h.zK;have hl:=h.zU E;have O:=h.zw E;have Y:=h.zw A;rw[<-e] at Y;exact(h.k.once hl.1 (h.lows i E).2.2.2.2 hr.1 (by rw[hr.2];rfl) E O hr.1 (by rw[hr.2];rfl) A Y).2
theorem Dz.zQ{n:Nat}(hn:n<16)(hw:(AD p.XY n).w=1):EP (AD p.XY n).a.toNat (Ce p n)=true/\(0<=(AD p.XY n).a/\(AD p.XY n).a<=11)/\Lz p.Ve.ZJ (AD p.XY n).a.toNat:=by
 rcases h.XY n hn with⟨a,_⟩|⟨_,b,c,d⟩|⟨a,_⟩
 .omega
 .obtain⟨x,y,_⟩:=IT b.1 b.2
  refine⟨?_,b,d⟩;rw[c];simp[EP,x,y]
 omega
theorem Dz.zR{n:Nat}(hn:n<16)(hw:(AD p.XY n).w=1):(AD p.XY n).a.toNat<12/\A5 p.Ve (AD p.XY n).a.toNat=1:=by
 obtain⟨a,b,_⟩:=h.zQ hn hw;have hl:=h.zU (i:=n/4) ω;have ha:Bx (Ce p n)=true/\BQ (Ce p n)=(AD p.XY n).a.toNat:=by simpa[EP] using a
 have hm:=KY (m:=p.Ve.mem) (f:=(Bf p.low (n/4)).toNat) (i:=n%4) ha.1;have:=h.k.named hl.1 (by rw[hl.2];rfl) hm;have e:BQ (Aw p.Ve.mem (Bf p.low (n/4)).toNat (n%4))=(AD p.XY n).a.toNat:=ha.2;rw[e] at this;exact⟨this.1,ω⟩
theorem Dz.zl{n m:Nat}(hn:n<16)(hm:m<16)(hw:(AD p.XY n).w=1)(ju:(AD p.XY m).w=1)(e:(AD p.XY n).a.toNat=(AD p.XY m).a.toNat):n=m:=by obtain⟨a,b,c⟩:=h.zQ hn hw;obtain⟨a',_,_⟩:=h.zQ hm ju;rw[<-e] at a';have hl:=h.zU (i:=n/4) ω;have bt:=h.zU (i:=m/4) ω;have z:=h.zR hn hw;have:=h.k.once z.1 c.2 hl.1 (by rw[hl.2];rfl) (i:=n%4) ω a bt.1 (by rw[bt.2];rfl) (i':=m%4) ω a';have:=h.ze ω ω this.1;omega
end
theorem fC{k:AQ}(h:Ci (BM k 0) gA=true){g:ByteArray}(Z:g=gA):Fg k 0 g=true:=by subst Z;exact h
theorem No{k:AQ}{a b c:Int}(O:2<=kind)(h6:kind<=6)(gj:0<=a)(ha:a<=11)(z:A5 k a.toNat≠0)(h4:kind≠4)(hm:Ci (BM k 0) gA=true)(Z:(JK k.ZJ a.toNat).g=gA):
 Ad k (Ah kind a b c)=if kind=2 then K4 k (Ah kind a b c) else if kind=3 then LD k (Ah kind a b c) else if kind=5 then EG k (DT k.mem k.ZJ a.toNat) else If k (Ah kind a b c):=by
 have e1:¬(Ah kind a b c).k=1:=by show ¬kind=1;omega
 have e2:Bo (Ah kind a b c).k 2 6=true:=Aa.2 ⟨O,h6⟩;have e3:¬(Bo (Ah kind a b c).a 0 11=false∨(JK k.ZJ (Ah kind a b c).a.toNat).k=0∨((Ah kind a b c).k=4/\Bp (Ah kind a b c).b=false)):=by
  rintro(x|x|x)
  .rw[show Bo (Ah kind a b c).a 0 11=true from Aa.2 ⟨gj,ha⟩] at x;cases x
  .exact z x
  exact h4 x.1
 have e4:¬Fg k (Ah kind a b c).e (JK k.ZJ (Ah kind a b c).a.toNat).g=false:=by rw[show Fg k (Ah kind a b c).e (JK k.ZJ (Ah kind a b c).a.toNat).g=true from fC hm Z];simp
 unfold Ad IN;rw[if_neg e1,if_pos e2,if_neg e3,if_neg e4]
 show(if kind=2 then _ else if kind=3 then _ else if kind=4 then _ else if kind=5 then _ else _)=_
 rw[if_neg h4];rfl
def JL(k:AQ)(t b:Nat)(w:Int):AQ:= {k with mem:=Cs k.mem t b w,ZJ:=BI (BI k.ZJ (Aw k.mem t b) (-1)) w 1,XU:=(GX k t).foldl (λc e=>Gb c (e:Nat)) k.XU}
theorem XF{k:AQ}(h:Dg k)(hm:Ci (BM k 0) gA=true)(jP:∀e,1<=e->e<3->Ci (BM k e) gA=false){a:Int}(gj:0<=a)(ha:a<=11)(ig:A5 k a.toNat=2)(Z:(JK k.ZJ a.toNat).g=gA)(D:b<4){w:Int}
 (hw:w=0∨∃f,0<=f/\f<=11/\w=Ii f/\A5 k f.toNat=1/\(JK k.ZJ f.toNat).g=gA):Ad k (Ah 6 a b w)=(JL k a.toNat b w,0,0):=by
 rw[No ω ω gj ha ω ω hm Z,if_neg ω,if_neg ω,if_neg ω];have K:EV k (Ah 6 a b w)=true:=by
  unfold EV
  show(if Bx w then decide ((JK k.ZJ (BQ w)).k=(JK k.ZJ a.toNat).k - 1) else decide (w=0))=true
  rcases hw with rfl|⟨f,f0,f1,rfl,fk,fg⟩
  .simp[Bx]
  obtain⟨x,y,_⟩:=IT f0 f1
  rw[if_pos x,y];unfold A5 at fk ig;rw[fk,ig];rfl
 have e1:¬(Bp (JK k.ZJ (Ah 6 a b w).a.toNat).k=false∨Bo (Ah 6 a b w).b 0 3=false∨EV k (Ah 6 a b w)=false):=by
  rintro(x|x|x)
  .have:Bp (JK k.ZJ (Ah 6 a b w).a.toNat).k=true:=Is.2 (.inl ig)
   rw[this] at x;cases x
  .rw[show Bo (Ah 6 a b w).b 0 3=true from Aa.2 ⟨by show(0:Int)<=(b:Int);omega,by show(b:Int)<=3;omega⟩] at x;cases x
  rw[K] at x;cases x
 have b7:∀g,g∈Du k w->(JK k.ZJ g).g=gA:=by
  intro g Z
  rcases hw with rfl|⟨f,f0,f1,rfl,fk,fg⟩
  .simp[Du,Bx] at Z
  obtain⟨x,y,_⟩:=IT f0 f1
  unfold Du at Z;rw[if_pos x,y] at Z;unfold A5 at fk;rw[if_neg (by rw[fk];decide)] at Z;simp at Z;rw[Z];exact fg
 have e2:¬(GX k (Ah 6 a b w).a.toNat).all (λe=>BO k.ZJ (Du k (Ah 6 a b w).c) (AI k.XX e).PQ)=false:=by
  rw[wV,ym];intro e he;rw[Gl];intro g cN;obtain⟨u1,u2⟩:=Px.1 he;rw[b7 g cN]
  rcases wJ e with h0|h0
  .rw[h0];exact hm
  have:=h.allow e u1 _ u2
  rw[show(JK k.ZJ (Ah 6 a b w).a.toNat).g=gA from Z,jP e h0 u1] at this;cases this
 have e3:¬(Bx (Ah 6 a b w).c=true/\Fg k (Ah 6 a b w).e (JK k.ZJ (BQ (Ah 6 a b w).c)).g=false):=by rintro⟨x,y⟩;have x':Bx w=true:=x;have y':Fg k 0 (JK k.ZJ (BQ w)).g=false:=y;rw[fC hm (b7 (BQ w) (by unfold Du;rw[if_pos x'];exact vR ..))] at y';cases y'
 unfold If;rw[if_neg e1,if_neg e2,if_neg e3];rfl
theorem Zd{k:AQ}(hm:Ci (BM k 0) gA=true){a b c:Int}(gj:0<=a)(ha:a<=11)(z:A5 k a.toNat=1)(Z:(JK k.ZJ a.toNat).g=gA)(hr:(JK k.ZJ a.toNat).r=0):
 Ad k (Ah 2 a b c)=({k with ZJ:=k.ZJ.set a.toNat AW.zero},0,0):=by
 rw[No ω ω gj ha ω ω hm Z,if_pos rfl];unfold K4;rw[if_neg (by show ¬(JK k.ZJ a.toNat).k≠1;unfold A5 at z;omega),if_neg (by show ¬(JK k.ZJ a.toNat).r≠0;omega)];rfl
theorem aC{k:AQ}(hm:Ci (BM k 0) gA=true){a w:Int}(gj:0<=a)(ha:a<=11)(z:A5 k a.toNat=1)(Z:(JK k.ZJ a.toNat).g=gA)(E:i<4)(hw:EJ w=true):
 Ad k (Ah 3 a i w)=({k with mem:=Cs k.mem a.toNat i w},0,0):=by
 rw[No ω ω gj ha ω ω hm Z,if_neg ω,if_pos rfl];unfold LD;rw[if_neg]
 .rfl
 rintro(x|x|x)
 .exact x z
 .rw[show Bo (Ah 3 a i w).b 0 3=true from Aa.2 ⟨by show(0:Int)<=(i:Int);omega,by show(i:Int)<=3;omega⟩] at x;cases x
 rw[show EJ (Ah 3 a i w).c=true from hw] at x;cases x
theorem NF{k:AQ}(hm:Ci (BM k 0) gA=true)(K:0<=Ao k.ZJ){a b c:Int}:
 Ad k (Ah 1 a b c)=({k with ZJ:=k.ZJ.set (Ao k.ZJ).toNat ⟨1,gA,0⟩,mem:=k.mem.set (Ao k.ZJ).toNat [0,0,0,0]},Ao k.ZJ,0):=by
 unfold Ad;rw[if_pos (show(Ah 1 a b c).k=1 from rfl)];unfold Ju;rw[if_neg,if_neg,if_neg]
 .rfl
 .omega
 .rw[show Fg k (Ah 1 a b c).e (Ah 1 a b c).nm=true from fC hm rfl];simp
 rw[show BT (Ah 1 a b c).nm=true from(ψ:BT gA=true)];simp
theorem P7{α:Type}{q:α->Bool}{l:List α}{y d:α}(hn:n<l.length):(l.set n y).countP q+Eg (q (l.getD n d))=l.countP q+Eg (q y):=by
 induction l generalizing n with
 |nil=>simp at hn
 |cons x r ih=>
  cases n with
  |zero=>simp only[sK,xE,sT,Eg];omega
  |succ n=>simp only[sJ,xE,sS];have:=ih (n:=n) (by simpa using hn);omega
variable{l:List Bz}
theorem EQ{m:Nat}{x:Bz}:AD (l.set n x) m=if m=n/\n<l.length then x else AD l m:=KP
variable{y:Bz}
theorem Pa{w:Int}(hn:n<l.length):Al (l.set n y) w+Eg (Pg w (AD l n))=Al l w+Eg (Pg w y):=P7 hn
theorem Ow{s:Nat}(hn:n<l.length):Cq (l.set n y) s+Eg (DZ s (AD l n))=Cq l s+Eg (DZ s y):=P7 hn
theorem aN (m:Nat)(x:Bz):((yL m).map λs=>Eg (DZ s x)).sum<=Eg (Pg 2 x):=by
 by_cases hw:x.w=2
 .have O:Eg (Pg 2 x)=1:=by simp[Pg,hw,Eg]
  rw[O]
  induction m with
  |zero=>simp
  |succ m ih=>
   rw[xj,xM,wW];simp only[vF,uV,uq,ug,xT]
   by_cases ha:x.a=(m:Int)
   .have h0:((yL m).map λs=>Eg (DZ s x)).sum=0:=by
     rw[Md];intro t ht;have:¬x.a=(t:Int):=ω;simp[DZ,this,Eg]
    rw[h0];unfold Eg;split<;>omega
   have:Eg (DZ m x)=0:=by simp[DZ,ha,Eg]
   omega
 have h0:((yL m).map λs=>Eg (DZ s x)).sum=0:=by
  rw[Md];intro t ht;simp[DZ,hw,Eg]
 omega
theorem eE{G:Nat->Nat}:((yL n).map λt=>F t+G t).sum=((yL n).map F).sum+((yL n).map G).sum:=by
 induction n with
 |zero=>rfl
 |succ n ih=>rw[xj,xM,xM,xM,wW,wW,wW,ih];simp;omega
theorem aM (m:Nat)(l:List Bz):((yL m).map λs=>Cq l s).sum<=Al l 2:=by
 induction l with
 |nil=>
  have:((yL m).map λs=>Cq [] s).sum=0:=by rw[Md];intro t _;rfl
  omega
 |cons x l ih=>
  have e:∀s,s<m->Cq (x::l) s=Cq l s+Eg (DZ s x):=λs _=>by unfold Cq Eg;rw[xE]
  rw[LI e,eE];have e2:Al (x::l) 2=Al l 2+Eg (Pg 2 x):=by unfold Al Eg;rw[xE]
  have:=aN m x;have jU:((yL m).map (Cq l)).sum<=Al l 2:=ih;omega
theorem count_le (hn:n<l.length){w:Int}(hw:(AD l n).w≠w):Al l w+1<=l.length:=by
 have O:=Pa (y:=⟨w,0,false⟩) (w:=w) hn;have Y:Al (l.set n ⟨w,0,false⟩) w<=(l.set n ⟨w,0,false⟩).length:=wC;rw[yi] at Y;have h3:Eg (Pg w (AD l n))=0:=by simp[Pg,hw,Eg]
 have h4:Eg (Pg w ⟨w,0,false⟩)=1:=by simp[Pg,Eg]
 omega
theorem Ti{s:List (List Int)}(h:∃i,i<s.length/\AJ s i=[]):0<=Bt s/\(Bt s).toNat<s.length/\AJ s (Bt s).toNat=[]:=by obtain⟨i,E,he⟩:=h;have ha:s.any vl=true:=LU.2 ⟨_,Dl (d:=[]) E,by unfold AJ at he;rw[he];rfl⟩;unfold Bt;rw[if_pos ha];have hl:s.findIdx vl<s.length:=vM.2 (LU.1 ha);refine⟨ω,by simpa using hl,?_⟩;have:=vD (w:=hl);unfold AJ;simpa[hl] using this
theorem Dz.slot (h:Dz p)(hn:n<16)(hw:(AD p.XY n).w≠2):0<=Bt p.swap/\(Bt p.swap).toNat<16/\AJ p.swap (Bt p.swap).toNat=[]:=by
 rw[<-h.zN];refine Ti (Classical.byContradiction λjx=>?_);have O:∀s,s<16->Cq p.XY s=1:=by
  intro s hs;have:=h.slots s hs;rw[if_neg] at this
  .exact this
  intro he
  exact jx ⟨s,by rw[h.zN];exact hs,Jz.1 he⟩
 have Y:=aM 16 p.XY;rw[LI O] at Y;have h3:=count_le (l:=p.XY) (n:=n) (by rw[h.zY];exact hn) hw;rw[h.zY] at h3;have h4:((yL 16).map λ_=>1).sum=16:=ψ;omega
theorem Po (h:Dz p)(hn:n<16)(hw:(AD p.XY n).w=1):
 (Eu p n).Ve= {JL p.Ve (Bf p.low (n/4)).toNat (n%4) 0 with ZJ:=(JL p.Ve (Bf p.low (n/4)).toNat (n%4) 0).ZJ.set (AD p.XY n).a.toNat AW.zero}:=by
 have hl:=h.lows (n/4) ω;have hJ:=h.zU (i:=n/4) ω;obtain⟨f1,f2,f3⟩:=h.zQ hn hw;have fk:=h.zR hn hw;unfold Eu JN;rw[XF h.k h.may h.alone hl.1 hl.2.1 hJ.2 hl.2.2.2.1 ω (.inl rfl)];have jz:EP (AD p.XY n).a.toNat (Aw p.Ve.mem (Bf p.low (n/4)).toNat (n%4))=true:=f1;have bu:JK (JL p.Ve (Bf p.low (n/4)).toNat (n%4) 0).ZJ (AD p.XY n).a.toNat= {JK p.Ve.ZJ (AD p.XY n).a.toNat with r:=0}:=by
  unfold JL
  show JK (BI (BI p.Ve.ZJ (Aw p.Ve.mem (Bf p.low (n/4)).toNat (n%4)) (-1)) 0 1) _=_
  rw[GE (by rw[Cy];exact h.k.len),GE h.k.len,jz,f3.2];simp[EP,Bx,Eg]
 rw[Zd (k:=JL p.Ve (Bf p.low (n/4)).toNat (n%4) 0) h.may f2.1 f2.2]
 .show(JK (JL p.Ve (Bf p.low (n/4)).toNat (n%4) 0).ZJ (AD p.XY n).a.toNat).k=1
  rw[bu];exact fk.2
 .rw[bu];exact f3.1
 rw[bu]
theorem TE{w:Int}(ht:t<m.length)(D:b<(AJ m t).length):Aw (Cs m t b w) f i=if f=t/\i=b then w else Aw m f i:=by
 unfold Aw;rw[Ia]
 by_cases e:f=t
 .subst e
  rw[if_pos ⟨rfl,ht⟩,KP]
  by_cases e2:i=b
  .simp[e2,D]
  simp[e2]
 simp[e]
variable{al:Array Φ}
theorem U5{f:FuncId}(h:∀J,Γ w1 w1 J->Ξ P f al J λe cm=>e=.returned v/\Γ J.heap.size J cm):
 ∀d os,Ξ P f al (vp (redrawn w1 d) os) λe cm=>e=.returned v/\∃p:Regrown,cm=vp (redrawn w1 p.d) p.os:=λd os=>Calls.regrown_of (h _ (below_regrown w1 d os))
theorem V8{f:FuncId}(h:∀J,Ξ P f al J λe cm=>e=.returned v/\J=cm):
 ∀d os,Ξ P f al (vp (redrawn w1 d) os) λe cm=>e=.returned v/\∃p:Regrown,cm=vp (redrawn w1 p.d) p.os:=U5 λJ _=>(h J).mono λe cm ⟨he,hw⟩=>⟨he,hw▸yN _ _⟩
theorem A7{f:FuncId}(h:Ξ P f al w λe J=>e=.returned v/\w=J):Ξ P f al w λe J=>e=.returned v/\Γ w w J:=h.mono λe cm ⟨he,hw⟩=>⟨he,hw▸yN _ _⟩
theorem On{f:FuncId}(h:Ξ P f al w λe J=>e=.returned v/\∃n,J=w.drewN n):Ξ P f al w λe J=>e=.returned v/\Γ w w J:=
 h.mono λe cm ⟨he,n,hw⟩=>⟨he,hw▸Ai (yN _ _) n⟩
theorem Ps{a b:Φ}(h:a=b):Ending.returned a=.returned b:=by rw[h]
section
variable {w:Ω} {a:Option Addr}
theorem Uw.zZ{xs:List AW}(h:Uw 3 Au w a xs){k:Nat}(z:k<xs.length):∃b X,a=some ⟨b,X,none⟩/\b<w.heap.size/\w.cell? ⟨b,X+k*3,none⟩=some (.int .i64 (JK xs k).k)/\w.cell? ⟨b,X+k*3+1,none⟩=some (.string (JK xs k).g)/\w.cell? ⟨b,X+k*3+2,none⟩=some (.int .i64 (JK xs k).r):=by obtain⟨b,X,rfl,au,V⟩:=h k (JK xs k) (by simp[JK,z]);exact⟨b,X,rfl,au,V 0 _ rfl,V 1 _ rfl,V 2 _ rfl⟩
theorem Uw.zV{xs:List Ag}(h:Uw 4 AZ w a xs){k:Nat}(z:k<xs.length):∃b X,a=some ⟨b,X,none⟩/\b<w.heap.size/\w.cell? ⟨b,X+k*4,none⟩=some (.int .i64 (AU xs k).e)/\w.cell? ⟨b,X+k*4+1,none⟩=some (.int .i64 (AU xs k).p)/\w.cell? ⟨b,X+k*4+2,none⟩=some (.int .i64 (AU xs k).f)/\w.cell? ⟨b,X+k*4+3,none⟩=some (.bool (AU xs k).w):=by obtain⟨b,X,rfl,au,V⟩:=h k (AU xs k) (by simp[AU,z]);exact⟨b,X,rfl,au,V 0 _ rfl,V 1 _ rfl,V 2 _ rfl,V 3 _ rfl⟩
end
theorem Jh.cellAt (h:Jh w a xs)(z:k<xs.length):∃b X,a=some ⟨b,X,none⟩/\b<w.heap.size/\w.cell? ⟨b,X+k,none⟩=some (.int .i64 (nth xs k)):=by obtain⟨b,X,rfl,V⟩:=h.at z;exact⟨b,X,rfl,yK w _ V,V⟩
def L5(w:Ω)(a:Option Addr)(m:List (List Int)):Prop:=∀f,f<m.length->∃b X u,a=some ⟨b,X,none⟩/\b<w.heap.size/\w.cell? ⟨b,X+f,none⟩=some u/\A3 w u (AJ m f)
theorem Bn.open (h:Bn w v m):∃a H,v=.slice a m.length H/\m.length<=H/\H<=maxLen/\L5 w a m:=by
 obtain⟨vs,O,Y⟩:=h;obtain⟨a,H,rfl,V,aq,ai⟩:=BN.open Ej ψ O;refine⟨a,H,by rw[Y.1],by rw[<-Y.1];exact V,aq,λf K=>?_⟩;have hv:f<vs.length:=by rw[Y.1];exact K
 obtain⟨b,X,rfl,au,ax⟩:=ai f _ (yG hv);refine⟨b,X,vs[f],rfl,au,by simpa using ax 0 _ rfl,Y.2 f _ _ (yG hv) ?_⟩;unfold AJ;exact A9 K
theorem L5.below (h:L5 w a m)(D:Γ w w J):L5 J a m:=by intro f K;obtain⟨b,X,u,rfl,au,V,hr⟩:=h f K;exact⟨b,X,u,rfl,yt au D.size,(D.cell (p:=⟨b,X+f,none⟩) au).trans V,hr.below D⟩
theorem Bb{Q:Exit->Act->Ω->Prop}{a:Act}{l:List Oper}
 (h:wpQuiet prog l.toArray (λJ=>∃p:Regrown,J=vp (redrawn w p.d) p.os) (λa'=>∀J,(∃p:Regrown,J=vp (redrawn w p.d) p.os)->Q .normal a' J) l a)(hB:Region.lexB .any l.toArray=true:=by kernel_rfl):(vY id l.toArray true).wp prog Q a w:=
 wp_region_quiet_below mixed hB h
theorem Ba{Q:Act->Ω->Prop}{a:Act}(h:∀wq,Γ w w wq->Q a wq):wpQuiet P ops (λJ=>∃p:Regrown,J=vp (redrawn w p.d) p.os) (λa'=>∀J,(∃p:Regrown,J=vp (redrawn w p.d) p.os)->Q a' J) [] a:=by refine wpQuiet_nil ?_;rintro J ⟨⟨d,os⟩,rfl⟩;exact h _ (below_regrown w d os)
def Uu(w:Ω)(a:Option Addr)(bs:List Int):Prop:=
 ∀k,k<bs.length->∃b X,a=some ⟨b,X,none⟩/\∀j,j<bs.length->w.cell? ⟨b,X+j,none⟩=some (.int .u8 (nth bs j))/\0<=nth bs j/\nth bs j<256
theorem GM.open (h:GM w v xs):
 ∃a H,v=.slice a xs.length H/\xs.length<=H/\H<=maxLen/\Uu w a xs:=by
 obtain⟨⟨a,H,rfl,bx,aq,hl,_,V⟩,iE⟩:=h;refine⟨a,H,rfl,bx,aq,λk z=>?_⟩;obtain⟨b,X,rfl,ax⟩:=V ω;refine⟨b,X,rfl,λj A=>⟨?_,?_⟩⟩
 .rw[ax j ω,xq,SZ A]
  rfl
 rw[Nv A]
 exact iE _ (tY A)
theorem Uu.at (h:Uu w a xs)(z:k<xs.length):
 ∃b X,a=some ⟨b,X,none⟩/\w.cell? ⟨b,X+k,none⟩=some (.int .u8 (nth xs k))/\0<=nth xs k/\nth xs k<256:=by
 obtain⟨b,X,rfl,V⟩:=h k z;exact⟨b,X,rfl,V k z⟩
def Fd(w0 w:Ω)(R:Φ)(hx:Nat):Prop:=
 ∃g c8 bs,∃p:Nat,R=.pointer (some ⟨g,0,none⟩)/\w0.heap.size<=g/\w.heap[g]?=some (.cells #[c8,p] 85 (0,0))/\GM w0 c8 bs/\bs.length<=2000/\p<=hx
theorem Yr{ab:Int}(h0:0<=ab)(O:ab<=1000000000):0<=bits .xor .i64 ab (ab/64):=by
 obtain⟨x,rfl⟩:=Int.eq_ofNat_of_zero_le h0;have e:((x:Int)/64)=((x/64:Nat):Int):=ω;have ha:x<2 ^ 40:=ω;have D:x/64<2 ^ 40:=ω;have iG:x%2 ^ wU.bits=x:=rY (yt ha ψ);have jj:x/64%2 ^ wU.bits=x/64:=rY (yt D ψ);have N:x ^^^ (x/64)<2 ^ 40:=Nat.xor_lt_two_pow ha D;rw[e];simp only[bits,BitVec.ofInt_natCast,BitVec.toNat_xor,BitVec.toNat_ofNat,iG,jj];rw[xA _ ω];omega
def Xa(w0 w:Ω)(R:Φ)(hx:Nat)(n:Int)(e:Ending)(J:Ω):Prop:=
 ∃x:Int,e=.returned (.int .i64 x)/\(0<=x/\(0<n->x<n)/\(n<=0->x=0))/\Fd w0 J R (hx+1)/\Γ w0 w0 J/\∃g,R=.pointer (some ⟨g,0,none⟩)/\w.grownBy J (some g)
theorem Fd.stored{p:Nat}{n:Int}(Z:w0.heap.size<=g)(ci:w.heap[g]?=some (.cells #[c8,p] 85 (0,0)))(hr:GM w0 c8 bs)(bf:bs.length<=2000)(hp:p<=hx)(D:Γ w0 w0 w):
 ∀(k:Nat)(x:Int),0<=x->(0<n->x<n)->(n<=0->x=0)->Xa w0 w (.pointer g) hx n (.returned (.int .i64 x)) ((w.setCell (g,1) (.int .i64 (p+1))).drewN k):=by
 intro k x O Y h3;refine⟨x,rfl,⟨O,Y,h3⟩,⟨g,c8,bs,p+1,rfl,Z,?_,hr,bf,ω⟩,Ai (D.setCell Z _) k,g,rfl,?_⟩
 .have:=yA w g 1 #[c8,.int .i64 p] 85 (.int .i64 (p+1)) ci
  simpa using this
 refine⟨rfl,rfl,rfl,by simp[World.drewN],λb jj bb=>?_⟩
 exact heap_setCell_other w ⟨g,1,none⟩ b _ (λe=>bb (by simp[e]))
theorem cW (w0:Ω)(R:Φ)(hx:Nat)(n:Int)(w:Ω)(h:Fd w0 w R hx)(D:Γ w0 w0 w)(hN:hx<=1000000)(hn:n<=1000000):
 Ξ prog 23 #[R,.int .i64 n] w (Xa w0 w R hx n):=by
 obtain⟨g,c8,bs,p,rfl,Z,ci,hR,bf,hp⟩:=h;have S:=AA (Fd.stored (n:=n) Z ci hR bf hp D);have c0:w.cell? g=some c8:=yx w g 0 _ _ _ ci;have c1:w.cell? (g,1)=some (.int .i64 p):=yx w g 1 _ _ _ ci;have f1:w.frozen? (g,1)=false:=frozen_of_row w g 1 _ _ ci;clear ci
 by_cases O:n<1
 .go_in
  go_wp2;go_ret;exact S 0 0 ω ω ω
 obtain⟨a,c,hv,V,aq,hA⟩:=hR.open;subst hv;unfold maxLen at aq
 by_cases Y:bs.length=0
 .have jR:((bs.length:Int)==0)=true:=by simp[Y]
  clear Y;go_in;go_wp2;go_ret;exact S 0 0 ω ω ω
 have jR:((bs.length:Int)==0)=false:=by simp[Y]
 have g5:0<bs.length:=ω;clear Y
 by_cases h3:p<bs.length
 .obtain⟨b,X,rfl,D0,jN,br⟩:=hA.at h3
  have bC:=yK w0 _ D0;have hb:w.cell? (b,X+p)=some (.int .u8 (nth bs p)):=(D.cell bC).trans D0;clear D0 hA;have bb:b≠g:=by rintro rfl;simp at bC;omega
  clear bC;go_in;go_wp2;go_ret;exact S 0 _ (tN _ ω) (λ_=>vk _ ω) ω
 have m1:(p:Int).tmod bs.length=(p:Int)%bs.length:=wF ω;have m2:0<=(p:Int)%bs.length:=tN _ ω;have m3:(p:Int)%bs.length<bs.length:=vk _ ω;have m4:((p:Int)%bs.length).toNat=p%bs.length:=by rw[show(p:Int)%bs.length=((p%bs.length:Nat):Int) from rfl,yq]
 have q1:0<=(p:Int)/bs.length:=Int.ediv_nonneg ω ω;have q2:(p:Int)/bs.length<=p:=Int.ediv_le_self _ ω;have s1:wU.wrap ((p:Int)*7)=p*7:=xA _ ω;have s2:wU.wrap ((p:Int)*7+3)=p*7+3:=xA _ ω;have k1:((p:Int)*7+3).tmod bs.length=((p:Int)*7+3)%bs.length:=wF ω;have k2:0<=((p:Int)*7+3)%bs.length:=tN _ ω;have k3:((p:Int)*7+3)%bs.length<bs.length:=vk _ ω;have k4:(((p:Int)*7+3)%bs.length).toNat=(p*7+3)%bs.length:=by rw[show((p:Int)*7+3)%bs.length=(((p*7+3)%bs.length:Nat):Int) by push_cast;rfl,yq]
 have jE:p%bs.length<bs.length:=su _ g5;have i8:(p*7+3)%bs.length<bs.length:=su _ g5;obtain⟨b,X,rfl,D0,jN,br⟩:=hA.at jE;obtain⟨b',fp,g0,E0,b9,jh⟩:=hA.at i8;obtain⟨rfl,rfl⟩:b=b'/\X=fp:=by simpa using g0
 clear g0 hA;have bC:=yK w0 _ D0;have hb:w.cell? (b,X+p%bs.length)=some (.int .u8 (nth bs (p%bs.length))):=(D.cell bC).trans D0;have hi:w.cell? (b,X+(p*7+3)%bs.length)=some (.int .u8 (nth bs ((p*7+3)%bs.length))):=(D.cell (p:=⟨b,X+(p*7+3)%bs.length,none⟩) bC).trans E0;clear D0 E0;have bb:b≠g:=by rintro rfl;simp at bC;omega
 clear bC;go_in;go_wp2;go_quiet (fail);have x0:0<=nth bs (p%bs.length)*131+nth bs ((p*7+3)%bs.length)*1117+(p:Int)*29+(p:Int)/bs.length*53:=ω;have x1:nth bs (p%bs.length)*131+nth bs ((p*7+3)%bs.length)*1117+(p:Int)*29+(p:Int)/bs.length*53<=1000000000:=ω;generalize nth bs (p%bs.length)*131+nth bs ((p*7+3)%bs.length)*1117+(p:Int)*29+(p:Int)/bs.length*53=ab at x0 x1 ⊢;go_wp2;go_ret;have y0:=Yr x0 (ω:ab<=1000000000);exact S _ _ (Int.tmod_nonneg _ y0) (λjA=>by rw[wF y0];exact vk _ jA) ω
def ak(w:Ω)(e:Ending)(J:Ω):Prop:=∃R,e=.returned R/\Fd w J R 0/\Γ w w J
theorem GM.take{c:Nat}(h:GM w (.slice a bs.length c) bs)(k:Nat)(z:k<=bs.length):GM w (.slice a k c) (bs.take k):=by
 obtain⟨⟨a',H,hv,bx,aq,hl,az,V⟩,iE⟩:=h;simp only[Value.slice.injEq,true_and] at hv;obtain⟨rfl,rfl⟩:=hv;have e:(bs.take k).length=k:=by rw[yr];omega
 refine⟨⟨a,c,by rw[e],ω,aq,χ,az,λhn=>?_⟩,λb D=>iE b (vm D)⟩;rw[e] at hn ⊢;obtain⟨b,X,rfl,ax⟩:=V ω;refine⟨b,X,rfl,λj A=>?_⟩;rw[ax j ω,List.map_take,ud,if_pos ω]
theorem Fd.opened (h:GM w c8 bs)(hl:bs.length<=2000):ak w (.returned (.pointer w)) (w.alloc (.cells #[c8,θ] 85)):=
 ⟨_,rfl,⟨_,c8,bs,0,rfl,yF _,yy w _,h,hl,yF _⟩,(yN _ _).alloc (yF _) _⟩
theorem YC (v:Φ)(bs:List Int)(w:Ω)(h:GM w v bs):
 Ξ prog 20 #[v] w (ak w):=by
 obtain⟨a,c,hv,V,aq,hA⟩:=h.open;subst hv;unfold maxLen at aq
 by_cases hl:bs.length<=2000
 .have S:=AA (Fd.opened h hl)
  have bt:¬(2000<bs.length):=ω;clear hl hA;go_in;go_wp2;go_ret;exact S.u
 have S:=AA (Fd.opened (h.take 2000 ω) (by rw[yr];omega))
 have bt:2000<bs.length:=ω;have i8:2000<=c:=ω;obtain⟨b,X,rfl,_⟩:=hA.at (k:=0) ω;clear hl hA;go_in;go_wp2;go_ret;exact S.u
theorem Fd.mono{R:Φ}{M:Nat}(h:Fd w0 w R hx)(hm:hx<=M):Fd w0 w R M:=by obtain⟨g,c8,bs,p,e1,Z,ci,hr,hl,hp⟩:=h;exact⟨g,c8,bs,p,e1,Z,ci,hr,hl,yM hp hm⟩
theorem Nw (h:AE lo w v xs)(hl:lo'<=lo):AE lo' w v xs:=by
 refine⟨h.1,?_⟩
 rcases h.2 with h'|⟨g,H,bw,rfl,D,rest⟩
 .exact .inl h'
 exact .inr ⟨g,H,bw,rfl,yM hl D,rest⟩
def Lp(xs:List Int):Bool:=xs.length==4&&xs.all (Bo · 0 9999)
theorem Gp (n:Int)(w:Ω):
 Ξ prog 48 #[.int .i64 n] w λe J=>e=.returned (.bool (Bo n 0 9999))/\w=J:=by
 go_in;go_wp2_with (go_at_call 54;refine(EU _ _ _ _).mono ?_;rintro e J ⟨rfl,rfl⟩);go_ret;exact⟨rfl,rfl⟩
theorem VL (n:Int)(w:Ω):
 Ξ prog 169 #[.int .i64 n] w λe J=>e=.returned (.bool (!Bo n 0 9999))/\w=J:=by
 go_in;go_wp2_with (go_at_call 48;refine(Gp _ _).mono ?_;rintro e J ⟨rfl,rfl⟩);go_ret;exact⟨rfl,rfl⟩
theorem XQ (xs:List Int):(!xs.any λx=>!Bo x 0 9999)=xs.all (Bo · 0 9999):=by simp[tA]
theorem QC (v:Φ)(xs:List Int)(w:Ω)(h:A3 w v xs):
 Ξ prog 106 #[v] w λe J=>e=.returned (.bool (Lp xs))/\w=J:=by
 obtain⟨a,c,rfl,V,aq,H0⟩:=h.open;unfold maxLen at aq
 by_cases h4:xs.length=4
 .have e1:Lp xs=xs.all (Bo · 0 9999):=by simp[Lp,h4]
  have D:((xs.length:Int)==4)=true:=by simp[h4]
  have ai:=AA e1;clear e1;clear h4;go_in;go_wp2_with (go_at_call 160;refine(PL 169 #[] (λx=>!Bo x 0 9999) _ xs _ h (λ_ _=>φ) (λx w=>VL x w)).mono ?_;rintro e J ⟨rfl,rfl⟩);go_ret;exact⟨AF (by rw[ai.u,XQ]),rfl⟩
 have e1:Lp xs=false:=by simp[Lp,h4]
 have D:((xs.length:Int)==4)=false:=η;have ai:=AA e1;clear e1;clear h4;go_in;go_wp2;go_ret;exact⟨AF ai.symm,rfl⟩
structure Ax where
 k:Int
 a:Int
 x:Int
 ck:Int
 ce:Int
 ca:Int
 cb:Int
 cc:Int
 nm:ByteArray
def Ax.cells(s:Ax):Array Φ:= #[.int .i64 s.k,.int .i64 s.a,.int .i64 s.x,.int .i64 s.ck,.int .i64 s.ce,.int .i64 s.ca,.int .i64 s.cb,.int .i64 s.cc,.string s.nm]
def Ax.val(s:Ax):Φ:=.agg s.cells
def Ax.ok(s:Ax):Bool:=if s.k=1 then Bo s.a 0 63 else if s.k=2 then Bo s.a 0 63&&Bo s.x 0 9999 else if s.k=3 then Bo s.ce 1 2 else false
theorem FD (n:Int)(w:Ω):
 Ξ prog 32 #[.int .i64 n] w λe J=>e=.returned (.bool (Bo n 0 63))/\w=J:=by
 go_in;go_wp2_with (go_at_call 54;refine(EU _ _ _ _).mono ?_;rintro e J ⟨rfl,rfl⟩);go_ret;exact⟨rfl,rfl⟩
theorem ZB{k a:Int}(h:k=1):Ax.ok ⟨k,a,x,ck,ce,ca,cb,cc,nm⟩=Bo a 0 63:=by simp[Ax.ok,h]
theorem ZC{k a:Int}(h:k=2):Ax.ok ⟨k,a,x,ck,ce,ca,cb,cc,nm⟩=(Bo a 0 63&&Bo x 0 9999):=by simp[Ax.ok,h]
theorem ZD{k a:Int}(h:k=3):Ax.ok ⟨k,a,x,ck,ce,ca,cb,cc,nm⟩=Bo ce 1 2:=by simp[Ax.ok,h]
theorem ZA{k a:Int}(O:k≠1)(Y:k≠2)(h3:k≠3):Ax.ok ⟨k,a,x,ck,ce,ca,cb,cc,nm⟩=false:=by simp[Ax.ok,O,Y,h3]
theorem Ja (n:Int)(w:Ω):
 Ξ prog 24 #[.int .i64 n] w λe J=>e=.returned (.bool (Bo n 1 2))/\w=J:=by
 go_in;go_wp2_with (go_at_call 54;refine(EU _ _ _ _).mono ?_;rintro e J ⟨rfl,rfl⟩);go_ret;exact⟨rfl,rfl⟩
theorem Fv (n:Int)(w:Ω):
 Ξ prog 78 #[.int .i64 n] w λe J=>e=.returned (.bool (Bo n 0 63))/\w=J:=by
 go_in;go_wp2_with (go_at_call 27;refine(DF _ _ _ _).mono ?_;rintro e J ⟨rfl,rfl⟩);go_ret;exact⟨rfl,rfl⟩
theorem Yh (s:Ax)(w:Ω):
 Ξ prog 75 #[s.val] w λe J=>e=.returned (.bool s.ok)/\Γ w w J:=by
 obtain⟨k,a,x,ck,ce,ca,cb,cc,nm⟩:=s;simp only[Ax.val,Ax.cells]
 by_cases O:k=1
 .have S:=AA (ZB (a:=a) (x:=x) (ck:=ck) (ce:=ce) (ca:=ca) (cb:=cb) (cc:=cc) (nm:=nm) O)
  subst O;go_in;go_wp2_with (first|(go_at_call 32;refine(FD _ _).mono ?_;rintro e J ⟨rfl,rfl⟩)|(go_at_call 48;refine(Gp _ _).mono ?_;rintro e J ⟨rfl,rfl⟩)|(go_at_call 24;refine(Ja _ _).mono ?_;rintro e J ⟨rfl,rfl⟩));go_ret;exact⟨AF S.symm,(yN _ _).alloc (yF _) _⟩
 have t1:(k==1)=false:=by simp[O]
 by_cases Y:k=2
 .have S:=AA (ZC (a:=a) (x:=x) (ck:=ck) (ce:=ce) (ca:=ca) (cb:=cb) (cc:=cc) (nm:=nm) Y)
  subst Y;clear O t1;go_in;cases b5:Bo a 0 63
  rotate_left
  rotate_left
  all_goals
   rw[b5] at S
   have iK:=AA b5;clear b5;go_wp2_with (first|(go_at_call 32;refine(FD _ _).mono ?_;rintro e J ⟨rfl,rfl⟩;rw[iK.u])|(go_at_call 48;refine(Gp _ _).mono ?_;rintro e J ⟨rfl,rfl⟩)|(go_at_call 24;refine(Ja _ _).mono ?_;rintro e J ⟨rfl,rfl⟩));go_ret;exact⟨AF S.symm,(yN _ _).alloc (yF _) _⟩
 have t2:(k==2)=false:=by simp[Y]
 by_cases h3:k=3
 .have S:=AA (ZD (a:=a) (x:=x) (ck:=ck) (ce:=ce) (ca:=ca) (cb:=cb) (cc:=cc) (nm:=nm) h3)
  subst h3;clear O t1 Y t2;go_in;go_wp2_with (first|(go_at_call 32;refine(FD _ _).mono ?_;rintro e J ⟨rfl,rfl⟩)|(go_at_call 48;refine(Gp _ _).mono ?_;rintro e J ⟨rfl,rfl⟩)|(go_at_call 24;refine(Ja _ _).mono ?_;rintro e J ⟨rfl,rfl⟩));go_ret;exact⟨AF S.symm,(yN _ _).alloc (yF _) _⟩
 have t3:(k==3)=false:=by simp[h3]
 have S:=AA (ZA (a:=a) (x:=x) (ck:=ck) (ce:=ce) (ca:=ca) (cb:=cb) (cc:=cc) (nm:=nm) O Y h3);clear O Y h3;go_in;go_wp2;go_ret;exact⟨AF S.symm,(yN _ _).alloc (yF _) _⟩
theorem QH (s:Ax)(w:Ω):
 Ξ prog 47 #[s.val] w λe J=>e=.returned (.bool s.ok)/\Γ w w J:=by
 obtain⟨k,a,x,ck,ce,ca,cb,cc,nm⟩:=s;simp only[Ax.val,Ax.cells]
 by_cases O:k=1
 .have S:=AA (ZB (a:=a) (x:=x) (ck:=ck) (ce:=ce) (ca:=ca) (cb:=cb) (cc:=cc) (nm:=nm) O)
  subst O;go_in;go_wp2_with (first|(go_at_call 78;refine(Fv _ _).mono ?_;rintro e J ⟨rfl,rfl⟩)|(go_at_call 27;refine(DF _ _ _ _).mono ?_;rintro e J ⟨rfl,rfl⟩));go_ret;exact⟨AF S.symm,(yN _ _).alloc (yF _) _⟩
 have t1:(k==1)=false:=by simp[O]
 by_cases Y:k=2
 .have S:=AA (ZC (a:=a) (x:=x) (ck:=ck) (ce:=ce) (ca:=ca) (cb:=cb) (cc:=cc) (nm:=nm) Y)
  subst Y;clear O t1;go_in;cases b5:Bo a 0 63
  rotate_left
  rotate_left
  all_goals
   rw[b5] at S
   have iK:=AA b5;clear b5;go_wp2_with (first|(go_at_call 78;refine(Fv _ _).mono ?_;rintro e J ⟨rfl,rfl⟩;rw[iK.u])|(go_at_call 27;refine(DF _ _ _ _).mono ?_;rintro e J ⟨rfl,rfl⟩));go_ret;exact⟨AF S.symm,(yN _ _).alloc (yF _) _⟩
 have t2:(k==2)=false:=by simp[Y]
 by_cases h3:k=3
 .have S:=AA (ZD (a:=a) (x:=x) (ck:=ck) (ce:=ce) (ca:=ca) (cb:=cb) (cc:=cc) (nm:=nm) h3)
  subst h3;clear O t1 Y t2;go_in;go_wp2_with (first|(go_at_call 78;refine(Fv _ _).mono ?_;rintro e J ⟨rfl,rfl⟩)|(go_at_call 27;refine(DF _ _ _ _).mono ?_;rintro e J ⟨rfl,rfl⟩));go_ret;exact⟨AF S.symm,(yN _ _).alloc (yF _) _⟩
 have t3:(k==3)=false:=by simp[h3]
 have S:=AA (ZA (a:=a) (x:=x) (ck:=ck) (ce:=ce) (ca:=ca) (cb:=cb) (cc:=cc) (nm:=nm) O Y h3);clear O Y h3;go_in;go_wp2;go_ret;exact⟨AF S.symm,(yN _ _).alloc (yF _) _⟩
theorem EA (n:Int)(w:Ω):Ξ prog 98 #[.int .i64 n] w λe J=>e=.returned (.bool (Bo n 0 11))/\w=J:=by go_in;go_wp2_with (go_at_call 54;refine(EU _ _ _ _).mono ?_;rintro e J ⟨rfl,rfl⟩);go_ret;exact⟨rfl,rfl⟩
theorem QB (n:Int)(w:Ω):Ξ prog 179 #[.int .i64 n] w λe J=>e=.returned (.bool (Bo n 0 3))/\w=J:=by go_in;go_wp2_with (go_at_call 54;refine(EU _ _ _ _).mono ?_;rintro e J ⟨rfl,rfl⟩);go_ret;exact⟨rfl,rfl⟩
theorem Rs (n:Int)(w:Ω):Ξ prog 69 #[.int .i64 n] w λe J=>e=.returned (.bool (Bo n 0 15))/\w=J:=by go_in;go_wp2_with (go_at_call 54;refine(EU _ _ _ _).mono ?_;rintro e J ⟨rfl,rfl⟩);go_ret;exact⟨rfl,rfl⟩
theorem Jv (f:Int)(w:Ω)(h0:0<=f)(O:f<=11):Ξ prog 108 #[.int .i64 f,.bool true] w λe J=>e=.returned (.tuple #[.int .i64 (Ii f),τ])/\w=J:=by have ai:=AA (show Bo f 0 11=true from Aa.2 ⟨h0,O⟩);go_in;go_wp2_with (go_at_call 98;refine(EA _ _).mono ?_;rintro e J ⟨rfl,rfl⟩;rw[ai.u]);go_ret2;exact⟨rfl,rfl⟩
theorem Py (f:Int)(b:Bool)(w:Ω)(h:Bo f 0 11=false):Ξ prog 108 #[.int .i64 f,.bool b] w λe J=>e=.returned (.tuple #[θ,υ])/\w=J:=by have ai:=AA h;clear h;go_in;go_wp2_with (go_at_call 98;refine(EA _ _).mono ?_;rintro e J ⟨rfl,rfl⟩;rw[ai.u]);go_ret2;exact⟨rfl,rfl⟩
theorem WP (h:Bx x=true):0<x/\x<48/\x%2=1:=by simp only[Bx,yC,decide_eq_true_eq] at h;omega
theorem WO (h:Bx x=true):((BQ x:Nat):Int)=x/4:=by have:=WP h;unfold BQ;omega
def VE(x:Int):Φ:=.tuple #[.int .i64 (if Bx x then((BQ x:Nat):Int) else 0),.bool (Bx x&&LY x),.bool (Bx x)]
theorem Er (h:Bx x=true):VE x=.tuple #[.int .i64 ((BQ x:Nat):Int),.bool (LY x),τ]:=by simp[VE,h]
theorem Ev (h:Bx x=false):VE x=.tuple #[θ,υ,υ]:=by simp[VE,h]
theorem Fl (x:Int)(w:Ω)(N:x<=9223372036854775807):Ξ prog 158 #[.int .i64 x] w λe J=>e=.returned (VE x)/\w=J:=by
 by_cases h0:x<0
 .have hi:=AA (Ev (x:=x) (by simp[Bx];omega))
  go_in;go_wp2_with fail;go_ret3;exact⟨Ps hi.symm,rfl⟩
 have j9:0<=x:=ω;by_cases O:x%2=0
 .have hi:=AA (Ev (x:=x) (by simp[Bx];omega))
  have t:(x%2==0)=true:=by simp[O]
  clear O;go_in;go_wp2_with fail;go_ret3;exact⟨Ps hi.symm,rfl⟩
 have t:(x%2==0)=false:=η;cases D:Bo (x/4) 0 11
 focus
  have hi:=AA (Ev (x:=x) (by have:=VJ.1 D;simp[Bx];omega))
  have ai:=AA D;clear D O
 rotate_left
 focus
  have Z:Bx x=true:=by have:=Aa.1 D;simp[Bx];omega
  have W:LY x=(x%4==3):=by cases h:(x%4==3)<;>simp_all[LY]
  have hi:=AA (show VE x=.tuple #[.int .i64 (x/4),.bool (x%4==3),τ] by rw[Er Z,WO Z,W]);clear W;have ai:=AA D;clear D O Z
 rotate_left
 all_goals
  go_in;go_wp2_with (go_at_call 98;refine(EA _ _).mono ?_;rintro e J ⟨rfl,rfl⟩;rw[ai.u]);go_ret3;exact⟨Ps hi.symm,rfl⟩
theorem Qw (a:Nat)(w:Ω)(h:a<64):Ξ prog 167 #[.int .i64 a] w λe J=>e=.returned (.tuple #[.int .i64 ((a/16:Nat):Int),.int .i64 ((a/4%4:Nat):Int),.int .i64 ((a%4:Nat):Int),τ])/\w=J:=by
 have ai:=AA (show Bo (a:Int) 0 63=true from Aa.2 ω);have e1:(a:Int)/16=((a/16:Nat):Int):=ω;have e2:(a:Int)/4%4=((a/4%4:Nat):Int):=ω;have e3:(a:Int)%4=((a%4:Nat):Int):=ω;have hi:=AA (And.intro e1 (And.intro e2 e3));clear e1 e2 e3;go_in;go_wp2_with (go_at_call 32;refine(FD _ _).mono ?_;rintro e J ⟨rfl,rfl⟩;rw[ai.u]);refine bodyPost_ret (v:=.tuple #[.int .i64 ((a:Int)/16),.int .i64 ((a:Int)/4%4),.int .i64 ((a:Int)%4),τ]) (by simp[results,Tryz.results167,go_sem]) rfl ⟨?_,rfl⟩;rw[hi.1,hi.2.1,hi.2.2]
theorem MD (k:Int)(w:Ω):Ξ prog 166 #[.int .i64 k] w λe J=>e=.returned (.int .i64 (Wt k))/\w=J:=by
 by_cases h3:k=3
 .subst h3
  go_in;go_wp2;go_ret;exact⟨rfl,rfl⟩
 have t3:(k==3)=false:=by simp[h3]
 by_cases Y:k=2
 .subst Y
  go_in;go_wp2;go_ret;exact⟨rfl,rfl⟩
 have t2:(k==2)=false:=by simp[Y]
 have hi:=AA (show Wt k=0 by simp[Wt,Bp,Y,h3]);clear Y h3;go_in;go_wp2;go_ret;exact⟨DI hi.symm,rfl⟩
theorem GJ (k:Int)(w:Ω):Ξ prog 101 #[.int .i64 k] w λe J=>e=.returned (.bool (Bp k))/\w=J:=by
 by_cases Y:k=2
 .subst Y
  go_in;go_wp2;go_ret;exact⟨rfl,rfl⟩
 have t2:(k==2)=false:=by simp[Y]
 have hi:=AA (show Bp k=(k==3) by cases h:(k==3)<;>simp_all[Bp]);clear Y;go_in;go_wp2;go_ret;exact⟨AF hi.symm,rfl⟩
theorem QQ (k:Int)(w:Ω):Ξ prog 181 #[.int .i64 k] w λe J=>e=.returned (.int .i64 (IC k))/\w=J:=by
 by_cases h3:k=0
 .subst h3
  go_in;go_wp2;go_ret;exact⟨rfl,rfl⟩
 have t3:(k==0)=false:=by simp[h3]
 by_cases Y:k=1
 .subst Y
  go_in;go_wp2;go_ret;exact⟨rfl,rfl⟩
 have t2:(k==1)=false:=by simp[Y]
 have hi:=AA (show IC k=3 by simp[IC,Y,h3]);clear Y h3;go_in;go_wp2;go_ret;exact⟨DI hi.symm,rfl⟩
theorem Ed (n:Int)(w:Ω):Ξ prog 90 #[.int .i64 n] w λe J=>e=.returned (.bool (Bo n 0 11))/\w=J:=by go_in;go_wp2_with (go_at_call 27;refine(DF _ _ _ _).mono ?_;rintro e J ⟨rfl,rfl⟩);go_ret;exact⟨rfl,rfl⟩
theorem J7 (n:Int)(w:Ω):Ξ prog 205 #[.int .i64 n] w λe J=>e=.returned (.bool (Bo n 0 2))/\w=J:=by go_in;go_wp2_with (go_at_call 27;refine(DF _ _ _ _).mono ?_;rintro e J ⟨rfl,rfl⟩);go_ret;exact⟨rfl,rfl⟩
theorem GQ (n:Int)(w:Ω):Ξ prog 147 #[.int .i64 n] w λe J=>e=.returned (.bool (Bp n))/\w=J:=by
 by_cases Y:n=2
 .subst Y
  go_in;go_wp2;go_ret;exact⟨rfl,rfl⟩
 have t2:(n==2)=false:=by simp[Y]
 have hi:=AA (show Bp n=(n==3) by by_cases h3:n=3<;>simp[Bp,Y,h3]);clear Y;go_in;go_wp2;go_ret;exact⟨AF hi.symm,rfl⟩
def Ei(x:Int):Int:=if x=0 then 0 else if Bx x then 1 else 2
theorem Kp (x:Int)(w:Ω):Ξ prog 237 #[.int .i64 x] w λe J=>e=.returned (.int .i64 (Ei x))/\w=J:=by
 by_cases h0:x=0
 .subst h0
  go_in;go_wp2;go_ret;exact⟨rfl,rfl⟩
 have t0:(x==0)=false:=by simp[h0]
 by_cases O:0<x
 .by_cases Y:x%2=1
  .have t2:(x%2==1)=true:=by simp[Y]
   by_cases h3:x<48
   .have hi:=AA (show Ei x=1 by unfold Ei;rw[if_neg h0,if_pos (by simp[Bx,O,Y,h3])])
    clear Y h0;go_in;go_wp2;go_ret;exact⟨DI hi.symm,rfl⟩
   have hi:=AA (show Ei x=2 by unfold Ei;rw[if_neg h0,if_neg (by simp[Bx,O,Y,h3])])
   clear Y h0;go_in;go_wp2;go_ret;exact⟨DI hi.symm,rfl⟩
  have t2:(x%2==1)=false:=by simp[Y]
  have hi:=AA (show Ei x=2 by unfold Ei;rw[if_neg h0,if_neg (by simp[Bx,Y])]);clear Y h0;go_in;go_wp2;go_ret;exact⟨DI hi.symm,rfl⟩
 have hi:=AA (show Ei x=2 by unfold Ei;rw[if_neg h0,if_neg (by simp[Bx,O])])
 clear h0;go_in;go_wp2;go_ret;exact⟨DI hi.symm,rfl⟩
theorem Da (x:Int)(w:Ω)(N:x<=9223372036854775807):Ξ prog 211 #[.int .i64 x] w λe J=>e=.returned (VE x)/\w=J:=by
 cases Z:Bx x
 focus
  have hi:=AA (Ev Z)
  have hf:(Ei x !=1)=true:=by unfold Ei;split<;>simp[Z]
  generalize z:Ei x=k at hf;have HK:=AA z;clear Z z
 rotate_left
 focus
  have hp:0<x/\x%2=1/\x<48:=by simpa[Bx,and_assoc] using Z
  have W:LY x=(x%4==3):=by cases h:(x%4==3)<;>simp_all[LY]
  have hi:=AA (show VE x=.tuple #[.int .i64 (x/4),.bool (x%4==3),τ] by rw[Er Z,WO Z,W]);have HK:=AA (show Ei x=1 by unfold Ei;rw[if_neg ω,Z];rfl);have h0:0<=x:=ω;clear Z W hp
 rotate_left
 all_goals
  go_in;go_wp2_with (go_at_call 237;refine(Kp _ _).mono ?_;rintro e J ⟨rfl,rfl⟩;rw[HK.u]);go_ret3;exact⟨Ps hi.symm,rfl⟩
theorem QX (h:k<s.size)(V:F8 s[k]=false):BT s=false:=by
 have:s.data.toList.all F8=false:=by rw[wZ];exact⟨s[k],by simp[uH],by simp[V]⟩
 simp[BT,this]
theorem Vj{s:ByteArray}(h:∀k (z:k<s.size),F8 s[k]=true):BT s=decide ((s.size:Int)<=4):=by
 have:s.data.toList.all F8=true:=by rw[ym];intro x N;obtain⟨k,z,rfl⟩:=xl N;have:=h k (by simpa using z);simpa[uH] using this
 rw[BT,this,Bool.true_and]
 by_cases h4:s.size<=4
 .have:(s.size:Int)<=4:=ω
  simp[h4,this]
 have:¬(s.size:Int)<=4:=ω;simp[h4,this]
theorem En (s:ByteArray)(w:Ω)(hs:s.size<=maxLen):
 Ξ prog 200 #[.string s] w λe J=>e=.returned (.bool (BT s))/\w=J:=by
 unfold maxLen at hs;go_in;go_wp2_with fail;go_loop [3] (λi=>∃k:Nat,k<=s.size/\i=.int .i64 k/\∀j (A:j<s.size),j<k->F8 s[j]=true) (λi=>s.size - (intOf i).toNat)
 exact⟨0,yu _,rfl,λj _ A=>absurd A (xU _)⟩
 obtain⟨k,z,rfl,am⟩:=hrel;have ar:=AA am;clear am
 by_cases au:k<s.size
 .by_cases O:s[k].toNat<97
  .have S:=AA (QX (s:=s) au (by simp[F8];omega))
   have t1:(s[k].toNat:Int)<97:=ω;go_wp2;go_ret;exact⟨AF S.symm,rfl⟩
  by_cases Y:99<s[k].toNat
  .have S:=AA (QX (s:=s) au (by simp[F8];omega))
   have t1:(99:Int)<s[k].toNat:=ω;have t2:¬(s[k].toNat:Int)<97:=ω;go_wp2;go_ret;exact⟨AF S.symm,rfl⟩
  have Ok:=AA (show F8 s[k]=true by simp[F8];omega)
  have t1:¬(99:Int)<s[k].toNat:=ω;have t2:¬(s[k].toNat:Int)<97:=ω;go_wp2;go_round
  case rel=>exact⟨k+1,ω,ξ,λj A iu=>by
   rcases xK.1 iu with h|h
   .exact ar j A h
   subst h;exact Ok.u⟩
  case measure=>simp[intOf];omega
 have S:=AA (Vj (s:=s) (λj A=>ar j A ω))
 go_wp2;go_ret;exact⟨AF S.symm,rfl⟩
theorem dh (a b:ByteArray):((b.extract 0 a.size).toList==a.toList)=L3 a b:=by rw[wL,beq_iff_eq,xI,xI];unfold L3;rw[tL,List.prefix_iff_eq_take];simp only[ByteArray.data_extract,Array.toList_extract,List.extract,Nat.sub_zero,List.drop_zero,sZ,ByteArray.size_data];exact eq_comm
theorem NU (a b:ByteArray)(w:Ω)(ha:a.size<=maxLen)(D:b.size<=maxLen):Ξ prog 151 #[.string a,.string b] w λe J=>e=.returned (.bool (L3 a b))/\w=J:=by
 unfold maxLen at ha D
 by_cases h:a.size<=b.size
 .have O:(a.size:Int)<=b.size:=ω
  have hi:=AA (dh a b);go_in;go_wp2;go_ret;exact⟨AF hi.u,rfl⟩
 have O:¬(a.size:Int)<=b.size:=ω;have hi:=AA (show L3 a b=false by
  cases V:L3 a b
  .rfl
  have:=(tL.1 V).length_le
  simp at this;omega)
 go_in;go_wp2;go_ret;exact⟨AF hi.symm,rfl⟩
theorem Kd{α:Type}{p:α->Bool}{xs:List α}{f:Nat->α}(K:∀k,k<xs.length->xs[k]?=some (f k))(h:∀j,j<xs.length->p (f j)=true):xs.all p=true:=by rw[ym];intro x N;obtain⟨j,A,rfl⟩:=xl N;have:=h j A;have e:=K j A;rw[yG A] at e;rw[yP e];exact this
theorem Jl{α:Type}{p:α->Bool}{xs:List α}{x:α}(N:xs[k]?=some x)(hp:p x=false):xs.all p=false:=by rw[wZ];exact⟨x,yw N,by simp[hp]⟩
theorem PY{α:Type}{p:α->Bool}{xs:List α}{x:α}(N:xs[k]?=some x)(hp:p x=true):xs.any p=true:=wu.2 ⟨x,yw N,hp⟩
theorem MG{α:Type}{p:α->Bool}{xs:List α}{f:Nat->α}(K:∀k,k<xs.length->xs[k]?=some (f k))(h:∀j,j<xs.length->p (f j)=false):xs.any p=false:=by rw[vi];intro x N;obtain⟨j,A,rfl⟩:=xl N;have:=h j A;have e:=K j A;rw[yG A] at e;rw[yP e];simp[this]
theorem Qq (h:k<xs.length):xs[k]?=some (nth xs k):=SZ h
theorem MN (v:Φ)(r:List Int)(w:Ω)(h:A3 w v r):Ξ prog 88 #[v] w λe J=>e=.returned (.bool (EW r))/\Γ w w J:=by
 obtain⟨a,c,rfl,V,aq,ai⟩:=h.open;unfold maxLen at aq;have HH:=AA ai;clear h ai;go_in;go_wp2_with fail;go_loopw [3] (λix wr=>∃k:Nat,k<=r.length/\ix=.int .i64 k/\(∀j,j<k->EJ (nth r j)=true)/\Γ w w wr) (λix _=>r.length - (intOf ix).toNat)
 exact⟨0,yu _,rfl,λj A=>absurd A (xU _),yN _ _⟩
 obtain⟨k,z,rfl,am,D⟩:=hrel;have ar:=AA am;clear am
 by_cases au:k<r.length
 .have ik:(k:Int)<(r.length:Int):=ω
  obtain⟨b,X,rfl,hb⟩:=(HH.below D).at au;cases hp:EJ (nth r k)
  .have S:=AA (show EW r=false by unfold EW;rw[Jl (Qq au) hp];rfl)
   have Hp:=AA hp;clear hp;go_wp2_with (refine(DF _ _ _ _).mono ?_;rintro e J ⟨rfl,rfl⟩;rw[show Bo _ 0 9999=false from Hp.u]);go_ret;exact⟨AF S.symm,D⟩
  have Hp:=AA hp
  clear hp;go_wp2_with fail;refine(DF _ _ _ _).mono ?_;rintro e J ⟨rfl,rfl⟩;rw[show Bo _ 0 9999=true from Hp.u];go_wp2;go_roundw;exact⟨k+1,ω,ξ,Am ar Hp.u,D⟩;simp[intOf];omega
 have ek:k=r.length:=ω;have am:=ar.u;rw[ek] at am;have S:=AA (show EW r=((r.length:Int)==4) by unfold EW;rw[Kd (λk z=>Qq z) am];by_cases h4:r.length=4<;>simp[h4]<;>omega);clear ar am;go_wp2;go_ret;exact⟨AF S.symm,D⟩
theorem Kk (h:k<m.length):m[k]?=some (AJ m k):=by unfold AJ;exact A9 h
theorem JH (v:Φ)(m:List (List Int))(w:Ω)(h:Bn w v m):Ξ prog 81 #[v] w λe J=>e=.returned (.bool (CJ m))/\Γ w w J:=by
 obtain⟨a,c,rfl,V,aq,ai⟩:=h.open;unfold maxLen at aq;have HH:=AA ai;clear h ai;go_in;go_wp2_with fail;go_loopw [3] (λix wr=>∃k:Nat,k<=m.length/\ix=.int .i64 k/\(∀j,j<k->EW (AJ m j)=true)/\Γ w w wr) (λix _=>m.length - (intOf ix).toNat)
 exact⟨0,yu _,rfl,λj A=>absurd A (xU _),yN _ _⟩
 obtain⟨k,z,rfl,am,D⟩:=hrel;have ar:=AA am;clear am
 by_cases au:k<m.length
 .have ik:(k:Int)<(m.length:Int):=ω
  obtain⟨b,X,u,rfl,bC,hb,hr⟩:=(HH.below D) k au;have C:=AA (MN u _ wr hr);clear hr;cases hp:EW (AJ m k)
  .have S:=AA (show CJ m=false by unfold CJ;rw[Jl (Kk au) hp];rfl)
   have Hp:=AA hp;clear hp;go_wp2_with (refine C.mono ?_;rintro e w2 ⟨rfl,b2⟩;rw[Hp.u]);go_ret;exact⟨AF S.symm,D.trans (b2.mono D.size)⟩
  have Hp:=AA hp
  clear hp;go_wp2_with fail;refine C.mono ?_;rintro e w2 ⟨rfl,b2⟩;rw[Hp.u];go_wp2;go_roundw;exact⟨k+1,ω,ξ,Am ar Hp.u,D.trans (b2.mono D.size)⟩;simp[intOf];omega
 have ek:k=m.length:=ω;have am:=ar.u;rw[ek] at am;have S:=AA (show CJ m=((m.length:Int)==12) by unfold CJ;rw[Kd (λk z=>Kk z) am];by_cases h4:m.length=12<;>simp[h4]<;>omega);clear ar am;go_wp2;go_ret;exact⟨AF S.symm,D⟩
theorem Ya{x:AW}(z:x.k=0):Dm x=decide (x=AW.zero):=by unfold Dm;rw[show Bo x.k 1 3=false from VJ.2 ω];simp
theorem Ny{x:AW}(z:x.k≠0):Dm x=(Bo x.k 1 3&&BT x.g&&Bo x.r 0 50):=by unfold Dm;rw[show decide (x=AW.zero)=false by simp;intro e;rw[e] at z;exact z rfl];simp
theorem Wf (x:AW)(w:Ω)(hs:x.g.size<=maxLen):Ξ prog 142 #[x.val] w λe J=>e=.returned (.bool (Dm x))/\Γ w w J:=by
 have E0:=Ya (x:=x);have E1:=Ny (x:=x);generalize Dm x=res at E0 E1 ⊢;obtain⟨k,g,r⟩:=x;simp only[AW.val];dsimp only at E0 E1 hs;have C:=AA (λW=>En g W hs)
 by_cases z:k=0
 .subst z
  have R:=AA (show res=(decide (g=⟨#[]⟩)&&decide (r=0)) by rw[E0 rfl];simp[AW.zero]);clear E0 E1
  by_cases Z:g=⟨#[]⟩
  .subst Z
   by_cases hr:r=0
   .subst hr
    go_in;go_wp2;go_ret;exact⟨AF (by rw[R.u];rfl),AG _ _⟩
   have R2:=AA (show res=false by rw[R.u];simp[hr])
   go_in;go_wp2;go_ret;exact⟨AF R2.symm,AG _ _⟩
  have R2:=AA (show res=false by rw[R.u];simp[Z])
  have hU:¬g.toList=[]:=λe=>Z (by rw[xI] at e;obtain⟨⟨l⟩⟩:=g;simp at e;rw[e])
  go_in;go_wp2;go_ret;exact⟨AF R2.symm,AG _ _⟩
 have t0:(k==0)=false:=by simp[z]
 have R:=AA (E1 z);clear E0 E1 z;go_in;go_wp2_with fail;refine(DF _ _ _ _).mono ?_;rintro e w2 ⟨rfl,rfl⟩;cases O:Bo k 1 3
 .have R2:=AA (show res=false by rw[R.u,O];rfl)
  go_wp2;go_ret;exact⟨AF R2.symm,AG _ _⟩
 go_wp2_with fail
 refine(C _).mono ?_;rintro e w2 ⟨rfl,rfl⟩;cases Y:BT g
 .have R2:=AA (show res=false by rw[R.u,O,Y];rfl)
  go_wp2;go_ret;exact⟨AF R2.symm,AG _ _⟩
 have R2:=AA (show res=Bo r 0 50 by rw[R.u,O,Y];rfl)
 go_wp2_with (refine(DF _ _ _ _).mono ?_;rintro e w2 ⟨rfl,rfl⟩);go_ret;exact⟨AF R2.symm,AG _ _⟩
theorem Ll{f:FuncId}(h:Ξ P f al (w.drewN n) λe J=>e=.returned v/\w.drewN n=J):Ξ P f al (w.drewN n) λe cm=>e=.returned v/\∃m,cm=w.drewN m:=
 h.mono λ_ _ ⟨he,hm⟩=>⟨he,n,hm.symm⟩
theorem Qm{wr:Ω}(h:∃n,wr=w.drewN n)(m:Nat):∃n,wr.drewN m=w.drewN n:=by obtain⟨n,rfl⟩:=h;exact⟨n+m,MJ w n m⟩
theorem J2 (h:k<ss.length)(V:DO ss k=false):BY ss=false:=by have:(yL ss.length).all (DO ss)=false:=wZ.2 ⟨k,yh.2 h,by simp[V]⟩;simp[BY,this]
theorem Nb (h:∀k,k<ss.length->DO ss k=true):BY ss=decide ((ss.length:Int)<=6):=by
 have:(yL ss.length).all (DO ss)=true:=ym.2 λk z=>h k (yh.1 z)
 rw[BY,this,Bool.true_and]
 by_cases h4:ss.length<=6
 .have:(ss.length:Int)<=6:=ω
  simp[h4,this]
 have:¬(ss.length:Int)<=6:=ω;simp[h4,this]
theorem Uw.str (h:Uw 1 A0 w a ss)(z:k<ss.length):∃b X,a=some ⟨b,X,none⟩/\w.cell? ⟨b,X+k,none⟩=some (.string (Cz ss k)):=by obtain⟨b,X,rfl,_,V⟩:=h k _ (HY z);exact⟨b,X,rfl,by simpa using V 0 _ rfl⟩
def Db(ss:List ByteArray):Prop:=∀s∈ss,s.size<=maxLen
theorem Db.nth (h:Db ss)(z:k<ss.length):(Cz ss k).size<=maxLen:=h _ (yw (HY z))
theorem Gz (v:Φ)(ss:List ByteArray)(w:Ω)(h:BZ w v ss)(hs:Db ss):
 Ξ prog 139 #[v] w λe J=>e=.returned (.bool (BY ss))/\∃n,J=w.drewN n:=by
 obtain⟨a,c,rfl,V,aq,H0⟩:=BN.open Fj ψ h;unfold maxLen at aq;have Hs:=AA hs;clear hs h;go_in;go_wp2_with fail;go_loopw [3] (λi wr=>∃k:Nat,k<=ss.length/\i=.int .i64 k/\(∀j,j<k->DO ss j=true)/\∃n,wr=w.drewN n) (λi _=>ss.length - (intOf i).toNat)
 exact⟨0,yu _,rfl,λj A=>absurd A (xU _),0,rfl⟩
 obtain⟨k,z,rfl,am,hw⟩:=hrel;have ar:=AA am;clear am;have Hw:=AA hw;clear hw
 by_cases au:k<ss.length
 .obtain⟨b,X,rfl,D0⟩:=H0.str au
  have hb:wr.cell? (b,X+k)=some (.string (Cz ss k)):=by obtain⟨n,rfl⟩:=Hw.u;exact D0
  have iq:(k:Int)<ss.length:=ω;have cP:=Hs.nth au;cases bX:BT (Cz ss k)
  .have S:=AA (J2 au (by simp[DO,bX]))
   have HQ:=AA (show ∀W,Ξ prog 200 #[.string (Cz ss k)] W λe J=>e=.returned (.bool false)/\W=J from λW=>by have:=En (Cz ss k) W cP;rwa [bX] at this);clear bX D0;go_wp2_with fail;go_quiet ((go_at_call 200;exact Ll (HQ _)));go_wp2;go_ret;exact⟨AF S.symm,Qm Hw _⟩
  have HQ:=AA (show ∀W,Ξ prog 200 #[.string (Cz ss k)] W λe J=>e=.returned (.bool true)/\W=J from λW=>by have:=En (Cz ss k) W cP;rwa [bX] at this)
  by_cases ir:k=0
  .have Ok:=AA (show DO ss k=true by simp[DO,bX];exact .inl ir)
   have t0:decide (0<k)=false:=η;clear bX ir D0;go_wp2_with fail;go_quiet ((go_at_call 200;exact Ll (HQ _)));go_wp2;go_roundw;exact⟨k+1,ω,ξ,Am ar Ok.u,Qm Hw _⟩;simp[intOf];omega
  obtain⟨b',fp,g0,E0⟩:=H0.str (ω:k - 1<ss.length)
  obtain⟨rfl,rfl⟩:b=b'/\X=fp:=by simpa using g0
  have hi:wr.cell? (b,X+(k - 1))=some (.string (Cz ss (k - 1))):=by obtain⟨n,rfl⟩:=Hw.u;exact E0
  have t0:decide (0<k)=true:=η;have jT:(0:Int)<k:=ω;have s0:wU.wrap ((k:Int) - 1)=(k:Int) - 1:=xA _ ω;have s1:((k:Int) - 1).toNat=k - 1:=ω;have s2:(k:Int) - 1<ss.length:=ω;have s3:(1:Int)<=k:=ω;have s4:(0:Int)<=(k:Int) - 1:=ω;clear D0 E0 g0;cases fn:OD (Cz ss (k - 1)) (Cz ss k)
  .have Ok:=AA (show DO ss k=true by simp[DO,bX,fn])
   have hL:wH (Cz ss (k - 1)).toList (Cz ss k).toList=true:=by simpa[OD] using fn
   clear bX fn;go_wp2_with fail;go_quiet ((go_at_call 200;exact Ll (HQ _)));go_wp2;go_roundw;exact⟨k+1,ω,ξ,Am ar Ok.u,Qm Hw _⟩;simp[intOf];omega
  have S:=AA (J2 au (by simp[DO,bX,fn,ir]))
  have hL:wH (Cz ss (k - 1)).toList (Cz ss k).toList=false:=by simpa[OD] using fn
  clear bX fn;go_wp2_with fail;go_quiet ((go_at_call 200;exact Ll (HQ _)));go_wp2;go_ret;exact⟨AF S.symm,Qm Hw _⟩
 have S:=AA (Nb (ss:=ss) (λj A=>ar j ω))
 go_wp2;go_ret;exact⟨AF S.symm,Hw.u⟩
def JO(fs:List Nat):List Nat:=(yL 12).filter λf=>fs.contains f
theorem Mc:f∈JO fs↔f<12/\f∈fs:=by simp[JO]
theorem Mb:(JO fs).length<=12:=by
 have:=xG (λf=>fs.contains f) (yL 12);simpa[JO] using this
def Fb(m:List (List Int))(root:Nat):List Nat:=JO (named (AJ m root))
def Jx(m:List (List Int))(root:Nat):List Nat:=JO ((Fb m root).flatMap λt=>named (AJ m t))
def FT(m:List (List Int))(root:Int):List Nat:=if root<0 then[] else JO (root.toNat::Fb m root.toNat++Jx m root.toNat)
theorem Je{root:Nat}:f∈Fb m root↔f∈named (AJ m root):=by
 unfold Fb;rw[Mc];exact⟨λh=>h.2,λh=>⟨F9 h,h⟩⟩
theorem WT{root:Nat}:f∈Jx m root↔∃t,t∈named (AJ m root)/\f∈named (AJ m t):=by
 unfold Jx;rw[Mc,wY];constructor
 .rintro⟨_,t,ht,K⟩
  exact⟨t,Je.1 ht,K⟩
 rintro⟨t,ht,K⟩
 exact⟨F9 K,t,Je.2 ht,K⟩
theorem Gt (h:root<12)(f:Nat):f∈FT m root↔f∈Bi m root:=by
 rw[EC];unfold FT
 by_cases h0:root<0
 .rw[if_pos h0]
  simp;omega
 rw[if_neg h0,Mc,List.cons_append,xH,wI,Je,WT]
 constructor
 .rintro⟨_,h⟩
  exact⟨ω,h⟩
 rintro⟨_,h⟩
 refine⟨?_,h⟩
 rcases h with rfl|h|⟨t,_,h⟩
 .omega
 .exact F9 h
 exact F9 h
def TT(k:AQ)(a e:Nat):Bool:=decide (Ab k e=(a:Int))||(decide (0<=Ab k e)&&(Fb k.mem (Ab k e).toNat).contains a)
def V0(k:AQ)(a:Nat):List Nat:=(yL 3).filter (TT k a)
theorem aU{k:AQ}(h:Dg k){a:Nat}(ha:Bp (A5 k a)=true):V0 k a=GX k a:=by
 unfold V0 GX;refine sA λe he=>?_
 have jL:=yh.1 he;rw[wL,uA]
 show _↔a∈Bi k.mem (Ab k e)
 rw[EC];unfold TT;simp only[xL,yC,decide_eq_true_eq,uA,Je];constructor
 .rintro(O|⟨h0,O⟩)
  .exact⟨ω,.inl ω⟩
  exact⟨h0,.inr (.inl O)⟩
 rintro⟨h0,O|O|⟨t,ht,O⟩⟩
 .exact .inl ω
 .exact .inr ⟨h0,O⟩
 have:=(h.zu jL h0 ht O).2
 rw[this] at ha;cases ha
def LV(k:AQ)(w:Int):List Nat:=if Bx w then BQ w::(if(JK k.ZJ (BQ w)).k=2 then named (AJ k.mem (BQ w)) else[]) else[]
theorem Xd{k:AQ}{w:Int}(h:Bx w=true->(JK k.ZJ (BQ w)).k≠3):LV k w=Du k w:=by
 unfold LV Du;cases Z:Bx w
 .rfl
 have:=h Z
 simp only[if_true]
 congr 1
 by_cases Y:(JK k.ZJ (BQ w)).k=2
 .rw[if_pos Y,if_pos (by simp[Bp,Y])]
 rw[if_neg Y,if_neg (by simp[Bp,Y,this])]
theorem QM{n:Int}:An (BP ZJ fs n) f (Dn kind)=BP (An ZJ f (Dn kind)) fs n:=by
 induction fs generalizing ZJ with
 |nil=>rfl
 |cons g fs ih=>
  show An (BP (An ZJ g (JD n)) fs n) f (Dn kind)=BP (An (An ZJ f (Dn kind)) g (JD n)) fs n
  rw[ih]
  congr 1
  simp only[J8 (d:=AW.zero),KP]
  by_cases e:f=g
  .subst e
   rw[List.set_set,List.set_set]
   by_cases hl:f<ZJ.length
   .rw[if_pos ⟨rfl,hl⟩,if_pos ⟨rfl,hl⟩]
    rfl
   rw[vd ω,vd ω]
  rw[if_neg (λh=>e h.1),if_neg (λh=>e h.1.symm),List.set_comm _ _ (λh=>e h.symm)]
def Pb(ss:List ByteArray)(s:ByteArray):Nat:=(ss.takeWhile λx=>!OD x s).length
theorem Nd{α:Type}(p:α->Bool)(l:List α):l.take (l.takeWhile p).length=l.takeWhile p/\l.drop (l.takeWhile p).length=l.dropWhile p:=by
 induction l with
 |nil=>simp
 |cons x l ih=>
  by_cases h:p x=true
  .simp[h,ih.1,ih.2]
  simp[h]
theorem bF:Rb ss s=ss.take (Pb ss s)++s::ss.drop (Pb ss s):=by unfold Rb Pb;rw[(Nd _ _).1,(Nd _ _).2]
theorem VD (z:k<=ss.length)(O:∀j,j<k->OE (Cz ss j) s=true)(Y:k<ss.length->OE (Cz ss k) s=false):Pb ss s=k:=by
 unfold Pb
 induction ss generalizing k with
 |nil=>simp at z;subst z;rfl
 |cons x ss ih=>
  cases k with
  |zero=>have:=Y χ;have e:OE x s=false:=this;rw[uv,if_neg (by simp[Np,e])];rfl
  |succ k=>
   have e:OE x s=true:=O 0 ω;rw[uv,if_pos (by simp[Np,e]),vV]
   congr 1
   refine ih (by simpa using z) (λj A=>?_) (λgS=>?_)
   .exact O (j+1) ω
   exact Y (by simpa using gS)
theorem cH{a:ByteArray}:OE a a=false:=by
 cases h:OE a a
 .rfl
 exact absurd (Lf.1 h) (List.lt_irrefl _)
theorem db (h:BY ss=true):ss.any (λx=>decide (x=s))=(decide (Pb ss s<ss.length)&&decide (Cz ss (Pb ss s)=s)):=by
 obtain⟨_,hp,_⟩:=Ew.1 h;have hd:=xB (p:=λx=>!OD x s) (l:=ss);rw[wL];simp only[yC,decide_eq_true_eq,wu];constructor
 .rintro⟨x,N,rfl⟩
  obtain⟨j,A,it⟩:=xl N;have V:Pb ss x=j:=by
   refine VD (Nat.le_of_lt A) (λi E=>?_) (λ_=>?_)
   .have:=wO.1 hp i j ω A E
    unfold Cz;rw[yd,yG ω];simpa[it] using this
   unfold Cz
   rw[yd,yG A];simpa[it] using cH
  rw[V];refine⟨A,?_⟩;unfold Cz;rw[yd,yG A];simpa using it
 rintro⟨hl,N⟩
 exact⟨_,yw (HY hl),N⟩
def GN{α:Type}(p:α->Bool)(xs:List α):Int:=if xs.any p then(xs.findIdx p:Int) else -1
section
variable {α:Type} {p:α->Bool} {xs:List α}
theorem JX(h:∀(j:Nat) x,xs[j]?=some x->p x=false):GN p xs= -1:=by
 unfold GN;have:xs.any p=false:=by rw[vi];intro x N;obtain⟨j,A⟩:=xO N;simp[h j x A]
 simp[this]
theorem Kx{k:Nat}{x:α}(z:xs[k]?=some x)(h:∀(j:Nat) y,j<k->xs[j]?=some y->p y=false)(hp:p x=true):GN p xs=k:=by
 unfold GN;obtain⟨au,rfl⟩:=yD.1 z;have O:xs.any p=true:=wu.2 ⟨xs[k],tY au,hp⟩;have Y:xs.findIdx p=k:=by
  rw[tH au];exact⟨hp,λj A=>h j _ A (yG ω)⟩
 simp[O,Y]
theorem Ky:decide (0<=GN p xs)=xs.any p:=by unfold GN;cases xs.any p<;>simp
theorem JU{k:Nat}{x:α}(h:∀(j:Nat) y,j<k->xs[j]?=some y->p y=false)(z:xs[k]?=some x)(hp:p x=false):∀(j:Nat) y,j<k+1->xs[j]?=some y->p y=false:=by
 intro j y A hy
 rcases xK.1 A with h'|h'
 .exact h j y h' hy
 subst h'
 rw[z] at hy;cases hy;exact hp
end
theorem Kb (F:Nat)(av:Array Φ)(p:AW->Bool)(v:Φ)(xs:List AW)(w:Ω)(h:Bh w v xs)
 (hF:∀al w,(callFunc F al).run prog w=.ok (.enter F al) w)(K:∀x,x∈xs->∀W,Γ w.heap.size w W->Ξ prog F (#[x.val]++av) W λe W'=>e=.returned (.bool (p x))/\Γ W.heap.size W W'):
 Ξ prog 197 #[v,.func (.func F) #[] av] w λe J=>e=.returned (.int .i64 (GN p xs))/\Γ w w J:=by
 obtain⟨a,c,rfl,V,aq,H0⟩:=BN.open Az ψ h;clear h;unfold maxLen at aq;have Hf:=AA K;clear K;go_in;go_wp2;go_loopw [8] (λi wr=>∃k:Nat,k<=xs.length/\i=.int .i64 k/\(∀(j:Nat) x,j<k->xs[j]?=some x->p x=false)/\Γ w w wr) (λi _=>xs.length - (intOf i).toNat)
 exact⟨0,yu _,rfl,λj x A=>absurd A (xU _),yN _ _⟩
 obtain⟨k,z,rfl,am,ae⟩:=hrel;have ar:=AA am;clear am
 by_cases au:k<xs.length
 .have N:xs[k]?=some (JK xs k):=by simp[JK,au]
  obtain⟨b,X,rfl,bC,fd,g8,g7⟩:=H0.zZ au;have D0:=(ae.cell (p:=⟨b,X+k*3,none⟩) bC).trans fd;have D1:=(ae.cell (p:=⟨b,X+k*3+1,none⟩) bC).trans g8;have D2:=(ae.cell (p:=⟨b,X+k*3+2,none⟩) bC).trans g7;clear fd g8 g7;have Hx:=AA N;have Hc:=AA (Hf _ (yw N) wr ae);clear N;cases hp:p (JK xs k)
  .have Hp:=AA hp;clear hp
   go_wp2_with (refine Hc.mono ?_;rintro e J ⟨rfl,ay⟩;rw[Hp.u]);go_roundw;exact⟨k+1,ω,ξ,JU ar Hx Hp.u,ae.trans (ay.mono ae.size)⟩;simp[intOf];omega
  have Hp:=AA hp;clear hp
  have bi:=AA (Kx Hx ar Hp.u);go_wp2_with (refine Hc.mono ?_;rintro e J ⟨rfl,ay⟩;rw[Hp.u]);go_ret;exact⟨DI bi.symm,ae.trans (ay.mono ae.size)⟩
 have bi:=AA (JX (p:=p) (xs:=xs) (λj x N=>ar j x (by have:=(yD.1 N).1;omega) N))
 go_wp2;go_ret;exact⟨DI bi.symm,ae⟩
theorem L7 (F:Nat)(av:Array Φ)(p:AW->Bool)(v:Φ)(xs:List AW)(w:Ω)(h:Bh w v xs)
 (hF:∀al w,(callFunc F al).run prog w=.ok (.enter F al) w)(K:∀x,x∈xs->∀W,Γ w.heap.size w W->Ξ prog F (#[x.val]++av) W λe W'=>e=.returned (.bool (p x))/\Γ W.heap.size W W'):
 Ξ prog 153 #[v,.func (.func F) #[] av] w λe J=>e=.returned (.bool (xs.any p))/\Γ w w J:=by
 have hi:=AA (Ky (p:=p) (xs:=xs));have C:=AA (Kb F av p v xs w h hF K);clear h K;go_in;go_wp2_with (refine C.mono ?_;rintro e J ⟨rfl,ay⟩);go_ret;exact⟨AF hi.u,ay⟩
theorem Js (F:Nat)(av:Array Φ)(p:Ag->Bool)(v:Φ)(xs:List Ag)(w:Ω)(h:Ds w v xs)
 (hF:∀al w,(callFunc F al).run prog w=.ok (.enter F al) w)(K:∀x,x∈xs->∀W,Γ w.heap.size w W->Ξ prog F (#[x.val]++av) W λe W'=>e=.returned (.bool (p x))/\Γ W.heap.size W W'):
 Ξ prog 212 #[v,.func (.func F) #[] av] w λe J=>e=.returned (.int .i64 (GN p xs))/\Γ w w J:=by
 obtain⟨a,c,rfl,V,aq,H0⟩:=BN.open Co ψ h;clear h;unfold maxLen at aq;have Hf:=AA K;clear K;go_in;go_wp2;go_loopw [8] (λi wr=>∃k:Nat,k<=xs.length/\i=.int .i64 k/\(∀(j:Nat) x,j<k->xs[j]?=some x->p x=false)/\Γ w w wr) (λi _=>xs.length - (intOf i).toNat)
 exact⟨0,yu _,rfl,λj x A=>absurd A (xU _),yN _ _⟩
 obtain⟨k,z,rfl,am,ae⟩:=hrel;have ar:=AA am;clear am
 by_cases au:k<xs.length
 .have N:xs[k]?=some (AU xs k):=by simp[AU,au]
  obtain⟨b,X,rfl,bC,fd,g8,g7,jm⟩:=H0.zV au;have D0:=(ae.cell (p:=⟨b,X+k*4,none⟩) bC).trans fd;have D1:=(ae.cell (p:=⟨b,X+k*4+1,none⟩) bC).trans g8;have D2:=(ae.cell (p:=⟨b,X+k*4+2,none⟩) bC).trans g7;have D3:=(ae.cell (p:=⟨b,X+k*4+3,none⟩) bC).trans jm;clear fd g8 g7 jm;have Hx:=AA N;have Hc:=AA (Hf _ (yw N) wr ae);clear N;cases hp:p (AU xs k)
  .have Hp:=AA hp;clear hp
   go_wp2_with (refine Hc.mono ?_;rintro e J ⟨rfl,ay⟩;rw[Hp.u]);go_roundw;exact⟨k+1,ω,ξ,JU ar Hx Hp.u,ae.trans (ay.mono ae.size)⟩;simp[intOf];omega
  have Hp:=AA hp;clear hp
  have bi:=AA (Kx Hx ar Hp.u);go_wp2_with (refine Hc.mono ?_;rintro e J ⟨rfl,ay⟩;rw[Hp.u]);go_ret;exact⟨DI bi.symm,ae.trans (ay.mono ae.size)⟩
 have bi:=AA (JX (p:=p) (xs:=xs) (λj x N=>ar j x (by have:=(yD.1 N).1;omega) N))
 go_wp2;go_ret;exact⟨DI bi.symm,ae⟩
theorem Jt (F:Nat)(av:Array Φ)(p:ByteArray->Bool)(v:Φ)(xs:List ByteArray)(w:Ω)(h:BZ w v xs)
 (hF:∀al w,(callFunc F al).run prog w=.ok (.enter F al) w)(K:∀x,x∈xs->∀W,Γ w.heap.size w W->Ξ prog F (#[xW x]++av) W λe W'=>e=.returned (.bool (p x))/\Γ W.heap.size W W'):
 Ξ prog 170 #[v,.func (.func F) #[] av] w λe J=>e=.returned (.int .i64 (GN p xs))/\Γ w w J:=by
 obtain⟨a,c,rfl,V,aq,H0⟩:=BN.open Fj ψ h;clear h;unfold maxLen at aq;have Hf:=AA K;clear K;go_in;go_wp2;go_loopw [8] (λi wr=>∃k:Nat,k<=xs.length/\i=.int .i64 k/\(∀(j:Nat) x,j<k->xs[j]?=some x->p x=false)/\Γ w w wr) (λi _=>xs.length - (intOf i).toNat)
 exact⟨0,yu _,rfl,λj x A=>absurd A (xU _),yN _ _⟩
 obtain⟨k,z,rfl,am,ae⟩:=hrel;have ar:=AA am;clear am
 by_cases au:k<xs.length
 .have N:xs[k]?=some (Cz xs k):=by simp[Cz,au]
  obtain⟨b,X,rfl,fd⟩:=H0.str au;have bC:=yK w _ fd;have D0:wr.cell? (b,X+k)=some (.string (Cz xs k)):=(ae.cell (p:=⟨b,X+k,none⟩) bC).trans fd;clear fd;have Hx:=AA N;have Hc:=AA (Hf _ (yw N) wr ae);clear N;cases hp:p (Cz xs k)
  .have Hp:=AA hp;clear hp
   go_wp2_with (refine Hc.mono ?_;rintro e J ⟨rfl,ay⟩;rw[Hp.u]);go_roundw;exact⟨k+1,ω,ξ,JU ar Hx Hp.u,ae.trans (ay.mono ae.size)⟩;simp[intOf];omega
  have Hp:=AA hp;clear hp
  have bi:=AA (Kx Hx ar Hp.u);go_wp2_with (refine Hc.mono ?_;rintro e J ⟨rfl,ay⟩;rw[Hp.u]);go_ret;exact⟨DI bi.symm,ae.trans (ay.mono ae.size)⟩
 have bi:=AA (JX (p:=p) (xs:=xs) (λj x N=>ar j x (by have:=(yD.1 N).1;omega) N))
 go_wp2;go_ret;exact⟨DI bi.symm,ae⟩
theorem LN (F:Nat)(av:Array Φ)(p:ByteArray->Bool)(v:Φ)(xs:List ByteArray)(w:Ω)(h:BZ w v xs)
 (hF:∀al w,(callFunc F al).run prog w=.ok (.enter F al) w)(K:∀x,x∈xs->∀W,Γ w.heap.size w W->Ξ prog F (#[xW x]++av) W λe W'=>e=.returned (.bool (p x))/\Γ W.heap.size W W'):
 Ξ prog 109 #[v,.func (.func F) #[] av] w λe J=>e=.returned (.bool (xs.any p))/\Γ w w J:=by
 have hi:=AA (Ky (p:=p) (xs:=xs));have C:=AA (Jt F av p v xs w h hF K);clear h K;go_in;go_wp2_with (refine C.mono ?_;rintro e J ⟨rfl,ay⟩);go_ret;exact⟨AF hi.u,ay⟩
theorem Kc (F:Nat)(av:Array Φ)(p:List Int->Bool)(v:Φ)(m:List (List Int))(w:Ω)(h:Bn w v m)
 (hF:∀al w,(callFunc F al).run prog w=.ok (.enter F al) w)(K:∀u r,r∈m->∀W,Γ w.heap.size w W->A3 W u r->Ξ prog F (#[u]++av) W λe W'=>e=.returned (.bool (p r))/\Γ W.heap.size W W'):
 Ξ prog 168 #[v,.func (.func F) #[] av] w λe J=>e=.returned (.int .i64 (GN p m))/\Γ w w J:=by
 obtain⟨vs,O,Y⟩:=h;obtain⟨a,c,rfl,V,aq,H0⟩:=BN.open Ej ψ O;clear O;unfold maxLen at aq;have Hf:=AA K;clear K;have H2:=AA Y;clear Y;go_in;go_wp2;go_loopw [8] (λi wr=>∃k:Nat,k<=vs.length/\i=.int .i64 k/\(∀(j:Nat) x,j<k->m[j]?=some x->p x=false)/\Γ w w wr) (λi _=>vs.length - (intOf i).toNat)
 exact⟨0,yu _,rfl,λj x A=>absurd A (xU _),yN _ _⟩
 obtain⟨k,z,rfl,am,ae⟩:=hrel;have ar:=AA am;clear am
 by_cases au:k<vs.length
 .obtain⟨u,hu⟩:∃u,vs[k]?=some u:=⟨_,yG au⟩
  obtain⟨r,N⟩:∃r,m[k]?=some r:=⟨_,yG (by rw[<-H2.1];exact au)⟩
  obtain⟨b,X,rfl,bC,ax⟩:=H0 k u hu;have D0:wr.cell? (b,X+k)=some u:=(ae.cell (p:=⟨b,X+k,none⟩) bC).trans (by simpa using ax 0 u rfl);have hr:=H2.2 k u r hu N;have Hx:=AA N;have Hc:=AA (Hf u r (yw N) wr ae (A3.below hr ae));clear N hu ax hr;cases hp:p r
  .have Hp:=AA hp;clear hp
   go_wp2_with (refine Hc.mono ?_;rintro e J ⟨rfl,ay⟩;rw[Hp.u]);go_roundw;exact⟨k+1,ω,ξ,JU ar Hx Hp.u,ae.trans (ay.mono ae.size)⟩;simp[intOf];omega
  have Hp:=AA hp;clear hp
  have bi:=AA (Kx Hx ar Hp.u);go_wp2_with (refine Hc.mono ?_;rintro e J ⟨rfl,ay⟩;rw[Hp.u]);go_ret;exact⟨DI bi.symm,ae.trans (ay.mono ae.size)⟩
 have bi:=AA (JX (p:=p) (xs:=m) (λj x N=>ar j x (by have:=(yD.1 N).1;rw[<-H2.1] at this;omega) N))
 go_wp2;go_ret;exact⟨DI bi.symm,ae⟩
theorem JQ (F:Nat)(av:Array Φ)(p:List Int->Bool)(v:Φ)(m:List (List Int))(w:Ω)(h:Bn w v m)
 (hF:∀al w,(callFunc F al).run prog w=.ok (.enter F al) w)(K:∀u r,r∈m->∀W,Γ w.heap.size w W->A3 W u r->Ξ prog F (#[u]++av) W λe W'=>e=.returned (.bool (p r))/\Γ W.heap.size W W'):
 Ξ prog 104 #[v,.func (.func F) #[] av] w λe J=>e=.returned (.bool (m.any p))/\Γ w w J:=by
 have hi:=AA (Ky (p:=p) (xs:=m));have C:=AA (Kc F av p v m w h hF K);clear h K;go_in;go_wp2_with (refine C.mono ?_;rintro e J ⟨rfl,ay⟩);go_ret;exact⟨AF hi.u,ay⟩
section
variable {α:Type} {lo e sz:Nat} {cs:α->List Φ} {w:Ω} {g H k:Nat} {xs:List α}
theorem AP.zW{v:Φ}(h:AP lo e sz cs w v xs)(hn:0<xs.length):∃g H,v=.slice (some ⟨g,0,none⟩) xs.length H/\xs.length<=H/\H<=maxLen/\lo<=g/\g<w.heap.size/\∀j,w.frozen? ⟨g,j,none⟩=false:=by
 obtain⟨g,H,rfl,O,Y⟩:=JG h hn;obtain⟨a,c,hv,h3,h4⟩:=h.rd.shape;cases hv;exact⟨g,H,rfl,h3,h4,O,Y,λj=>xV h j⟩
theorem AP.stored(hs:∀x,(cs x).length=sz)(h:AP lo e sz cs w (.slice g xs.length H) xs)(z:k<xs.length)(y:α):
 AP lo e sz cs (IE w g (k*sz) 0 (cs y)) (.slice g xs.length H) (xs.set k y)/\w.grownBy (IE w g (k*sz) 0 (cs y)) (some g):=by
 obtain⟨O,Y⟩:=Ee h (k*sz) 0 (cs y);rw[Ro hs z] at O;refine⟨?_,Y⟩;unfold AP;rw[yi];exact O
theorem AP.zJ(hs:∀x,(cs x).length=sz)(h:AP lo e sz cs w (.slice g xs.length H) xs){x:α}(z:xs[k]?=some x):∀(j:Nat) u,(cs x)[j]?=some u->w.cell? (g,k*sz+j)=some u:=by
 intro j u A;have au:=(yD.1 z).1;have ec:j<sz:=by rw[<-hs x];exact(yD.1 A).1
 have hm:k*sz+sz<=xs.length*sz:=by rw[<-uS];exact wT _ au
 rw[xN h (k*sz+j) ω,Qn hs z ec,A]
end
theorem AP.zZ{xs:List AW}(h:AP lo e 3 Au w (.slice g xs.length H) xs)(z:k<xs.length):
 w.cell? (g,k*3)=some (.int .i64 (JK xs k).k)/\w.cell? (g,k*3+1)=some (.string (JK xs k).g)/\w.cell? (g,k*3+2)=some (.int .i64 (JK xs k).r):=by
 have V:=AP.zJ Az h (k:=k) (x:=JK xs k) (by simp[JK,z]);exact⟨V 0 _ rfl,V 1 _ rfl,V 2 _ rfl⟩
theorem AP.zV{xs:List Ag}(h:AP lo e 4 AZ w (.slice g xs.length H) xs)(z:k<xs.length):
 w.cell? (g,k*4)=some (.int .i64 (AU xs k).e)/\w.cell? (g,k*4+1)=some (.int .i64 (AU xs k).p)/\w.cell? (g,k*4+2)=some (.int .i64 (AU xs k).f)/\w.cell? (g,k*4+3)=some (.bool (AU xs k).w):=by
 have V:=AP.zJ Co h (k:=k) (x:=AU xs k) (by simp[AU,z]);exact⟨V 0 _ rfl,V 1 _ rfl,V 2 _ rfl,V 3 _ rfl⟩
theorem AM (h:Γ B w J)(Z:J.grownBy cm (some g))(hB:B<=g)(hs:B<=J.heap.size):Γ B w cm:=h.grown Z hs (λk z=>by cases z;exact hB)
theorem H7 (b o:Nat)(vs:List Φ):∀(j:Nat)(w:Ω),w.setCells b (o+j) vs=IE w b o j vs:=by
 induction vs with
 |nil=>intro j w;rfl
 |cons v vs ih=>intro j w;exact ih (j+1) _
theorem Vp (xs us:List Φ)(o:Nat):∀(j:Nat),(Fa xs o j us).take o=xs.take o:=by
 induction us generalizing xs with
 |nil=>intro j;rfl
 |cons u us ih=>
  intro j;rw[Fa,ih];apply sy;intro k
  by_cases z:k<o
  .rw[uZ z,uZ z,List.getElem?_set_ne ω]
  rw[tK ω,tK ω]
theorem QO{xs:List Φ}(h:w.ownsRow lo e sz (.slice g n H) n xs)(z:k<=n):w.ownsRow lo e sz (.slice g k H) k (xs.take (k*sz)):=by
 rcases h.2 with⟨h0,_⟩|⟨g',cap',bw,hv,D,Z,bx,aq,d6,htake⟩
 .cases h0
 cases hv
 have hm:k*sz<=n*sz:=wT _ z;refine⟨by rw[yr,h.1];omega,.inr ⟨g,H,bw,rfl,D,Z,ω,aq,d6,?_⟩⟩;rw[<-htake,uo,uY hm]
theorem Kv{xs:List Φ}{hk:Φ}(ht:P.underlying t=some (.slice e))(hv:∀w,(zeroValue e).run P w=.ok hk w)(fq:hk.cells.size=sz)(O:∀u∈hk.cells.toList,u.oneCell'=true)
 (h:w.ownsRow lo e sz (.slice g n H) n xs)(z:k<n):
 ∃J,(∀ty c,(tV #[t] ty #[.slice (some ⟨g,k*sz,none⟩) (n - k) c]).run P w=.ok (.tuple #[]) J)/\J.ownsRow lo e sz (.slice g k H) k (xs.take (k*sz))/\w.grownBy J (some g):=by
 have bf:(xX hk.cells (n - k)).toList.length=(n - k)*sz:=by simp[xX,fq,Nat.mul_comm]
 have jV:=h.1;have jB:k*sz+(n - k)*sz=n*sz:=by rw[<-Nat.add_mul];congr 1;omega
 have hst:=run_storeCells_cells (P:=P) g (k*sz) (xX hk.cells (n - k)).toList 0 w (by
  intro j A;rw[bf] at A;have:=xN h (k*sz+j) ω;simp only[xT] at this ⊢;rw[this];simp;omega) (by intro j _;exact xV h _) (by
  intro u hu;simp only[xX,Array.toList_map,wj,Array.mem_toList_iff,Array.mem_range] at hu;obtain⟨i,E,rfl⟩:=hu;have hs:0<hk.cells.size:=by
   rcases wJ hk.cells.size with h0|h0
   .rw[h0] at E;simp at E
   exact h0
  have au:i%hk.cells.size<hk.cells.size:=su _ hs;refine O _ ?_;simp[au])
 obtain⟨m,hm⟩:∃m,n - k=m+1:=⟨n - k - 1,ω⟩
 simp only[xT] at hst;refine⟨w.setCells g (k*sz) (xX hk.cells (n - k)).toList,λty c=>?_,?_,?_⟩
 .rw[hm] at hst ⊢
  simp[tV,tj ht,hv,hst]
 .have e0:=H7 g (k*sz) (xX hk.cells (n - k)).toList 0 w
  rw[xT] at e0;rw[e0];obtain⟨a1,_⟩:=Ee h (k*sz) 0 (xX hk.cells (n - k)).toList;have:=QO a1 (Nat.le_of_lt z);rw[Vp] at this;exact this
 have e0:=H7 g (k*sz) (xX hk.cells (n - k)).toList 0 w
 rw[xT] at e0;rw[e0];exact(Ee h (k*sz) 0 (xX hk.cells (n - k)).toList).2
section
variable {α:Type} {p:α->Bool} {xs ys:List α} {i j:Nat}
structure Jr(p:α->Bool)(xs ys:List α)(i j:Nat):Prop where
 len:ys.length=xs.length
 lt:i<j
 le:j<=xs.length
 kept:ys.take i=(xs.take j).filter λx=>!p x
 rest:ys.drop j=xs.drop j
theorem Jr.start{k:Nat}{x:α}(z:xs[k]?=some x)(h:∀(j:Nat) y,j<k->xs[j]?=some y->p y=false)(hp:p x=true):Jr p xs xs k (k+1):=by
 have au:=(yD.1 z).1;refine⟨rfl,ω,ω,?_,rfl⟩;rw[DQ z,wE];have O:(xs.take k).filter (λx=>!p x)=xs.take k:=by rw[uw];intro y hy;obtain⟨j,A⟩:=xO hy;have iu:=(yD.1 A).1;rw[yr] at iu;rw[uZ ω] at A;simp[h j y ω A]
 rw[O];simp[hp]
theorem Jr.drop(h:Jr p xs ys i j){x:α}(N:xs[j]?=some x)(hp:p x=true):Jr p xs ys i (j+1):=by
 have au:=(yD.1 N).1;refine⟨h.len,by have:=h.lt;omega,ω,?_,?_⟩
 .rw[h.kept,DQ N,wE]
  simp[hp]
 have:=congrArg (List.drop 1) h.rest
 rw[uG,uG] at this;exact this
theorem Jr.keep(h:Jr p xs ys i j){x:α}(N:xs[j]?=some x)(hp:p x=false):Jr p xs (ys.set i x) (i+1) (j+1):=by
 have au:=(yD.1 N).1;have em:=h.lt;refine⟨by rw[yi];exact h.len,ω,ω,?_,?_⟩
 .have e:(ys.set i x).take (i+1)=ys.take i++[x]:=by
   have E:(ys.set i x)[i]?=some x:=by rw[List.getElem?_set_self (by rw[h.len];omega)]
   rw[DQ E,List.take_set_of_le (yF _)]
  rw[e,h.kept,DQ N,wE];simp[hp]
 rw[List.drop_set_of_lt ω]
 have:=congrArg (List.drop 1) h.rest;rw[uG,uG] at this;exact this
theorem Jr.next(h:Jr p xs ys i j):ys[j]?=xs[j]? :=by
 have:=congrArg (λl=>l[0]?) h.rest;simpa using this
theorem Jr.done(h:Jr p xs ys i j)(A:j=xs.length):ys.take i=xs.filter λx=>!p x:=by rw[h.kept,A,xD]
theorem OX(h:GN p xs≠ -1):∃k x,GN p xs=((k:Nat):Int)/\xs[k]?=some x/\p x=true/\∀(j:Nat) y,j<k->xs[j]?=some y->p y=false:=by
 unfold GN at h ⊢
 split
 .rename_i ha
  have hl:xs.findIdx p<xs.length:=vM.2 (wu.1 ha);refine⟨_,xs[xs.findIdx p],rfl,yG hl,vD,λj y A hy=>?_⟩;obtain⟨hM,rfl⟩:=yD.1 hy;have:=List.not_of_lt_findIdx A;simpa using this
 rename_i ha
 rw[if_neg ha] at h;exact absurd rfl h
theorem Rm(h:GN p xs= -1):xs.filter (λx=>!p x)=xs:=by
 rw[uw];intro x N;unfold GN at h
 split at h
 .omega
 rename_i ha
 simp only[wu,not_exists,not_and] at ha;simpa using ha x N
end
theorem AP.strCells{xs:List ByteArray}(h:AP lo e 1 A0 w (.slice g xs.length H) xs)(z:k<xs.length):w.cell? (g,k)=some (.string (Cz xs k)):=by have V:=AP.zJ Fj h (k:=k) (x:=Cz xs k) (by simp[Cz,z]);simpa using V 0 _ rfl
theorem eH{xs:List Φ}(h:w.ownsRow lo e sz (.slice g n H) n xs):lo<=g/\g<w.heap.size:=World.ownsRow.lt h g rfl
theorem Qd:∀w,(zeroValue 125).run prog w=.ok (.agg #[θ,θ,θ,υ]) w:=λ_=>φ
theorem JR (F:Nat)(av:Array Φ)(p:Ag->Bool)(v:Φ)(xs:List Ag)(w:Ω)(h:AP lo 125 4 AZ w v xs)(bY:lo<=w.heap.size)
 (hF:∀al w,(callFunc F al).run prog w=.ok (.enter F al) w)(K:∀x,x∈xs->∀W,Γ lo w W->Ξ prog F (#[x.val]++av) W λe W'=>e=.returned (.bool (p x))/\Γ W.heap.size W W'):
 Ξ prog 223 #[v,.func (.func F) #[] av] w λe J=>∃v',e=.returned v'/\AP lo 125 4 AZ J v' (xs.filter λx=>!p x)/\Γ lo w J:=by
 have C0:=Js F av p v xs w h.rd hF (λx N W hW=>K x N W (hW.mono bY))
 by_cases bn:GN p xs= -1
 .have S:=AA (Rm bn)
  rw[bn] at C0;have ai:=AA h;obtain⟨a,c,rfl,V,aq⟩:=h.rd.shape;have C:=AA C0;clear C0 K bn h;go_in;go_wp2_with (refine C.mono ?_;rintro e w1 ⟨rfl,br⟩);go_ret;exact⟨_,rfl,by rw[S.u];exact ai.below br,br.mono bY⟩
 obtain⟨k,x0,z,ft,gN,am⟩:=OX bn
 rw[z] at C0;have jF:k<xs.length:=(yD.1 ft).1;obtain⟨g,H,rfl,V,aq,Z,hU,fa⟩:=h.zW ω;unfold maxLen at aq;have t0:((k:Int)== -1)=false:=by rw[beq_eq_false_iff_ne];omega
 have C:=AA C0;have Hf:=AA K;have S0:=AA (Jr.start ft am gN);have HO:=AA h;clear C0 K bn z ft gN am h fa;go_in;go_wp2_with (refine C.mono ?_;rintro e w1 ⟨rfl,br⟩);go_loopw [5,6] (λi5 j6 wr=>∃i j:Nat,∃ys:List Ag,i5=.int .i64 i/\j6=.int .i64 j/\Jr p xs ys i j/\AP lo 125 4 AZ wr (.slice g xs.length H) ys/\Γ lo w wr) (λ_ j6 _=>xs.length - (intOf j6).toNat)
 exact⟨k,k+1,xs,rfl,ξ,S0.u,HO.below br,br.mono bY⟩
 clear br HO;obtain⟨i,j,ys,rfl,rfl,hS,hO,ae⟩:=hrel;have em:=hS.lt;have hM:=hS.le;have bf:=hS.len;have S:=AA hS;have cl:AP lo 125 4 AZ wr (.slice g ys.length H) ys:=by rw[bf];exact hO
 have hV:∀q,wr.frozen? ⟨g,q,none⟩=false:=λq=>xV cl q
 have cv:lo<=wr.heap.size:=yM bY ae.size
 by_cases au:j<xs.length
 .obtain⟨x,N⟩:∃x,xs[j]?=some x:=⟨_,yG au⟩
  have gU:j<ys.length:=ω;have gV:i<ys.length:=ω;obtain⟨d0,d1,d2,d3⟩:=AP.zV cl (k:=j) gU;obtain⟨e0,e1,e2,e3⟩:=AP.zV cl (k:=i) gV;have gt:AU ys j=x:=by have:=S.next;rw[N] at this;simp[AU,this]
  rw[gt] at d0 d1 d2 d3;have jI:=(eH cl);have Cf:=AA (Hf x (yw N) (wr.alloc (.cells #[x.e,x.p,x.f,x.w] 125)) (ae.alloc cv _));have Hx:=AA N;have iN:=AA cl;have iL:i<xs.length:=ω;clear hS hO cl N gt bf gU gV;go_wp2_with fail;refine Cf.mono ?_;rintro e w2 ⟨rfl,ay⟩;have bl:=(ae.alloc cv (.cells #[x.e,x.p,x.f,x.w] 125)).trans (ay.mono η);have e9:=(AG wr (.cells #[x.e,x.p,x.f,x.w] 125)).trans (ay.mono (AG _ _).size);have g6:=AA (iN.below e9);obtain⟨jg,jK⟩:=bI ay;have hz:wr.heap.size<w2.heap.size:=by have:=ay.size;simp at this;omega
  cases hp:p x
  .have SK:=AA (S.keep Hx hp)
   have Hp:=AA hp;clear hp;have gq:=AP.stored Co g6 (k:=i) (by rw[S.len];exact iL) x;have ST:=AA gq;clear gq;have BL:=AA (AM bl ST.2 Z (yM cv e9.size));clear e9 bl ay;go_wp2;go_roundw;exact⟨i+1,j+1,ys.set i x,ξ,ξ,SK.u,by have:=ST.1;rw[S.len] at this;exact this,BL.u⟩;simp[intOf];omega
  have SD:=AA (S.drop Hx hp)
  have Hp:=AA hp;clear hp;have HB:=AA bl;clear e9 bl ay;go_wp2;go_roundw;exact⟨i,j+1,ys,rfl,ξ,SD.u,by have:=g6.u;rw[S.len] at this;exact this,HB.u⟩;simp[intOf];omega
 have gT:j=xs.length:=ω;have hd:=AA (hS.done gT);have b5:i<xs.length:=ω;have en:wr.ownsRow lo 125 4 (.slice g xs.length H) xs.length (Cb AZ ys):=by have:=cl;unfold AP at this;rwa [bf] at this
 obtain⟨w3,fo,dr,gX⟩:=Kv (P:=prog) (sz:=4) (t:=26) underlying26 Qd rfl (by simp[th,xR]) en b5;have hE:(Cb AZ ys).take (i*4)=Cb AZ (xs.filter λx=>!p x):=by
  rw[<-hd.u]
  conv=>lhs;rw[<-wG i ys,Bq]
  rw[uF];rw[JY Co,yr]
  congr 1;omega
 have hL:(xs.filter λx=>!p x).length=i:=by rw[<-hd.u,yr];omega
 rw[hE] at dr;have R:=AA (show AP lo 125 4 AZ w3 (.slice g i H) (xs.filter λx=>!p x) by unfold AP;rw[hL];exact dr);have BL:=AA (AM ae gX Z cv);have iD:¬H=i:=ω;have gi:=λty=>fo ty (H - i)
 clear hO cl en dr hE hL fo gX bf hS hV gT hd;go_wp2;go_ret;exact⟨_,rfl,R.u,BL.u⟩
theorem XR:∀w,(zeroValue 9).run prog w=.ok (.string ⟨#[]⟩) w:=λ_=>φ
theorem L8 (F:Nat)(av:Array Φ)(p:ByteArray->Bool)(v:Φ)(xs:List ByteArray)(w:Ω)(h:AP lo 9 1 A0 w v xs)(bY:lo<=w.heap.size)
 (hF:∀al w,(callFunc F al).run prog w=.ok (.enter F al) w)(K:∀x,x∈xs->∀W,Γ lo w W->Ξ prog F (#[xW x]++av) W λe W'=>e=.returned (.bool (p x))/\Γ W.heap.size W W'):
 Ξ prog 227 #[v,.func (.func F) #[] av] w λe J=>∃v',e=.returned v'/\AP lo 9 1 A0 J v' (xs.filter λx=>!p x)/\Γ lo w J:=by
 have C0:=Jt F av p v xs w h.rd hF (λx N W hW=>K x N W (hW.mono bY))
 by_cases bn:GN p xs= -1
 .have S:=AA (Rm bn)
  rw[bn] at C0;have ai:=AA h;obtain⟨a,c,rfl,V,aq⟩:=h.rd.shape;have C:=AA C0;clear C0 K bn h;go_in;go_wp2_with (refine C.mono ?_;rintro e w1 ⟨rfl,br⟩);go_ret;exact⟨_,rfl,by rw[S.u];exact ai.below br,br.mono bY⟩
 obtain⟨k,x0,z,ft,gN,am⟩:=OX bn
 rw[z] at C0;have jF:k<xs.length:=(yD.1 ft).1;obtain⟨g,H,rfl,V,aq,Z,hU,fa⟩:=h.zW ω;unfold maxLen at aq;have t0:((k:Int)== -1)=false:=by rw[beq_eq_false_iff_ne];omega
 have C:=AA C0;have Hf:=AA K;have S0:=AA (Jr.start ft am gN);have HO:=AA h;clear C0 K bn z ft gN am h fa;go_in;go_wp2_with (refine C.mono ?_;rintro e w1 ⟨rfl,br⟩);go_loopw [5,6] (λi5 j6 wr=>∃i j:Nat,∃ys:List ByteArray,i5=.int .i64 i/\j6=.int .i64 j/\Jr p xs ys i j/\AP lo 9 1 A0 wr (.slice g xs.length H) ys/\Γ lo w wr) (λ_ j6 _=>xs.length - (intOf j6).toNat)
 exact⟨k,k+1,xs,rfl,ξ,S0.u,HO.below br,br.mono bY⟩
 clear br HO;obtain⟨i,j,ys,rfl,rfl,hS,hO,ae⟩:=hrel;have em:=hS.lt;have hM:=hS.le;have bf:=hS.len;have S:=AA hS;have cl:AP lo 9 1 A0 wr (.slice g ys.length H) ys:=by rw[bf];exact hO
 have hV:∀q,wr.frozen? ⟨g,q,none⟩=false:=λq=>xV cl q
 have cv:lo<=wr.heap.size:=yM bY ae.size
 by_cases au:j<xs.length
 .obtain⟨x,N⟩:∃x,xs[j]?=some x:=⟨_,yG au⟩
  have gU:j<ys.length:=ω;have gV:i<ys.length:=ω;have d0:=AP.strCells cl (k:=j) gU;have e0:=AP.strCells cl (k:=i) gV;have gt:Cz ys j=x:=by have:=S.next;rw[N] at this;simp[Cz,this]
  rw[gt] at d0;have jI:=(eH cl);have Cf:=AA (Hf x (yw N) wr ae);have Hx:=AA N;have iN:=AA cl;have iL:i<xs.length:=ω;clear hS hO cl N gt bf gU gV;go_wp2_with fail;refine Cf.mono ?_;rintro e w2 ⟨rfl,ay⟩;have bl:=ae.trans (ay.mono cv);have e9:=ay;have g6:=AA (iN.below e9);obtain⟨jg,jK⟩:=bI ay;have hz:=ay.size;cases hp:p x
  .have SK:=AA (S.keep Hx hp)
   have Hp:=AA hp;clear hp;have gq:=AP.stored Fj g6 (k:=i) (by rw[S.len];exact iL) x;simp only[wX] at gq;have ST:=AA gq;clear gq;have BL:=AA (AM bl ST.2 Z (yM cv e9.size));clear e9 bl ay;go_wp2;go_roundw;exact⟨i+1,j+1,ys.set i x,ξ,ξ,SK.u,by have:=ST.1;rw[S.len] at this;exact this,BL.u⟩;simp[intOf];omega
  have SD:=AA (S.drop Hx hp)
  have Hp:=AA hp;clear hp;have HB:=AA bl;clear e9 bl ay;go_wp2;go_roundw;exact⟨i,j+1,ys,rfl,ξ,SD.u,by have:=g6.u;rw[S.len] at this;exact this,HB.u⟩;simp[intOf];omega
 have gT:j=xs.length:=ω;have hd:=AA (hS.done gT);have b5:i<xs.length:=ω;have en:wr.ownsRow lo 9 1 (.slice g xs.length H) xs.length (Cb A0 ys):=by have:=cl;unfold AP at this;rwa [bf] at this
 obtain⟨w3,fo,dr,gX⟩:=Kv (P:=prog) (sz:=1) (t:=79) underlying79 XR rfl (by simp[th,xR]) en b5;have hE:(Cb A0 ys).take (i*1)=Cb A0 (xs.filter λx=>!p x):=by
  rw[<-hd.u]
  conv=>lhs;rw[<-wG i ys,Bq]
  rw[uF];rw[JY Fj,yr]
  congr 1;omega
 have hL:(xs.filter λx=>!p x).length=i:=by rw[<-hd.u,yr];omega
 rw[hE] at dr;have R:=AA (show AP lo 9 1 A0 w3 (.slice g i H) (xs.filter λx=>!p x) by unfold AP;rw[hL];exact dr);have BL:=AA (AM ae gX Z cv);have iD:¬H=i:=ω;have gi:=λty=>fo ty (H - i)
 simp only[wX] at gi;clear hO cl en dr hE hL fo gX bf hS hV gT hd;go_wp2;go_ret;exact⟨_,rfl,R.u,BL.u⟩
theorem ED{t ty:TypeId}(e:TypeId)(hk:Φ)(sz bytes:Nat)(ht:prog.underlying t=some (.slice e))(E:(prog.info? e).map (λi=>(i.zero,i.size,i.bytes))=some (some hk,sz,bytes))
 (fq:hk.cells.size=sz)(cP:0<sz)(D:w.heap[g]?=some (.cells #[] e (0,0)))(bY:lo<=g){u:Φ}{m:Nat}{news:List Φ}(hr:Rd w u sz m news)(O:∀u∈news,u.oneCell'=true)
 (b0:m*bytes<=140737488355328):∃v' J,(vG #[t,t] ty #[.slice g 0 0,u]).run prog w=.ok v' J/\J.ownsRow lo e sz v' m news/\Γ w w J/\(∀k,v'.ownBlock=some k->k=g∨w.heap.size<=k):=by
 obtain⟨i0,dg,ex,ej,ev⟩:=tW E;obtain⟨ao,c,rfl,i6,aq,hl,az,V⟩:=hr;have hU:g<w.heap.size:=(vZ.1 D).1;have a8:∀l,l<=g->w.ownsRow l e sz (.slice g 0 0) 0 []:=λl hl=>⟨χ,.inr ⟨g,0,#[],rfl,hl,D,yF _,ζ,χ,χ⟩⟩
 rcases wJ m with rfl|hm
 .have cu:news=[]:=xY (by simpa using hl)
  subst cu;cases ao with
  |none=>have b9:=az rfl;subst b9;exact⟨_,w,by simp[vG,tj ht,sizeOf,typeInfo,dg,si,Builtin.firstCells,storeCells],a8 lo bY,yN _ _,λk z=>by simp[vI] at z;exact .inl z.symm⟩
  |some a=>have K:=run_firstCells_some (P:=prog) w i0.size 0 a 0 c [] χ χ;exact⟨_,w,by simp[vG,tj ht,sizeOf,typeInfo,dg,si,K,storeCells],a8 lo bY,yN _ _,λk z=>by simp[vI] at z;exact .inl z.symm⟩
 obtain⟨b,X,rfl,ax⟩:=V hm
 obtain⟨v',J,cr,r1,r2⟩:=run_append_arg_grows (P:=prog) w t ty e i0 hk sz bytes ht dg ex ej ev fq cP ⟨g,0,none⟩ 0 0 [] χ χ ⟨b,X,none⟩ m c news hl (by
  intro j u hu;have A:j<news.length:=(yD.1 hu).1;have c7:(⟨b,X,none⟩:Addr).add j=⟨b,X+j,none⟩:=by unfold uh;split<;>simp_all
  rw[c7,ax j ω,hu]) ω ω (by rw[Nat.zero_add];exact b0)
 have hB:=Below.zE r2;have iQ:J.ownsRow w e sz v' m news:=by simpa using r1
 exact⟨v',J,cr,BS iQ ω,hB,λk z=> .inr (iQ.lt k z).1⟩
theorem Ub{vs:List Φ}(h:GY (A3 w) vs m):∀u∈Cb Gs vs,u.oneCell'=true:=by
 intro u hu;obtain⟨x,N,hs⟩:=wY.1 hu;simp[Gs] at hs;subst hs;obtain⟨i,E⟩:=xO N;obtain⟨r,hr⟩:∃r,m[i]?=some r:=⟨_,yG (by rw[<-h.1];exact(yD.1 E).1)⟩
 obtain⟨a,c,rfl,_⟩:=(h.2 i _ r E hr).open;rfl
theorem Z1{ps:List (Φ×Int)}(h:GY (λp e=>BZ w p.1 e.PQ/\p.2=e.root) ps es):∀u∈Cb FR ps,u.oneCell'=true:=by
 intro u hu;obtain⟨x,N,hs⟩:=wY.1 hu;obtain⟨i,E⟩:=xO N;obtain⟨r,hr⟩:∃r,es[i]?=some r:=⟨_,yG (by rw[<-h.1];exact(yD.1 E).1)⟩
 obtain⟨a,c,e,_⟩:=BN.shape (h.2 i _ r E hr).1;simp[FR] at hs
 rcases hs with rfl|rfl
 .rw[e];rfl
 rfl
theorem Tryz.zO:(prog.info? 115).map (λi=>(i.zero,i.size,i.bytes))=some (some (.agg #[θ,ϑ,θ]),3,32):=φ
theorem Ge (v:Φ)(xs:List AW)(w:Ω)(h:BN 3 Au w v xs)(hs:xs.length<=1048576):
 Ξ prog 121 #[v] w λe J=>∃v',e=.returned v'/\AP w.heap.size 115 3 Au J v' xs/\Γ w w J:=by
 have bm:∀u∈Cb Au xs,u.oneCell'=true:=by
  intro u hu;obtain⟨s,_,hs⟩:=wY.1 hu;simp[Au] at hs
  rcases hs with rfl|rfl|rfl<;>rfl
 have h':=h;obtain⟨a,c,rfl,bx,aq,hl,az,V⟩:=h';have hq:=λw=>wP (P:=prog) w 24 115 a xs.length c 0 0 underlying24
 have b4:=AA bm;clear bm;cases a with
 |none=>have b9:=az rfl;subst b9;have h0:xs=[]:=xY ω;subst h0;simp only[xi] at hq;go_in;go_wp2;go_ret;exact⟨_,rfl,xo _ _ _ _,yN _ _⟩
 |some ad=>clear V az;have bt:(Cb Au xs).length=xs.length*3:=hl;have Hl:=AA bt;clear hl bt;go_in;go_wp2_with (refine Em (lo:=w.heap.size) (v:=.slice w 0 0) (n:=0) (xs:=[]) (m:=xs.length) (news:=Cb Au xs) rfl rfl 115 (.agg #[θ,ϑ,θ]) 3 32 underlying24 Tryz.zO rfl ψ rfl (CU _ _ _) rfl (Rd.alloc h _) b4 μ ω χ ?_;intro v' J a8 _ ae);go_ret;refine⟨_,rfl,by simpa[AP] using a8,((yN _ _).alloc (yF _) _).trans ae⟩
theorem Tryz.infoEnvK:(prog.info? 81).map (λi=>(i.zero,i.size,i.bytes))=some (some (.agg #[ι,θ]),2,32):=φ
theorem Uy (v:Φ)(xs:List (Φ×Int))(w:Ω)(h:BN 2 FR w v xs)(hs:xs.length<=1048576)(bm:∀u∈Cb FR xs,u.oneCell'=true):
 Ξ prog 122 #[v] w λe J=>∃v',e=.returned v'/\AP w.heap.size 81 2 FR J v' xs/\Γ w w J:=by
 have h':=h;obtain⟨a,c,rfl,bx,aq,hl,az,V⟩:=h';have hq:=λw=>wP (P:=prog) w 25 81 a xs.length c 0 0 underlying25
 have b4:=AA bm;clear bm;cases a with
 |none=>have b9:=az rfl;subst b9;have h0:xs=[]:=xY ω;subst h0;simp only[xi] at hq;go_in;go_wp2;go_ret;exact⟨_,rfl,xo _ _ _ _,yN _ _⟩
 |some ad=>clear V az;have bt:(Cb FR xs).length=xs.length*2:=hl;have Hl:=AA bt;clear hl bt;go_in;go_wp2_with (refine Em (lo:=w.heap.size) (v:=.slice w 0 0) (n:=0) (xs:=[]) (m:=xs.length) (news:=Cb FR xs) rfl rfl 81 (.agg #[ι,θ]) 2 32 underlying25 Tryz.infoEnvK rfl ψ rfl (CU _ _ _) rfl (Rd.alloc h _) b4 μ ω χ ?_;intro v' J a8 _ ae);go_ret;refine⟨_,rfl,by simpa[AP] using a8,((yN _ _).alloc (yF _) _).trans ae⟩
theorem Tryz.zP:(prog.info? 125).map (λi=>(i.zero,i.size,i.bytes))=some (some (.agg #[θ,θ,θ,υ]),4,32):=φ
theorem Jj (v:Φ)(xs:List Ag)(w:Ω)(h:BN 4 AZ w v xs)(hs:xs.length<=1048576):
 Ξ prog 123 #[v] w λe J=>∃v',e=.returned v'/\AP w.heap.size 125 4 AZ J v' xs/\Γ w w J:=by
 have bm:∀u∈Cb AZ xs,u.oneCell'=true:=by
  intro u hu;obtain⟨s,_,hs⟩:=wY.1 hu;simp[AZ] at hs
  rcases hs with rfl|rfl|rfl|rfl<;>rfl
 have h':=h;obtain⟨a,c,rfl,bx,aq,hl,az,V⟩:=h';have hq:=λw=>wP (P:=prog) w 26 125 a xs.length c 0 0 underlying26
 have b4:=AA bm;clear bm;cases a with
 |none=>have b9:=az rfl;subst b9;have h0:xs=[]:=xY ω;subst h0;simp only[xi] at hq;go_in;go_wp2;go_ret;exact⟨_,rfl,xo _ _ _ _,yN _ _⟩
 |some ad=>clear V az;have bt:(Cb AZ xs).length=xs.length*4:=hl;have Hl:=AA bt;clear hl bt;go_in;go_wp2_with (refine Em (lo:=w.heap.size) (v:=.slice w 0 0) (n:=0) (xs:=[]) (m:=xs.length) (news:=Cb AZ xs) rfl rfl 125 (.agg #[θ,θ,θ,υ]) 4 32 underlying26 Tryz.zP rfl ψ rfl (CU _ _ _) rfl (Rd.alloc h _) b4 μ ω χ ?_;intro v' J a8 _ ae);go_ret;refine⟨_,rfl,by simpa[AP] using a8,((yN _ _).alloc (yF _) _).trans ae⟩
def Dc(x:Bz):List Φ:=[.int .i64 x.w,.int .i64 x.a,.bool x.u]
theorem Fy (x:Bz):(Dc x).length=3:=rfl
theorem Tryz.zv:(prog.info? 87).map (λi=>(i.zero,i.size,i.bytes))=some (some (.agg #[θ,θ,υ]),3,24):=φ
theorem Tb (v:Φ)(xs:List Bz)(w:Ω)(h:BN 3 Dc w v xs)(hs:xs.length<=1048576):
 Ξ prog 63 #[v] w λe J=>∃v',e=.returned v'/\AP w.heap.size 87 3 Dc J v' xs/\Γ w w J:=by
 have bm:∀u∈Cb Dc xs,u.oneCell'=true:=by
  intro u hu;obtain⟨s,_,hs⟩:=wY.1 hu;simp[Dc] at hs
  rcases hs with rfl|rfl|rfl<;>rfl
 have h':=h;obtain⟨a,c,rfl,bx,aq,hl,az,V⟩:=h';have hq:=λw=>wP (P:=prog) w 30 87 a xs.length c 0 0 underlying30
 have b4:=AA bm;clear bm;cases a with
 |none=>have b9:=az rfl;subst b9;have h0:xs=[]:=xY ω;subst h0;simp only[xi] at hq;go_in;go_wp2;go_ret;exact⟨_,rfl,xo _ _ _ _,yN _ _⟩
 |some ad=>clear V az;have bt:(Cb Dc xs).length=xs.length*3:=hl;have Hl:=AA bt;clear hl bt;go_in;go_wp2_with (refine Em (lo:=w.heap.size) (v:=.slice w 0 0) (n:=0) (xs:=[]) (m:=xs.length) (news:=Cb Dc xs) rfl rfl 87 (.agg #[θ,θ,υ]) 3 24 underlying30 Tryz.zv rfl ψ rfl (CU _ _ _) rfl (Rd.alloc h _) b4 μ ω χ ?_;intro v' J a8 _ ae);go_ret;refine⟨_,rfl,by simpa[AP] using a8,((yN _ _).alloc (yF _) _).trans ae⟩
theorem Tryz.zT:(prog.info? 9).map (λi=>(i.zero,i.size,i.bytes))=some (some (.string ⟨#[]⟩),1,16):=φ
theorem Jk (v:Φ)(xs:List ByteArray)(w:Ω)(h:BN 1 A0 w v xs)(hs:xs.length<=1048576):
 Ξ prog 124 #[v] w λe J=>∃v',e=.returned v'/\AP w.heap.size 9 1 A0 J v' xs/\Γ w w J:=by
 have bm:∀u∈Cb A0 xs,u.oneCell'=true:=by intro u hu;obtain⟨s,_,hs⟩:=wY.1 hu;simp[A0] at hs;subst hs;rfl
 have h':=h;obtain⟨a,c,rfl,bx,aq,hl,az,V⟩:=h';have hq:=λw=>wP (P:=prog) w 79 9 a xs.length c 0 0 underlying79
 have b4:=AA bm;clear bm;cases a with
 |none=>have b9:=az rfl;subst b9;have h0:xs=[]:=xY ω;subst h0;simp only[xi] at hq;go_in;go_wp2;go_ret;exact⟨_,rfl,xo _ _ _ _,yN _ _⟩
 |some ad=>clear V az;have bt:(Cb A0 xs).length=xs.length*1:=hl;have Hl:=AA bt;clear hl bt;go_in;go_wp2_with (refine Em (lo:=w.heap.size) (v:=.slice w 0 0) (n:=0) (xs:=[]) (m:=xs.length) (news:=Cb A0 xs) rfl rfl 9 (.string ⟨#[]⟩) 1 16 underlying79 Tryz.zT rfl ψ rfl (CU _ _ _) rfl (Rd.alloc h _) b4 μ ω χ ?_;intro v' J a8 _ ae);go_ret;refine⟨_,rfl,by simpa[AP] using a8,((yN _ _).alloc (yF _) _).trans ae⟩
theorem Tryz.infoRowsK:(prog.info? 29).map (λi=>(i.zero,i.size,i.bytes))=some (some (.slice none 0 0),1,24):=φ
theorem NJ (v:Φ)(xs:List Φ)(w:Ω)(h:BN 1 Gs w v xs)(hs:xs.length<=1048576)(bm:∀u∈Cb Gs xs,u.oneCell'=true):
 Ξ prog 125 #[v] w λe J=>∃v',e=.returned v'/\AP w.heap.size 29 1 Gs J v' xs/\Γ w w J:=by
 have h':=h;obtain⟨a,c,rfl,bx,aq,hl,az,V⟩:=h';have hq:=λw=>wP (P:=prog) w 23 29 a xs.length c 0 0 underlying23
 have b4:=AA bm;clear bm;cases a with
 |none=>have b9:=az rfl;subst b9;have h0:xs=[]:=xY ω;subst h0;simp only[xi] at hq;go_in;go_wp2;go_ret;exact⟨_,rfl,xo _ _ _ _,yN _ _⟩
 |some ad=>clear V az;have bt:(Cb Gs xs).length=xs.length*1:=hl;have Hl:=AA bt;clear hl bt;go_in;go_wp2_with (refine Em (lo:=w.heap.size) (v:=.slice w 0 0) (n:=0) (xs:=[]) (m:=xs.length) (news:=Cb Gs xs) rfl rfl 29 (.slice none 0 0) 1 24 underlying23 Tryz.infoRowsK rfl ψ rfl (CU _ _ _) rfl (Rd.alloc h _) b4 μ ω χ ?_;intro v' J a8 _ ae);go_ret;refine⟨_,rfl,by simpa[AP] using a8,((yN _ _).alloc (yF _) _).trans ae⟩
theorem Sh{m:Nat}{xs:List Φ}(h:w.ownsRow lo e sz (.slice g n H) n xs)(hn:n<=m)(hm:m<=H):∃ys,ys.take (n*sz)=xs/\w.ownsRow lo e sz (.slice g m H) m ys:=by
 rcases h.2 with⟨h0,_⟩|⟨g',cap',bw,hv,D,Z,bx,aq,d6,htake⟩
 .cases h0
 cases hv
 have O:n*sz<=m*sz:=wT _ hn;have Y:m*sz<=H*sz:=wT _ hm;refine⟨bw.toList.take (m*sz),by rw[uo,uY O];exact htake,?_,.inr ⟨g,H,bw,rfl,D,Z,hm,aq,d6,rfl⟩⟩;rw[yr,sZ,d6];omega
theorem PD{a:Act}{Q:Exit->Act->Ω->Prop}{s x:Operand}{t:TypeId}(gd:o.guard=none)(ho:o.op=.call {callee:=.builtin .append,args:= #[s,x],argTypes:= #[t,t]})
 {u:Φ}(hs:a.eval s=v)(N:a.eval x=u)(cr:(vG #[t,t] o.type #[v,u]).run P w=.ok v' J)(h:wpList P ops Q rest (a.put o.dst v') J):wpList P ops Q (o::rest) a w:=
 wpList_plain gd λ_ hK=>Bv ho hs N cr (hK _ _ h)
theorem PP (v:Φ)(xs:List Ag)(w:Ω)(h:AP lo 125 4 AZ w v xs)(bY:lo<=w.heap.size)(h4:xs.length=4):
 Ξ prog 230 #[v,.int .i64 0,.int .i64 1] w λe J=>∃v',e=.returned v'/\AP lo 125 4 AZ J v' (xs.drop 1)/\Γ lo w J:=by
 obtain⟨g,H,rfl,V,aq,Z,hU,fa⟩:=h.zW ω;have h':w.ownsRow lo 125 4 (.slice g 4 H) 4 (Cb AZ xs):=by have:=h;unfold AP at this;rwa [h4] at this
 rw[h4] at V ⊢;unfold maxLen at aq;obtain⟨i0,dg,ex,ej,ev⟩:=tW Tryz.zP;have gR:((Cb AZ xs).drop 4).length=3*4:=by rw[xC,JY Co,h4]
 have cr:=λW (hW:∀k,k<w.heap.size->W.heap[k]?=w.heap[k]?) (hO:W.ownsRow lo 125 4 (.slice g 4 H) 4 (Cb AZ xs)) ty=>
  run_append_fits (P:=prog) W lo 26 ty 125 i0 4 underlying26 dg ej g 0 H [] (QO hO (yu _)) ⟨g,4,none⟩ 3 (H - 1) ((Cb AZ xs).drop 4) gR (by
   intro j u hu;have A:j<12:=by have:=(yD.1 hu).1;omega
   have e:(⟨g,4,none⟩:Addr).add j=⟨g,4+j,none⟩:=by unfold uh;split<;>simp_all
   rw[e,xN hO (4+j) ω,<-hu,sO]) (by
   intro u hu;obtain⟨s,_,hs⟩:=wY.1 (vx hu);simp[AZ] at hs
   rcases hs with rfl|rfl|rfl|rfl<;>rfl) ω
 have jh:¬H=1:=ω;have hO:=AA h';have HR:=AA cr;clear cr h h' dg ex ej ev gR;go_in;go_wp2_with fail;go_still_tail 6,mixed
 change wpList _ _ _ _ _ w.drew
 have gm:Γ w w w.drew:=Ai (yN _ _) 1;have cl:=AA (BC hO gm);obtain⟨w3,fc,en,jd⟩:=HR w.drew gm.block cl 26;have bl:=AM (gm.mono bY) jd Z (yM bY gm.size);have im:lo<=w3.heap.size:=yM bY bl.size;obtain⟨ys,iR,dr⟩:=Sh en (ψ:0+3<=4) V;obtain⟨w4,fo,gp,jc⟩:=Kv (P:=prog) (sz:=4) (t:=26) underlying26 Qd rfl (by simp[th,xR]) dr (ψ:3<4);have hE:ys.take (3*4)=Cb AZ (xs.drop 1):=by
  have e:(Cb AZ xs).drop 4=Cb AZ (xs.drop 1):=by
   cases xs with
   |nil=>rfl
   |cons x xs=>rw[IU,List.drop_left' (Co x)];rfl
  rw[<-e];simpa using iR
 rw[hE] at gp;have jf:¬H=3:=ω;have R:=AA (show AP lo 125 4 AZ w4 (.slice g 3 H) (xs.drop 1) by unfold AP;rw[xC,h4];exact gp);have BL:=AA (AM bl jc Z im);have gi:=λty=>fo ty (H - 3)
 simp only[Nat.zero_add] at fc;clear fo en dr gp jd jc iR hE bl gm;generalize w.drew=w2 at fc ⊢;refine PD rfl rfl rfl rfl fc ?_;clear fc;go_wp2;go_ret;exact⟨_,rfl,R.u,BL.u⟩
end Go.Proofs.YtlcnbkkcplllhaaGreatDoor
namespace Go.Proofs
open Go.Shelf
def Tryz.lays189_ren:vQ:=⟨fun|189=>163|125=>217|257=>216|128=>261|129=>262|294=>252|295=>253|296=>254|297=>255|298=>256|299=>257|216=>258|300=>259|301=>260|328=>275|329=>276|330=>277|331=>278|332=>279|215=>280|343=>288|n=>n,fun|28=>29|3=>3|46=>194|0=>0|51=>225|53=>227|4=>4|183=>218|182=>217|131=>131|5=>5|9=>9|218=>235|222=>183|228=>242|229=>94|n=>n,fun|n=>n⟩
theorem Tryz.lays189:Go.Proofs.Lays.n189 prog Tryz.lays189_ren:= {
 mixed:=φ
 f125:=func217.trans (congrArg some φ)
 f128:=func261.trans (congrArg some φ)
 f129:=func262.trans (congrArg some φ)
 f189:=func163.trans (congrArg some φ)
 f215:=func280.trans (congrArg some φ)
 f216:=func258.trans (congrArg some φ)
 f257:=func216.trans (congrArg some φ)
 f294:=func252.trans (congrArg some φ)
 f295:=func253.trans (congrArg some φ)
 f296:=func254.trans (congrArg some φ)
 f297:=func255.trans (congrArg some φ)
 f298:=func256.trans (congrArg some φ)
 f299:=func257.trans (congrArg some φ)
 f300:=func259.trans (congrArg some φ)
 f301:=func260.trans (congrArg some φ)
 f328:=func275.trans (congrArg some φ)
 f329:=func276.trans (congrArg some φ)
 f330:=func277.trans (congrArg some φ)
 f331:=func278.trans (congrArg some φ)
 f332:=func279.trans (congrArg some φ)
 f343:=func288.trans (congrArg some φ)
 t0:=underlying0
 a0:=vf
 z0:=vt
 v0:=vT
 t3:=underlying3
 a3:=vC
 z3:=vL
 v3:=wm
 t4:=underlying4
 a4:=vB
 z4:=vK
 v4:=wl
 t5:=underlying5
 a5:=Tryz.isAgg5
 z5:=Tryz.sizeOf5
 v5:=rX
 t9:=underlying9
 a9:=uE
 z9:=uU
 v9:=vA
 t28:=underlying29
 a28:=tu
 z28:=tD
 v28:=tX
 t46:=underlying194
 a46:=tC
 z46:=tJ
 v46:=ue
 t51:=underlying225
 a51:=Tryz.isAgg225
 z51:=Tryz.sizeOf225
 v51:=Tryz.zeroValue225
 t53:=underlying227
 a53:=Tryz.isAgg227
 z53:=Tryz.sizeOf227
 v53:=Tryz.zeroValue227
 t131:=underlying131
 a131:=Tryz.isAgg131
 z131:=Tryz.sizeOf131
 v131:=Tryz.zeroValue131
 t182:=underlying217
 a182:=Tryz.isAgg217
 z182:=Tryz.sizeOf217
 v182:=Tryz.zeroValue217
 t183:=underlying218
 a183:=Tryz.isAgg218
 z183:=Tryz.sizeOf218
 v183:=Tryz.zeroValue218
 t218:=underlying235
 a218:=Tryz.isAgg235
 z218:=Tryz.sizeOf235
 v218:=Tryz.zeroValue235
 t222:=underlying183
 a222:=Tryz.isAgg183
 z222:=Tryz.sizeOf183
 v222:=Tryz.zeroValue183
 t228:=underlying242
 a228:=Tryz.isAgg242
 z228:=Tryz.sizeOf242
 v228:=Tryz.zeroValue242
 t229:=underlying94
 a229:=Tryz.isAgg94
 z229:=Tryz.sizeOf94
 v229:=Tryz.zeroValue94}
def Tryz.lays2n20_ren:vQ:=⟨fun|20=>164|n=>n,fun|22=>29|3=>3|4=>4|0=>0|n=>n,fun|n=>n⟩
theorem Tryz.lays2n20:Go.Proofs.Lays2.n20 prog Tryz.lays2n20_ren:= {
 mixed:=φ
 f20:=func164.trans (congrArg some φ)
 t0:=underlying0
 a0:=vf
 z0:=vt
 v0:=vT
 t3:=underlying3
 a3:=vC
 z3:=vL
 v3:=wm
 t4:=underlying4
 a4:=vB
 z4:=vK
 v4:=wl
 t22:=underlying29
 a22:=tu
 z22:=tD
 v22:=tX
 i3:=φ}
def Tryz.lays107_ren:vQ:=⟨fun|107=>221|108=>263|n=>n,fun|28=>29|3=>3|4=>4|0=>0|n=>n,fun|n=>n⟩
theorem Tryz.lays107:Go.Proofs.Lays.n107 prog Tryz.lays107_ren:= {
 mixed:=φ
 f107:=func221.trans (congrArg some φ)
 f108:=func263.trans (congrArg some φ)
 t0:=underlying0
 a0:=vf
 z0:=vt
 v0:=vT
 t3:=underlying3
 a3:=vC
 z3:=vL
 v3:=wm
 t4:=underlying4
 a4:=vB
 z4:=vK
 v4:=wl
 t28:=underlying29
 a28:=tu
 z28:=tD
 v28:=tX}
def Tryz.lays2n26_ren:vQ:=⟨fun|26=>225|33=>264|34=>265|38=>281|n=>n,fun|24=>79|9=>9|3=>3|4=>4|40=>194|0=>0|n=>n,fun|n=>n⟩
theorem Tryz.lays2n26:Go.Proofs.Lays2.n26 prog Tryz.lays2n26_ren:= {
 mixed:=φ
 f26:=func225.trans (congrArg some φ)
 f33:=func264.trans (congrArg some φ)
 f34:=func265.trans (congrArg some φ)
 f38:=func281.trans (congrArg some φ)
 t0:=underlying0
 a0:=vf
 z0:=vt
 v0:=vT
 t3:=underlying3
 a3:=vC
 z3:=vL
 v3:=wm
 t4:=underlying4
 a4:=vB
 z4:=vK
 v4:=wl
 t9:=underlying9
 a9:=uE
 z9:=uU
 v9:=vA
 t24:=underlying79
 a24:=Tryz.isAgg79
 z24:=Tryz.sizeOf79
 v24:=sh
 t40:=underlying194
 a40:=tC
 z40:=tJ
 v40:=ue}
def Tryz.lays2n22_ren:vQ:=⟨fun|22=>226|29=>266|30=>267|36=>282|17=>289|n=>n,fun|24=>79|9=>9|3=>3|4=>4|0=>0|n=>n,fun|n=>n⟩
theorem Tryz.lays2n22:Go.Proofs.Lays2.n22 prog Tryz.lays2n22_ren:= {
 mixed:=φ
 f17:=func289.trans (congrArg some φ)
 f22:=func226.trans (congrArg some φ)
 f29:=func266.trans (congrArg some φ)
 f30:=func267.trans (congrArg some φ)
 f36:=func282.trans (congrArg some φ)
 t0:=underlying0
 a0:=vf
 z0:=vt
 v0:=vT
 t3:=underlying3
 a3:=vC
 z3:=vL
 v3:=wm
 t4:=underlying4
 a4:=vB
 z4:=vK
 v4:=wl
 t9:=underlying9
 a9:=uE
 z9:=uU
 v9:=vA
 t24:=underlying79
 a24:=Tryz.isAgg79
 z24:=Tryz.sizeOf79
 v24:=sh
 i9:=φ}
def Tryz.lays160_ren:vQ:=⟨fun|160=>214|232=>246|231=>245|227=>247|234=>249|233=>248|236=>251|235=>250|228=>271|271=>274|151=>273|197=>272|120=>287|152=>286|260=>285|137=>291|119=>292|224=>293|225=>294|217=>295|266=>296|n=>n,fun|9=>9|4=>4|3=>3|5=>5|117=>212|116=>211|0=>0|124=>215|21=>21|105=>232|46=>194|119=>246|139=>249|138=>248|n=>n,fun|3=>0|4=>1|n=>n⟩
theorem Tryz.lays160:Go.Proofs.Lays.n160 prog Tryz.lays160_ren:= {
 mixed:=φ
 f119:=func292.trans (congrArg some φ)
 f120:=func287.trans (congrArg some φ)
 f137:=func291.trans (congrArg some φ)
 f151:=func273.trans (congrArg some φ)
 f152:=func286.trans (congrArg some φ)
 f160:=func214.trans (congrArg some φ)
 f197:=func272.trans (congrArg some φ)
 f217:=func295.trans (congrArg some φ)
 f224:=func293.trans (congrArg some φ)
 f225:=func294.trans (congrArg some φ)
 f227:=func247.trans (congrArg some φ)
 f228:=func271.trans (congrArg some φ)
 f231:=func245.trans (congrArg some φ)
 f232:=func246.trans (congrArg some φ)
 f233:=func248.trans (congrArg some φ)
 f234:=func249.trans (congrArg some φ)
 f235:=func250.trans (congrArg some φ)
 f236:=func251.trans (congrArg some φ)
 f260:=func285.trans (congrArg some φ)
 f266:=func296.trans (congrArg some φ)
 f271:=func274.trans (congrArg some φ)
 t0:=underlying0
 a0:=vf
 z0:=vt
 v0:=vT
 t3:=underlying3
 a3:=vC
 z3:=vL
 v3:=wm
 t4:=underlying4
 a4:=vB
 z4:=vK
 v4:=wl
 t5:=underlying5
 a5:=Tryz.isAgg5
 z5:=Tryz.sizeOf5
 v5:=rX
 t9:=underlying9
 a9:=uE
 z9:=uU
 v9:=vA
 t21:=underlying21
 a21:=Tryz.isAgg21
 z21:=Tryz.sizeOf21
 v21:=Tryz.zeroValue21
 t46:=underlying194
 a46:=tC
 z46:=tJ
 v46:=ue
 t105:=underlying232
 a105:=Tryz.isAgg232
 z105:=Tryz.sizeOf232
 v105:=Tryz.zeroValue232
 t116:=underlying211
 a116:=Tryz.isAgg211
 z116:=Tryz.sizeOf211
 t117:=underlying212
 a117:=Tryz.isAgg212
 z117:=Tryz.sizeOf212
 v117:=Tryz.zeroValue212
 t119:=underlying246
 a119:=Tryz.isAgg246
 z119:=Tryz.sizeOf246
 t124:=underlying215
 a124:=Tryz.isAgg215
 z124:=Tryz.sizeOf215
 v124:=Tryz.zeroValue215
 t138:=underlying248
 a138:=Tryz.isAgg248
 z138:=Tryz.sizeOf248
 v138:=Tryz.zeroValue248
 t139:=underlying249
 a139:=Tryz.isAgg249
 z139:=Tryz.sizeOf249
 v139:=Tryz.zeroValue249
 g3:=φ
 g4:=φ}
def Tryz.lays99_ren:vQ:=⟨fun|99=>111|206=>171|n=>n,fun|9=>9|4=>4|3=>3|n=>n,fun|n=>n⟩
theorem Tryz.lays99:Go.Proofs.Lays.n99 prog Tryz.lays99_ren:= {
 mixed:=φ
 f99:=func111.trans (congrArg some φ)
 f206:=func171.trans (congrArg some φ)
 t3:=underlying3
 a3:=vC
 z3:=vL
 v3:=wm
 t4:=underlying4
 a4:=vB
 z4:=vK
 v4:=wl
 t9:=underlying9
 a9:=uE
 z9:=uU
 v9:=vA}
end Go.Proofs
namespace Go.Proofs.YtlcnbkkcplllhaaGreatDoor
open Go.Proofs.Tryz
open Go.RowKit Go.Shelf
theorem UC (l cs:List UInt8):Lib.trimLeftS l cs=[]↔∀b∈l,cs.contains b=true:=by
 unfold Lib.trimLeftS
 induction l with
 |nil=>simp
 |cons x l ih=>
  rw[sR]
  by_cases N:cs.contains x=true
  .rw[if_pos N,ih]
   constructor
   .intro h b D
    rcases xH.1 D with e|e
    .subst e;exact N
    exact h b e
   intro h b D
   exact h b (uI _ D)
  rw[if_neg N]
  constructor
  .intro h;cases h
  intro h;exact absurd (h x vR) N
theorem dG (l cs:List UInt8):ut l cs=[]↔∀b∈l,cs.contains b=true:=by
 unfold ut;rw[UC];unfold Lib.trimRightS;constructor
 .intro h b D
  by_cases V:cs.contains b=true
  .exact V
  refine h b ?_
  have Y:b∈l.reverse:=uX.2 D;have:∀l':List UInt8,b∈l'->b∈l'.dropWhile (cs.contains ·):=by
   intro l'
   induction l' with
   |nil=>intro h;exact h
   |cons x l' ih=>
    intro h;rw[sR]
    split
    .next N=>
     rcases xH.1 h with e|e
     .subst e;exact absurd N V
     exact ih e
    exact h
  exact uX.2 (this _ Y)
 intro h b D
 exact h b (uX.1 ((List.dropWhile_sublist _).subset (uX.1 D)))
theorem SL (c:UInt8):([97,98,99]:List UInt8).contains c=F8 c:=by
 have h:∀n:Fin 256,([97,98,99]:List UInt8).contains ⟨⟨n⟩⟩=F8 ⟨⟨n⟩⟩:=by decide+kernel
 exact h c.toBitVec.toFin
theorem Vk (s:ByteArray)(h:s.size<=4):(xW ⟨(ut s.data.toList [97,98,99]).toArray⟩=.string ⟨#[]⟩)↔BT s=true:=by
 have e:BT s=s.data.toList.all F8:=by simp[BT,h]
 rw[e,ym];have t:=dG s.data.toList [97,98,99];constructor
 .intro hv b D
  have:ut s.data.toList [97,98,99]=[]:=by simp only[Value.string.injEq,ByteArray.mk.injEq] at hv;have:=congrArg Array.toList hv;simpa using this
  rw[<-SL];exact t.1 this b D
 intro ha
 rw[t.2 (λb D=>by rw[SL];exact ha b D)]
theorem isEmpty_iff (r:ByteArray):r.toList.isEmpty=true↔r=⟨#[]⟩:=by rw[xI,tO];obtain⟨⟨l⟩⟩:=r;simp
theorem Dt (s:ByteArray)(w:Ω)(hs:s.size<=maxLen):
 Ξ prog 159 #[.string s] w λe J=>e=.returned (.bool (BT s))/\Γ w w J:=by
 unfold maxLen at hs
 by_cases h4:s.size<=4
 .have gh:=Any.strings_Trim_laid Tryz.lays160 φ s ⟨#[97,98,99]⟩ w ω ψ (ascii_of_all ψ)
  change Ξ prog 214 _ _ (λe J=>e=.returned (.string ⟨(ut s.data.toList [97,98,99]).toArray⟩)/\Γ w w J) at gh
  have R:=AA (Vk s h4);have i4:(s.size:Int)<=4:=ω
  generalize(⟨(ut s.data.toList [97,98,99]).toArray⟩:ByteArray)=r at gh R;go_in;go_wp2_with (refine gh.mono ?_;rintro e w1 ⟨rfl,D⟩;have S:dv (r.toList.isEmpty=BT s):=AA (by rw[wL,<-R.u,isEmpty_iff];simp));go_ret;exact⟨AF S.u,D⟩
 have S:=AA (show BT s=false by simp[BT,h4])
 have i4:¬(s.size:Int)<=4:=ω;go_in;go_wp2;go_ret;exact⟨AF S.symm,yN _ _⟩
end Go.Proofs.YtlcnbkkcplllhaaGreatDoor
namespace Go.Proofs.YtlcnbkkcplllhaaGreatDoor
open Go.Proofs.Tryz Go.RowKit Go.Shelf Go.Sort
def A8(ns:List Nat):List Int:=ns.map λn:Nat=>(n:Int)
theorem Cx (ns:List Nat):(A8 ns).length=ns.length:=by simp[A8]
variable{ns:List Nat}
variable{H b d e g hx i j k len lo n sz:Nat}
theorem SY (h:k<ns.length):nth (A8 ns) k=((ns.getD k 0:Nat):Int):=by simp[nth,A8,h]
theorem Lg:(g:Int)∈A8 ns↔g∈ns:=by
 simp only[A8,wj];constructor
 .rintro⟨a,h,e⟩
  have:a=g:=ω;subst this;exact h
 exact λh=>⟨g,h,rfl⟩
variable{c8 v v' v1 v2:Φ}
variable{J cm w w1:Ω}
theorem Ud{xs:List Φ}(h:w.ownsRow lo e 1 v n xs)(hn:0<n):∃g H bw,v=.slice (some ⟨g,0,none⟩) n H/\lo<=g/\w.heap[g]?=some (.cells bw e (0,0))/\n<=H/\H<=maxLen/\bw.size=H*1/\bw.toList.take (n*1)=xs:=by
 rcases h.2 with⟨rfl,rfl⟩|⟨g,H,bw,rfl,D,Z,bx,aq,d6,htake⟩
 .have:=h.1;simp at this;omega
 exact⟨g,H,bw,rfl,D,Z,bx,aq,d6,htake⟩
theorem OL (v:Φ)(ns:List Nat)(w:Ω)(h:AE lo w v (A8 ns))(hs:ns.length<=1048576):
 Ξ prog 163 #[v] w λe J=>e=.returned (.tuple #[])/\∃ts:List Nat,ts.length=ns.length/\(∀g,g∈ts↔g∈ns)/\AE lo J v (A8 ts)/\w.grownBy J v.ownBlock:=by
 by_cases h0:ns.length=0
 .obtain rfl:ns=[]:=xY h0
  obtain⟨a,c,rfl,_⟩:=h.rd.open;refine(Any.slices_Sort_int_none Tryz.lays189 a c w).mono ?_;rintro e J ⟨rfl,rfl⟩;exact⟨rfl,[],rfl,λ_=>Iff.rfl,h,⟨rfl,rfl,rfl,yF _,λ_ _ _=>rfl⟩⟩
 obtain⟨g,H,bw,rfl,Z,D,bx,aq,d6,ht⟩:=Ud h (by rw[Cx];omega)
 have hH:=holds_of_blockI (ss:=A8 ns) D (by simpa using ht);have hl:(ns.mergeSort λx y=>decide (x<=y)).length=ns.length:=List.length_mergeSort _;have e1:(A8 ns).mergeSort (λx y=>decide (x<=y))=A8 (ns.mergeSort λx y=>decide (x<=y)):=by unfold A8;rw[List.map_mergeSort];intro a _ b _;simp
 refine(Any.slices_Sort_int Tryz.lays189 g 0 H (A8 ns) w hH (vZ.1 D).1 (by rw[Cx];omega)).mono ?_;rintro e J ⟨rfl,nn,os,rfl⟩;rw[e1];refine⟨rfl,_,hl,λg=>List.mem_mergeSort,?_,grownBy_sortedI _⟩;have:=ownsRow_sortedI (n:=nn) (os:=os) (ss:=A8 ns) (ts:=A8 (ns.mergeSort λx y=>decide (x<=y))) (by rw[Cx,Cx];exact hl) Z D bx aq d6;have el:(A8 (ns.mergeSort λx y=>decide (x<=y))).length=(A8 ns).length:=by rw[Cx,Cx];exact hl
 unfold AE;rw[el];exact this
theorem WH (d:Array Int):∀m,m<=d.size->∀x,x∈tM d m↔∃j,j<m/\d[j]! =x:=by
 intro m
 induction m with
 |zero=>intro _ x;simp[tM]
 |succ m ih=>
  intro hm x;rw[Lib.compactUpTo_succ,wI,ih ω];cases z:Lib.keeps d m
  .have gS:m≠0/\d[m]! =d[m - 1]! :=by
    unfold Lib.keeps at z;simp at z;exact⟨ω,z.2⟩
   constructor
   .rintro(⟨j,A,h⟩|h)
    .exact⟨j,ω,h⟩
    simp at h
   rintro⟨j,A,h⟩
   by_cases e:j=m
   .subst e;exact .inl ⟨j - 1,ω,by rw[<-gS.2];exact h⟩
   exact .inl ⟨j,ω,h⟩
  constructor
  .rintro(⟨j,A,h⟩|h)
   .exact⟨j,ω,h⟩
   simp at h;exact⟨m,ω,h.symm⟩
  rintro⟨j,A,h⟩
  by_cases e:j=m
  .subst e;exact .inr (by simp[h])
  exact .inl ⟨j,ω,h⟩
theorem OT (zs:List Int)(x:Int):x∈wR zs↔x∈zs:=by
 unfold wR;rw[WH _ _ χ];constructor
 .rintro⟨j,A,rfl⟩
  simp[A]
 intro h
 obtain⟨j,A,rfl⟩:=xl h;exact⟨j,A,by simp[A]⟩
theorem Xk (zs:List Int):(wR zs).length<=zs.length:=by unfold wR tM;rw[uJ];exact yM (xG _ _) χ
variable{bs xs ys zs:List Int}
theorem Yx (h:∀hk∈zs,0<=hk):A8 (zs.map Int.toNat)=zs:=by
 unfold A8;rw[List.map_map]
 conv=>rhs;rw[<-List.map_id zs]
 exact List.map_congr_left λhk hz=>by have:=h hk hz;simp;omega
theorem YM{xs:List Φ}(h:w.ownsRow lo e 1 (.slice g n H) n xs)(z:k<=n):w.ownsRow lo e 1 (.slice g k H) k (xs.take k):=by
 rcases h.2 with⟨h0,_⟩|⟨g',cap',bw,hv,D,Z,bx,aq,d6,htake⟩
 .cases h0
 cases hv
 refine⟨by have:=h.1;simp at this;simp[this];omega,.inr ⟨g,H,bw,rfl,D,Z,ω,aq,d6,?_⟩⟩;rw[<-htake,uo,wX,wX,uY z]
theorem Lq (v:Φ)(ns:List Nat)(w:Ω)(h:AE lo w v (A8 ns))(hs:ns.length<=1048576):
 Ξ prog 164 #[v] w λe J=>∃v',e=.returned v'/\v'.ownBlock=v.ownBlock/\∃ts:List Nat,ts.length<=ns.length/\(∀g,g∈ts↔g∈ns)/\AE lo J v' (A8 ts)/\w.grownBy J v.ownBlock:=by
 by_cases h0:ns.length=0
 .obtain rfl:ns=[]:=xY h0
  obtain⟨a,c,rfl,_⟩:=h.rd.open;refine(Any.slices_Compact_int_empty Tryz.lays2n20 a c w).mono ?_;rintro e J ⟨rfl,rfl⟩;exact⟨_,rfl,rfl,[],yF _,λ_=>Iff.rfl,h,⟨rfl,rfl,rfl,yF _,λ_ _ _=>rfl⟩⟩
 obtain⟨g,H,bw,rfl,Z,D,bx,aq,d6,ht⟩:=Ud h (by rw[Cx];omega)
 have hH:=holds_of_blockI (ss:=A8 ns) D (by simpa using ht);have gM:∀hk∈wR (A8 ns),0<=hk:=by intro hk hz;rw[OT] at hz;obtain⟨n,_,rfl⟩:=wj.1 hz;omega
 refine(Any.slices_Compact_int Tryz.lays2n20 g 0 H (A8 ns) w hH (by rw[Cx];omega) bx).mono ?_;rintro e J ⟨rfl,nn,rfl⟩;have gQ:=Xk (A8 ns);have hO:=ownsRow_sortedI (n:=nn) (os:= #[]) (ss:=A8 ns) (ts:=wR (A8 ns)++xZ ((A8 ns).length - (wR (A8 ns)).length) 0) η Z D bx aq d6;have hG:=grownBy_sortedI (w:=w) (g:=g) (n:=nn) (os:= #[]) (wR (A8 ns)++xZ ((A8 ns).length - (wR (A8 ns)).length) 0).toArray;rw[grow_empty] at hO hG;refine⟨_,rfl,rfl,(wR (A8 ns)).map Int.toNat,by rw[uJ];rw[Cx] at gQ;exact gQ,λg=>?_,?_,hG⟩
 .rw[<-Lg,Yx gM,OT,Lg]
 rw[Yx gM]
 have hP:=YM hO gQ;unfold AE;have e:((wR (A8 ns)++xZ ((A8 ns).length - (wR (A8 ns)).length) 0).map (yl .i64)).take (wR (A8 ns)).length=(wR (A8 ns)).map (yl .i64):=by rw[xM,uF χ]
 rw[e] at hP;exact hP
theorem PM (v:Φ)(ns:List Nat)(x:Int)(w:Ω)(h:A3 w v (A8 ns)):
 Ξ prog 221 #[v,.int .i64 x] w λe J=>e=.returned (.bool ((A8 ns).contains x))/\w=J:=by
 obtain⟨a,c,rfl,V,aq,H0⟩:=h.open;unfold maxLen at aq
 by_cases h0:ns.length=0
 .obtain rfl:ns=[]:=xY h0
  refine(Any.slices_Contains_int_empty Tryz.lays107 a c x w).mono ?_;rintro e J ⟨rfl,rfl⟩;exact⟨rfl,rfl⟩
 obtain⟨b,X,rfl,ax⟩:=H0 0 (by rw[Cx];omega)
 refine(Any.slices_Contains_int Tryz.lays107 b X (A8 ns).length c (A8 ns) x w (yF _) ω (λj A=>ax j A)).mono ?_;rintro e J ⟨rfl,rfl⟩;rw[xD];exact⟨rfl,rfl⟩
theorem NL (s p:ByteArray)(w:Ω):Ξ prog 111 #[.string s,.string p] w λe J=>e=.returned (.bool (L3 p s))/\w=J:=by refine(Any.strings_HasPrefix Tryz.lays99 s p w).mono ?_;rintro e J ⟨rfl,rfl⟩;exact⟨rfl,rfl⟩
end Go.Proofs.YtlcnbkkcplllhaaGreatDoor
namespace Go.Proofs.YtlcnbkkcplllhaaGreatDoor
open Go.Proofs.Tryz Go.RowKit
theorem QY (r:List Int):Lp r=EW r:=by
 unfold Lp EW;rw[Bool.and_comm]
 congr 1
theorem OP{α:Type}{p:α->Bool}{l:List α}:(!l.any λx=>!p x)=l.all p:=by simp[tA]
theorem PV (u:Φ)(r:List Int)(w:Ω)(h:A3 w u r):Ξ prog 152 #[u] w λe J=>e=.returned (.bool (!EW r))/\Γ w w J:=by have C:=AA (QC u r w h);clear h;go_in;go_wp2_with (refine C.mono ?_;rintro e J ⟨rfl,rfl⟩;rw[QY]);go_ret;exact⟨rfl,yN _ _⟩
theorem Iy (v:Φ)(m:List (List Int))(w:Ω)(h:Bn w v m):Ξ prog 93 #[v] w λe J=>e=.returned (.bool (CJ m))/\Γ w w J:=by
 have C:=AA (JQ 152 #[] (λr=>!EW r) v m w h (λ_ _=>φ) (λu r _ W _ hr=>PV u r W hr));obtain⟨a,c,rfl,V,aq,_⟩:=h.open;clear h;unfold maxLen at aq
 by_cases h4:m.length=12
 .have S:=AA (show(!m.any λr=>!EW r)=CJ m by rw[OP];simp[CJ,h4])
  have D:((m.length:Int)==12)=true:=by simp[h4]
  clear h4;go_in;go_wp2_with (refine C.mono ?_;rintro e J ⟨rfl,ay⟩);go_ret;exact⟨AF S.u,ay⟩
 have S:=AA (show CJ m=false by simp[CJ,h4])
 have D:((m.length:Int)==12)=false:=η;clear h4;go_in;go_wp2;go_ret;exact⟨AF S.symm,yN _ _⟩
def J3(r:List Int):Bool:=r.isEmpty||EW r
theorem Vs (h:0<r.length):J3 r=EW r:=by cases r with|nil=>simp at h|cons=>simp[J3]
theorem Vr (h:¬0<r.length):J3 r=true:=by cases r with|nil=>simp[J3]|cons=>simp at h
theorem RY (u:Φ)(r:List Int)(w:Ω)(h:A3 w u r):Ξ prog 105 #[u] w λe J=>e=.returned (.bool (!J3 r))/\Γ w w J:=by
 have C:=AA (QC u r w h);obtain⟨a,c,rfl,V,aq,_⟩:=h.open;clear h;unfold maxLen at aq
 by_cases h0:0<r.length
 .have S:=AA (show(!J3 r)=!EW r by rw[Vs h0])
  have D:(0:Int)<(r.length:Int):=ω;go_in;go_wp2_with (refine C.mono ?_;rintro e J ⟨rfl,rfl⟩;rw[QY]);go_ret;exact⟨AF S.symm,yN _ _⟩
 have S:=AA (show(!J3 r)=false by rw[Vr h0];rfl)
 have D:¬(0:Int)<(r.length:Int):=ω;go_in;go_wp2;go_ret;exact⟨AF S.symm,yN _ _⟩
theorem RZ (v:Φ)(m:List (List Int))(w:Ω)(h:Bn w v m):Ξ prog 50 #[v] w λe J=>e=.returned (.bool (F3 m))/\Γ w w J:=by
 have C:=AA (JQ 105 #[] (λr=>!J3 r) v m w h (λ_ _=>φ) (λu r _ W _ hr=>RY u r W hr));obtain⟨a,c,rfl,V,aq,_⟩:=h.open;clear h;unfold maxLen at aq
 by_cases h4:m.length=16
 .have S:=AA (show(!m.any λr=>!J3 r)=F3 m by rw[OP];simp[F3,h4];rfl)
  have D:((m.length:Int)==16)=true:=by simp[h4]
  clear h4;go_in;go_wp2_with (refine C.mono ?_;rintro e J ⟨rfl,ay⟩);go_ret;exact⟨AF S.u,ay⟩
 have S:=AA (show F3 m=false by simp[F3,h4])
 have D:((m.length:Int)==16)=false:=η;clear h4;go_in;go_wp2;go_ret;exact⟨AF S.symm,yN _ _⟩
def JC(xs:List AW):Prop:=∀x∈xs,x.g.size<=maxLen
def af(x:AW):Bool:=Bo x.k 1 3&&BT x.g&&Bo x.r 0 50
theorem WZ:Dm AW.zero=true:=by simp[Dm]
theorem Nq{x:AW}(h:x≠AW.zero):Dm x=af x:=by simp[Dm,h,af]
theorem X0 (x:AW)(w:Ω)(hs:x.g.size<=maxLen):Ξ prog 155 #[x.val] w λe J=>e=.returned (.bool (Dm x))/\Γ w w J:=by
 obtain⟨k,g,r⟩:=x;simp only[AW.val];simp only at hs;have C:=AA (λW=>Dt g W hs);clear hs;have ei:∀(b:Bool),b=false->Dm ⟨k,g,r⟩=Dm ⟨k,g,r⟩:=λ_ _=>rfl
 clear ei;have CW:=AA (λn lo E W=>EU n lo E W)
 by_cases z:k=0
 .subst z
  by_cases Z:g.toList=[]
  .by_cases hr:r=0
   .have S:=AA (show Dm ⟨0,g,r⟩=true by
     have:g=⟨#[]⟩:=by rw[xI] at Z;cases g;simp at Z;rw[Z]
     rw[hr,this];exact WZ)
    go_in;go_wp2;go_ret;exact⟨AF S.symm,AG _ _⟩
   have S:=AA (show Dm ⟨0,g,r⟩=false by rw[Nq (by intro e;simp[AW.zero] at e;exact hr e.2)];simp[af,Bo])
   have ai:=AA (show Bo 0 1 3=false from rfl);go_in;go_wp2_with (refine(CW _ _ _ _).mono ?_;rintro e J ⟨rfl,rfl⟩;rw[ai.u]);go_ret;exact⟨AF S.symm,AG _ _⟩
  have S:=AA (show Dm ⟨0,g,r⟩=false by rw[Nq (by intro e;simp[AW.zero] at e;exact Z (by rw[e.1,xI]))];simp[af,Bo])
  have ai:=AA (show Bo 0 1 3=false from rfl);go_in;go_wp2_with (refine(CW _ _ _ _).mono ?_;rintro e J ⟨rfl,rfl⟩;rw[ai.u]);go_ret;exact⟨AF S.symm,AG _ _⟩
 have S:=AA (show Dm ⟨k,g,r⟩=af ⟨k,g,r⟩ from Nq (by intro e;simp[AW.zero] at e;exact z e.1))
 cases O:Bo k 1 3
 .have T:=AA (show af ⟨k,g,r⟩=false by simp[af,O])
  have ai:=AA O;clear O;go_in;go_wp2_with (refine(CW _ _ _ _).mono ?_;rintro e J ⟨rfl,rfl⟩;rw[ai.u]);go_ret;exact⟨AF (S.trans T.u).symm,AG _ _⟩
 cases Y:BT g
 .have T:=AA (show af ⟨k,g,r⟩=false by simp[af,Y])
  have ai:=AA O;clear O;have H2:=AA Y;clear Y;go_in;go_wp2_with (first|(refine(CW _ _ _ _).mono ?_;rintro e J ⟨rfl,rfl⟩;rw[ai.u])|(refine(C _).mono ?_;rintro e J ⟨rfl,D⟩;rw[H2.u]));go_ret;exact⟨AF (S.trans T.u).symm,(AG _ _).trans (D.mono (AG _ _).size)⟩
 have T:=AA (show af ⟨k,g,r⟩=Bo r 0 50 by simp[af,O,Y])
 have ai:=AA O;clear O;have H2:=AA Y;clear Y;go_in;go_wp2_with fail;refine(CW _ _ _ _).mono ?_;rintro e J ⟨rfl,rfl⟩;rw[ai.u];go_wp2_with fail;refine(C _).mono ?_;rintro e J ⟨rfl,D⟩;rw[H2.u];have hz:w.heap.size<J.heap.size:=by have:=D.size;simp at this;omega
 obtain⟨V,K⟩:=bI D;go_wp2_with (refine(CW _ _ _ _).mono ?_;rintro e J ⟨rfl,rfl⟩);go_ret;exact⟨AF (S.trans T.u).symm,(AG _ _).trans (D.mono (AG _ _).size)⟩
theorem Qe (x:AW)(w:Ω)(hs:x.g.size<=maxLen):Ξ prog 154 #[x.val] w λe J=>e=.returned (.bool (!Dm x))/\Γ w w J:=by
 have C:=AA (λW=>X0 x W hs);obtain⟨k,g,r⟩:=x;simp only[AW.val] at C ⊢;go_in;go_wp2_with (refine(C _).mono ?_;rintro e J ⟨rfl,D⟩);go_ret;exact⟨rfl,(AG _ _).trans (D.mono (AG _ _).size)⟩
theorem Dp (v:Φ)(xs:List AW)(w:Ω)(h:Bh w v xs)(hs:JC xs):Ξ prog 94 #[v] w λe J=>e=.returned (.bool (BJ xs))/\Γ w w J:=by
 have C:=AA (L7 154 #[] (λx=>!Dm x) v xs w h (λ_ _=>φ) (λx N W _=>Qe x W (hs x N)));obtain⟨a,c,rfl,V,aq⟩:=h.shape;clear h hs;unfold maxLen at aq
 by_cases h4:xs.length=12
 .have S:=AA (show(!xs.any λx=>!Dm x)=BJ xs by rw[OP];simp[BJ,h4])
  have D:((xs.length:Int)==12)=true:=by simp[h4]
  clear h4;go_in;go_wp2_with (refine C.mono ?_;rintro e J ⟨rfl,ay⟩);go_ret;exact⟨AF S.u,ay⟩
 have S:=AA (show BJ xs=false by simp[BJ,h4])
 have D:((xs.length:Int)==12)=false:=η;clear h4;go_in;go_wp2;go_ret;exact⟨AF S.symm,yN _ _⟩
theorem Rn (x:AW)(w:Ω):Ξ prog 198 #[x.val] w λe J=>e=.returned (.bool (decide (x.k=0)))/\Γ w w J:=by obtain⟨k,g,r⟩:=x;simp only[AW.val];have S:=AA (show(k==0)=decide (k=0) by cases h:(k==0)<;>simp_all);go_in;go_wp2;go_ret;exact⟨AF S.u,AG _ _⟩
theorem Ks (v:Φ)(xs:List AW)(w:Ω)(h:Bh w v xs):Ξ prog 135 #[v] w λe J=>e=.returned (.int .i64 (Ao xs))/\Γ w w J:=by
 have C:=AA (Kb 198 #[] (λx=>decide (x.k=0)) v xs w h (λ_ _=>φ) (λx _ W _=>Rn x W));obtain⟨a,c,rfl,V,aq⟩:=h.shape;clear h;go_in;go_wp2_with (refine C.mono ?_;rintro e J ⟨rfl,ay⟩);go_ret;exact⟨rfl,ay⟩
theorem cI (s g:ByteArray)(b:Nat)(w:Ω)(h:w.cell? b=some (.string g)):Ξ prog 110 #[.string s,.pointer b] w λe J=>e=.returned (.bool (L3 s g))/\Γ w w J:=by go_in;go_wp2_with (refine(NL _ _ _).mono ?_;rintro e J ⟨rfl,rfl⟩);go_ret;exact⟨rfl,yN _ _⟩
theorem Qp (v:Φ)(ss:List ByteArray)(g:ByteArray)(w:Ω)(h:BZ w v ss):Ξ prog 52 #[v,.string g] w λe J=>e=.returned (.bool (Ci ss g))/\Γ w w J:=by
 have b1:=AG w (.cells #[g] 9);have cg:(w.alloc (.cells #[g] 9)).cell? w=some (.string g):=yx _ _ 0 _ _ _ (yy _ _);have C:=AA (LN 110 #[.pointer w] (λs=>L3 s g) v ss _ (BN.below h b1) (λ_ _=>φ) (λs _ W hW=>cI s g _ W ((hW.cell (yK _ _ cg)).trans cg)));obtain⟨a,c,rfl,V,aq⟩:=h.shape;clear h cg;go_in;go_wp2_with (refine C.mono ?_;rintro e J ⟨rfl,ay⟩);go_ret;exact⟨rfl,b1.trans (ay.mono b1.size)⟩
def TJ(xs:List AW)(g:ByteArray):List AW:=xs.set (Ao xs).toNat ⟨1,g,0⟩
theorem Q0 (v:Φ)(xs:List AW)(g:ByteArray)(w:Ω)(h:Bh w v xs)(hs:JC xs)(Z:g.size<=maxLen)(bX:BJ xs=true)(hr:BT g=true)(K:Ao xs<0):
 Ξ prog 176 #[v,.string g] w λe J=>e=.returned (.tuple #[ι,θ,υ])/\Γ w w J:=by
 have C1:=AA (λW (hW:Γ w w W)=>Dp v xs W (BN.below h hW) hs);have C2:=AA (λW=>Dt g W Z);have C3:=AA (λW (hW:Γ w w W)=>Ks v xs W (BN.below h hW));have Ok:=AA bX;have Hr:=AA hr;clear bX hr h hs Z;go_in;go_wp2_with fail;refine(C1 _ (yN _ _)).mono ?_;rintro e w1 ⟨rfl,br⟩;rw[Ok.u];go_wp2_with fail;refine(C2 _).mono ?_;rintro e w2 ⟨rfl,ay⟩;rw[Hr.u];replace ay:=br.trans (ay.mono br.size);clear br;go_wp2_with fail;refine(C3 _ ay).mono ?_;rintro e w3 ⟨rfl,bl⟩;replace bl:=ay.trans (bl.mono ay.size);clear ay;go_wp2_with fail;go_ret3;exact⟨rfl,bl⟩
theorem Q3 (v:Φ)(xs:List AW)(g:ByteArray)(w:Ω)(h:Bh w v xs)(hs:JC xs)(Z:g.size<=maxLen)(bX:BJ xs=true)(hr:BT g=true)(K:0<=Ao xs):
 Ξ prog 176 #[v,.string g] w λe J=>∃v',e=.returned (.tuple #[v',.int .i64 (Ao xs),τ])/\AP w.heap.size 115 3 Au J v' (TJ xs g)/\Γ w w J:=by
 have C1:=AA (λW (hW:Γ w w W)=>Dp v xs W (BN.below h hW) hs);have C2:=AA (λW=>Dt g W Z);have C3:=AA (λW (hW:Γ w w W)=>Ks v xs W (BN.below h hW));have hl:xs.length=12:=(A4.1 bX).1;have C4:=AA (λW (hW:Γ w w W)=>Ge v xs W (BN.below h hW) ω);have Ok:=AA bX;have Hr:=AA hr;have gY:(Ao xs).toNat<xs.length:=(GO ω).1;have Hl:=AA hl;clear bX hr h hs Z hl;go_in;go_wp2_with fail;refine(C1 _ (yN _ _)).mono ?_;rintro e w1 ⟨rfl,br⟩;rw[Ok.u];go_wp2_with fail;refine(C2 _).mono ?_;rintro e w2 ⟨rfl,ay⟩;rw[Hr.u];replace ay:=br.trans (ay.mono br.size);clear br;go_wp2_with fail;refine(C3 _ ay).mono ?_;rintro e w3 ⟨rfl,bl⟩;replace bl:=ay.trans (bl.mono ay.size);clear ay;go_wp2_with fail;refine(C4 _ bl).mono ?_;rintro e w4 ⟨v',rfl,hO,ee⟩;obtain⟨q,H,rfl,c1,c2,q1,q2,hV⟩:=hO.zW ω;unfold maxLen at c2;have hS:=AA (AP.stored Az hO gY ⟨1,g,0⟩);obtain⟨d0,d1,d2⟩:=AP.zZ hO gY;have hB:=AA (AM (bl.trans (ee.mono bl.size)) hS.2 (yM bl.size q1) (bl.trans (ee.mono bl.size)).size);have bY:=bl.size;clear hO ee bl;have j7:Ao xs<xs.length:=ω;go_wp2_with fail;go_ret3;exact⟨_,rfl,hS.1.lower bY,hB.u⟩
theorem U8 (a b:Int):(a==b)=decide (a=b):=by cases h:(a==b)<;>simp_all
theorem La (x:Ag)(w:Ω):Ξ prog 156 #[x.val] w λe J=>e=.returned (.bool (Cc x))/\Γ w w J:=by
 obtain⟨e,p,f,b⟩:=x;simp only[Ag.val];have C1:=AA (λW=>Pe e W);have C2:=AA (λW=>Rs p W);have C3:=AA (λW=>EA f W);cases O:Bo e 0 2
 .have S:=AA (show Cc ⟨e,p,f,b⟩=false by simp[Cc,O])
  have H1:=AA O;clear O;go_in;go_wp2_with (refine(C1 _).mono ?_;rintro e J ⟨rfl,rfl⟩;rw[H1.u]);go_ret;exact⟨AF S.symm,AG _ _⟩
 cases Y:Bo p 0 15
 .have S:=AA (show Cc ⟨e,p,f,b⟩=false by simp[Cc,Y])
  have H1:=AA O;clear O;have H2:=AA Y;clear Y;go_in;go_wp2_with (first|(go_at_call 185;refine(C1 _).mono ?_;rintro e J ⟨rfl,rfl⟩;rw[H1.u])|(go_at_call 69;refine(C2 _).mono ?_;rintro e J ⟨rfl,rfl⟩;rw[H2.u]));go_ret;exact⟨AF S.symm,AG _ _⟩
 have S:=AA (show Cc ⟨e,p,f,b⟩=Bo f 0 11 by simp[Cc,O,Y])
 have H1:=AA O;clear O;have H2:=AA Y;clear Y;go_in;go_wp2_with (first|(go_at_call 185;refine(C1 _).mono ?_;rintro e J ⟨rfl,rfl⟩;rw[H1.u])|(go_at_call 69;refine(C2 _).mono ?_;rintro e J ⟨rfl,rfl⟩;rw[H2.u])|(go_at_call 98;refine(C3 _).mono ?_;rintro e J ⟨rfl,rfl⟩));go_ret;exact⟨AF S.symm,AG _ _⟩
theorem WB (x:Ag)(e p:Int)(be bp:Nat)(w:Ω)(O:w.cell? be=some (.int .i64 e))(Y:w.cell? bp=some (.int .i64 p)):Ξ prog 213 #[x.val,.pointer be,.pointer bp] w λr J=>r=.returned (.bool (BR e p x))/\Γ w w J:=by
 obtain⟨xe,xp,xf,xb⟩:=x;simp only[Ag.val];have b1:=yK w _ O;have b2:=yK w _ Y;have n1:¬be=w.heap.size:=by have:be<w.heap.size:=b1;omega
 have n2:¬bp=w.heap.size:=by have:bp<w.heap.size:=b2;omega
 by_cases he:xe=e
 .have S:=AA (show BR e p ⟨xe,xp,xf,xb⟩=(xp==p) by simp[BR,he,U8])
  have t:(xe==e)=true:=by simp[he]
  clear he;go_in;go_wp2;go_ret;exact⟨AF S.symm,AG _ _⟩
 have S:=AA (show BR e p ⟨xe,xp,xf,xb⟩=false by simp[BR,he])
 have t:(xe==e)=false:=by simp[he]
 clear he;go_in;go_wp2;go_ret;exact⟨AF S.symm,AG _ _⟩
theorem Re (v:Φ)(xs:List Ag)(e p:Int)(w:Ω)(h:Ds w v xs):Ξ prog 157 #[v,.int .i64 e,.int .i64 p] w λr J=>r=.returned (.int .i64 (H5 xs e p))/\Γ w w J:=by
 have b2:=Hv w (.cells #[e] 3) (.cells #[p] 3);have iJ:(w.alloc (.cells #[e] 3)).cell? w=some (.int .i64 e):=yx _ _ 0 _ _ _ (yy _ _);have ce:((w.alloc (.cells #[e] 3)).alloc (.cells #[p] 3)).cell? w=some (.int .i64 e):=((AG _ _).cell (yK _ _ iJ)).trans iJ;have cp:((w.alloc (.cells #[e] 3)).alloc (.cells #[p] 3)).cell? (w.heap.size+1,0)=some (.int .i64 p):=by
  have:=yx _ _ 0 _ _ _ (yy (w.alloc (.cells #[e] 3)) (.cells #[p] 3))
  rwa [World.size_alloc] at this
 have C:=AA (Js 213 #[.pointer w,.pointer (some ⟨w.heap.size+1,0,none⟩)] (BR e p) v xs _ (BN.below h b2) (λ_ _=>φ)
  (λx _ W hW=>WB x e p _ _ W ((hW.cell (yK _ _ ce)).trans ce) ((hW.cell (yK _ _ cp)).trans cp)))
 obtain⟨a,c,rfl,V,aq⟩:=h.shape;clear h iJ ce cp;go_in;go_wp2_with (refine C.mono ?_;rintro e J ⟨rfl,ay⟩);go_ret;exact⟨rfl,b2.trans (ay.mono b2.size)⟩
variable{H b d e g hx i j k len lo n sz:Nat}
variable{a:Option Addr}
variable{J cm w w1:Ω}
theorem Ds.take{c:Nat}{xs:List Ag}(h:Ds w (.slice a xs.length c) xs)(z:k<=xs.length):Ds w (.slice a k c) (xs.take k):=by
 obtain⟨a',c',hv,bx,aq,hl,az,V⟩:=h;cases hv;have bt:(Cb AZ (xs.take k)).length=k*4:=by rw[JY Co,yr];congr 1;omega
 have j2:k*4<=xs.length*4:=wT _ z;unfold Ds BN;rw[show(xs.take k).length=k by rw[yr];omega];refine⟨a,c,rfl,ω,aq,bt,az,λhn=>?_⟩;obtain⟨b,X,rfl,ax⟩:=V ω;refine⟨b,X,rfl,λj A=>?_⟩;rw[ax j ω];have e:Cb AZ xs=Cb AZ (xs.take k)++Cb AZ (xs.drop k):=by rw[<-Bq,wG]
 rw[e,xh ω]
theorem ZX{xs:List Ag}{e p:Int}:decide (0<=H5 xs e p)=xs.any (BR e p):=Ky
theorem P6{xs:List Ag}(h:k<xs.length)(V:DV xs k=false):Bl xs=false:=by have:(yL xs.length).all (DV xs)=false:=wZ.2 ⟨k,yh.2 h,by simp[V]⟩;simp[Bl,this]
theorem U9{xs:List Ag}(h:∀k,k<xs.length->DV xs k=true)(hl:xs.length<=4):Bl xs=true:=by
 have:(yL xs.length).all (DV xs)=true:=ym.2 λk z=>h k (yh.1 z)
 simp[Bl,this,hl]
theorem Ji (v:Φ)(xs:List Ag)(w:Ω)(h:Ds w v xs):Ξ prog 95 #[v] w λe J=>e=.returned (.bool (Bl xs))/\Γ w w J:=by
 have ai:=AA h;obtain⟨a,c,rfl,V,aq,H0⟩:=BN.open Co ψ h;clear h;unfold maxLen at aq
 by_cases h4:xs.length<=4
 .have D:¬(4:Int)<xs.length:=ω
  go_in;go_wp2_with fail;go_loopw [10] (λi wr=>∃k:Nat,k<=xs.length/\i=.int .i64 k/\(∀j,j<k->DV xs j=true)/\Γ w w wr) (λi _=>xs.length - (intOf i).toNat)
  exact⟨0,yu _,rfl,λj A=>absurd A (xU _),yN _ _⟩
  obtain⟨k,z,rfl,am,ae⟩:=hrel;have ar:=AA am;clear am
  by_cases au:k<xs.length
  .obtain⟨b,X,rfl,bC,D0,D1,D2,D3⟩:=H0.zV au
   replace D0:=(ae.cell (p:=⟨b,X+k*4,none⟩) bC).trans D0;replace D1:=(ae.cell (p:=⟨b,X+k*4+1,none⟩) bC).trans D1;replace D2:=(ae.cell (p:=⟨b,X+k*4+2,none⟩) bC).trans D2;replace D3:=(ae.cell (p:=⟨b,X+k*4+3,none⟩) bC).trans D3;clear H0;have hx:=yy wr (.cells #[.int .i64 (AU xs k).e,.int .i64 (AU xs k).p,.int .i64 (AU xs k).f,.bool (AU xs k).w] 125);have fb:=ae.trans ((AG wr (.cells #[.int .i64 (AU xs k).e,.int .i64 (AU xs k).p,.int .i64 (AU xs k).f,.bool (AU xs k).w] 125)).mono ae.size);have iq:(k:Int)<=xs.length:=ω;have j3:(k:Int)<=c:=ω;go_wp2_with fail;generalize wr.alloc _=wa at hx fb;clear D0 D1 D2 D3 ae;obtain⟨n0,n1,n2,n3⟩:=AH hx;have k0:=yv n0;have k1:=yv n1;have k2:=yv n2;have k3:=yv n3;clear n0 n1 n2 n3;have HB:=AA fb;have cF:=U5 (w1:=wa) (λW hW=>Re _ (xs.take k) (AU xs k).e (AU xs k).p W (Ds.take (BN.below ai (fb.trans (hW.mono fb.size))) z));cases O:Cc (AU xs k)
   .have S:=AA (P6 au (by simp[DV,O]))
    have cC:=U5 (w1:=wa) (λW _=>by have:=La (AU xs k) W;rw[O] at this;exact this);clear O hx fb;refine Bb ?_
    repeat(go_big_quiet_step (first|exact cC _ _|exact cF _ _))
    refine Ba λwq bq=>?_
    go_wp2;go_ret;exact⟨AF S.symm,HB.trans (bq.mono HB.size)⟩
   have cC:=U5 (w1:=wa) (λW _=>by have:=La (AU xs k) W;rw[O] at this;exact this)
   have hi:=ZX (xs:=xs.take k) (e:=(AU xs k).e) (p:=(AU xs k).p);cases Y:(xs.take k).any (BR (AU xs k).e (AU xs k).p)
   .have S:=AA (show DV xs k=true by simp only[DV,O,Y];rfl)
    rw[Y] at hi;clear O Y hx fb;refine Bb ?_
    repeat(go_big_quiet_step (first|exact cC _ _|exact cF _ _))
    refine Ba λwq bq=>?_
    go_wp2;go_roundw;exact⟨k+1,ω,ξ,Am ar S.u,HB.trans (bq.mono HB.size)⟩;simp[intOf];omega
   have S:=AA (P6 au (by simp only[DV,O,Y];rfl))
   rw[Y] at hi;clear O Y hx fb;refine Bb ?_
   repeat(go_big_quiet_step (first|exact cC _ _|exact cF _ _))
   refine Ba λwq bq=>?_
   go_wp2;go_ret;exact⟨AF S.symm,HB.trans (bq.mono HB.size)⟩
  have S:=AA (U9 (xs:=xs) (λj A=>ar j ω) h4)
  go_wp2;go_ret;exact⟨AF S.symm,ae⟩
 have S:=AA (show Bl xs=false by simp[Bl,h4])
 have D:(4:Int)<xs.length:=ω;go_in;go_wp2;go_ret;exact⟨AF S.symm,yN _ _⟩
theorem bR{xs:List Ag}{e:Int}:(xs.filter λx=>!decide (x.e=e))=Gb xs e:=by
 unfold Gb
 congr 1
 funext x
 simp
theorem Qy (x:Ag)(e:Int)(be:Nat)(w:Ω)(O:w.cell? be=some (.int .i64 e)):Ξ prog 224 #[x.val,.pointer be] w λr J=>r=.returned (.bool (decide (x.e=e)))/\Γ w w J:=by
 obtain⟨xe,xp,xf,xb⟩:=x;simp only[Ag.val];have b1:=yK w _ O;have n1:¬be=w.heap.size:=by have:be<w.heap.size:=b1;omega
 have S:=AA (U8 xe e);go_in;go_wp2;go_ret;exact⟨AF S.u,AG _ _⟩
theorem NI (v:Φ)(xs:List Ag)(e:Int)(w:Ω)(h:Ds w v xs)(bX:Bl xs=true):Ξ prog 184 #[v,.int .i64 e] w λr J=>∃v',r=.returned v'/\AP w.heap.size 125 4 AZ J v' (Gb xs e)/\Γ w w J:=by
 have hl:=(FB.1 bX).2.2;have b1:=AG w (.cells #[e] 3);have ce:(w.alloc (.cells #[e] 3)).cell? w=some (.int .i64 e):=yx _ _ 0 _ _ _ (yy _ _);have au:w.heap.size<(w.alloc (.cells #[e] 3)).heap.size:=χ;have C1:=AA (by have:=Ji v xs _ (BN.below h b1);rw[bX] at this;exact this);have C2:=AA (λW (hW:Γ w w W)=>Jj v xs W (BN.below h hW) ω);obtain⟨a,c,rfl,V,aq⟩:=h.shape;clear h bX;go_in;go_wp2_with fail;refine C1.mono ?_;rintro r w1 ⟨rfl,br⟩;replace ce:=(br.cell (yK _ _ ce)).trans ce;have ay:=b1.trans (br.mono b1.size);replace au:w.heap.size<w1.heap.size:=yt au br.size;clear br b1;have CE:=AA ce;clear ce;go_wp2_with fail;refine(C2 _ ay).mono ?_;rintro r w2 ⟨v',rfl,hO,bl⟩;have jk:=(bl.cell (p:=⟨w,0,none⟩) au).trans CE.u;have C3:=AA (JR 224 #[.pointer w] (λx=>decide (x.e=e)) v' xs w2 hO bl.size (λ_ _=>φ)
  (λx _ W hW=>Qy x e _ W ((hW.cell (p:=⟨w,0,none⟩) au).trans jk)))
 have ee:=ay.trans (bl.mono ay.size);have eD:=ay.size;clear hO bl jk;go_wp2_with (refine C3.mono ?_;rintro r w3 ⟨v3,rfl,en,ia⟩);go_ret;refine⟨_,rfl,?_,ee.trans (ia.mono eD)⟩;rw[<-bR];exact en.lower eD
theorem Ta (y x:Ag)(b:Nat)(w:Ω)(O:w.heap[b]?=some (.cells #[x.e,x.p,x.f,x.w] 125 (0,0))):Ξ prog 229 #[y.val,.pointer b] w λr J=>r=.returned (.bool (BR x.e x.p y))/\Γ w w J:=by
 obtain⟨d0,d1,d2,d3⟩:=AH O;have b1:=AY O;have n1:¬b=w.heap.size:=ω;obtain⟨ye,yp,yf,yb⟩:=y;simp only[Ag.val];clear O
 by_cases he:ye=x.e
 .have S:=AA (show BR x.e x.p ⟨ye,yp,yf,yb⟩=(yp==x.p) by simp[BR,he,U8])
  have t:(ye==x.e)=true:=by simp[he]
  clear he;go_in;go_wp2;go_ret;exact⟨AF S.symm,AG _ _⟩
 have S:=AA (show BR x.e x.p ⟨ye,yp,yf,yb⟩=false by simp[BR,he])
 have t:(ye==x.e)=false:=by simp[he]
 clear he;go_in;go_wp2;go_ret;exact⟨AF S.symm,AG _ _⟩
theorem Y3{xs:List Ag}{x:Ag}{ys:List Ag}(h:ys=if(xs.filter λy=>!BR x.e x.p y).length=4 then(xs.filter λy=>!BR x.e x.p y).drop 1 else xs.filter λy=>!BR x.e x.p y):ys++[x]=Jo xs x:=by rw[h];rfl
theorem Ux (v:Φ)(xs:List Ag)(x:Ag)(w:Ω)(h:Ds w v xs)(bX:Bl xs=true)(N:Cc x=true):Ξ prog 188 #[v,x.val] w λr J=>∃v',r=.returned (.tuple #[v',τ])/\AP w.heap.size 125 4 AZ J v' (Jo xs x)/\Γ w w J:=by
 have hl:=(FB.1 bX).2.2;obtain⟨hx,b1⟩:=Ec w (.cells #[x.e,x.p,x.f,x.w] 125);have C1:=AA (by have:=Ji v xs _ (BN.below h b1);rw[bX] at this;exact this);have CX:=AA (λW=>by have:=La x W;rw[N] at this;exact this);have C2:=AA (λW (hW:Γ w w W)=>Jj v xs W (BN.below h hW) ω);obtain⟨a,c,rfl,V,aq⟩:=h.shape;have gY:(xs.filter λy=>!BR x.e x.p y).length<=4:=yM (xG _ _) hl;clear h bX N;simp only[Ag.val] at CX ⊢;go_in;go_wp2_with fail;refine C1.mono ?_;rintro r w1 ⟨rfl,br⟩;replace hx:=AB hx br;have ay:=b1.trans (br.mono b1.size);clear br b1;obtain⟨d0,d1,d2,d3⟩:=AH hx;have HN:=AA hx;clear hx;go_wp2_with fail;refine(CX _).mono ?_;rintro r w2 ⟨rfl,bl⟩;have iP:=AA (AB HN bl);replace ay:=ay.trans (bl.mono ay.size);clear bl d0 d1 d2 d3 HN;go_wp2_with fail;refine(C2 _ ay).mono ?_;rintro r w3 ⟨v',rfl,hO,ee⟩;have N3:=AB iP ee;have au:w.heap.size<w2.heap.size:=AY iP.u;have C3:=AA (JR 229 #[.pointer w] (BR x.e x.p) v' xs w3 hO ee.size (λ_ _=>φ)
  (λy _ W hW=>Ta y x _ W ((hW.block _ au).trans N3)))
 have ia:=ay.trans (ee.mono ay.size);have eD:=ay.size;have jv:=ee.size;have jl:=AA N3;clear hO ee N3 iP;go_wp2_with fail;refine C3.mono ?_;rintro r w4 ⟨v4,rfl,dr,hZ⟩;have N4:=(hZ.block _ au).trans jl.u;have hY:=ia.trans (hZ.mono eD);have iX:w2.heap.size<=w4.heap.size:=yM jv hZ.size;obtain⟨a4,c4,rfl,j8,jM⟩:=dr.rd.shape;have iM:=AA dr;have iO:=AA N4;clear dr hZ ia N4 jl
 by_cases hn:(xs.filter λy=>!BR x.e x.p y).length=4
 .have t:(((xs.filter λy=>!BR x.e x.p y).length:Int)==4)=true:=by simp[hn]
  have hi:=AA (Y3 (xs:=xs) (x:=x) (ys:=(xs.filter λy=>!BR x.e x.p y).drop 1) (by rw[if_pos hn]));have CD:=AA (PP _ _ w4 iM iX hn);have jD:((xs.filter λy=>!BR x.e x.p y).drop 1).length<=3:=by rw[xC];omega
  generalize(xs.filter λy=>!BR x.e x.p y)=fs at*;clear hn iM gY;go_wp2_with fail;refine CD.mono ?_;rintro r w5 ⟨v5,rfl,gp,hX⟩;have N5:=(hX.block _ au).trans iO.u;obtain⟨d0,d1,d2,d3⟩:=AH N5;have ji:=hY.trans (hX.mono eD);have jY:w2.heap.size<=w5.heap.size:=yM iX hX.size;have jS:=AA gp;clear gp hX hY N5 iO;generalize hgs:fs.drop 1=gs at*;clear hgs;go_wp2_with (at_builtin;go_must (refine Em (lo:=w2.heap.size) (v:=v5) (n:=gs.length) (xs:=Cb AZ gs) (m:=1) (news:=[.int .i64 x.e,.int .i64 x.p,.int .i64 x.f,.bool x.w]) rfl rfl 125 (.agg #[θ,θ,θ,υ]) 4 32 underlying26 Tryz.zP rfl ψ rfl (BC jS (AG _ _)) rfl (Rd.zM _ #[.int .i64 x.e,.int .i64 x.p,.int .i64 x.f,.bool x.w] _ 4 1 _ rfl χ ζ) (by simp[xR]) μ ω η ?_;intro v6 w6 k1 k2 k3));have R:AP w2.heap.size 125 4 AZ w6 v6 (gs++[x]):=by unfold AP;rw[Bq,Es,yz];exact k1
  rw[hi.u] at R;have RR:=AA R;clear k1 R;go_wp2;go_ret2;exact⟨_,rfl,RR.lower eD,(ji.trans ((AG _ _).mono ji.size)).trans (k3.mono eD)⟩
 have t:(((xs.filter λy=>!BR x.e x.p y).length:Int)==4)=false:=by rw[beq_eq_false_iff_ne];omega
 have hi:=AA (Y3 (xs:=xs) (x:=x) (ys:=xs.filter λy=>!BR x.e x.p y) (by rw[if_neg hn]));have jD:(xs.filter λy=>!BR x.e x.p y).length<=3:=ω
 generalize(xs.filter λy=>!BR x.e x.p y)=gs at*;clear hn gY;obtain⟨d0,d1,d2,d3⟩:=AH iO.u;go_wp2_with (at_builtin;go_must (refine Em (lo:=w2.heap.size) (v:=.slice a4 gs.length c4) (n:=gs.length) (xs:=Cb AZ gs) (m:=1) (news:=[.int .i64 x.e,.int .i64 x.p,.int .i64 x.f,.bool x.w]) rfl rfl 125 (.agg #[θ,θ,θ,υ]) 4 32 underlying26 Tryz.zP rfl ψ rfl (BC iM (AG _ _)) rfl (Rd.zM _ #[.int .i64 x.e,.int .i64 x.p,.int .i64 x.f,.bool x.w] _ 4 1 _ rfl χ ζ) (by simp[xR]) μ ω η ?_;intro v6 w6 k1 k2 k3));have R:AP w2.heap.size 125 4 AZ w6 v6 (gs++[x]):=by unfold AP;rw[Bq,Es,yz];exact k1
 rw[hi.u] at R;have RR:=AA R;clear k1 R;go_wp2;go_ret2;exact⟨_,rfl,RR.lower eD,(hY.trans ((AG _ _).mono hY.size)).trans (k3.mono eD)⟩
end Go.Proofs.YtlcnbkkcplllhaaGreatDoor
