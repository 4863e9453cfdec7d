/-
  Packed:46 texts.
-/
import Derived.Lib.Strings
import Derived.Test.YtlcnbkkcplllhaaGreatDoorRows
import Derived.WalkKit
import Derived.WalkSpells
import Derived.WalkLawsBesides
import Derived.Deep.QuietTactic
import Derived.BigQuiet
import Derived.Deep.LoopGhost
import Derived.Deep.RegionHeld3
import Derived.Lib.Hide
import Derived.Handy
import Derived.Laws.AppendOwnNone
import Derived.StillTailTactics
import Derived.Maps.AppendAt
import Derived.Lib.QuietBelow
import Derived.Outline
import Derived.Lib.SliceRun
import Derived.ArgAppend
import Derived.Ground.NamesProg
import Derived.Ground.Names2Prog
import Derived.Shelf.Slices.CompactI
import Derived.Shelf.Slices.Turned
import Derived.Shelf.Sort.Plain
import Derived.Shelf.Spec.SearchS
import Derived.Shelf.Spec.SlicesInsertGrow
import Derived.Shelf.Strings.Prefix
import Derived.Shelf.Strings.SlTrimAscii
import Derived.Test.YtlcnbkkcplllhaaGreatDoorProg
import Derived.Sort.OwnSortedInts
import Derived.Shelf.Slices.In.SortNone
set_option linter.unusedVariables false
set_option linter.unusedSimpArgs false
set_option maxHeartbeats 16000000
set_option maxRecDepth 100000
open Go Go.Proofs.YtlcnbkkcplllhaaGreatDoor
open _root_.Array renaming ext_getElem?->sU,getD_eq_getD_getElem?->tS,getElem?_eq_some_iff->we,getElem?_setIfInBounds_ne->wB,length_toList->sX,ofFn->sV,replicate->sk,toList_append->ux
open Bool renaming and_eq_true->yD,not_eq_false->wS,not_eq_true'->ug,or_eq_true->xM
open _root_.ByteArray renaming getElem_eq_getElem_data->uC
open Decidable renaming not_not->uy
open Go.Addr renaming add->uE
open Go.Builtin renaming append_->vE,clear_->tU,lenOf->sh,zeroCells->xX
open Go.Code renaming region->vZ
open Go.Instr renaming fieldAt->uY,loadAt->xL
open Go.IntKind renaming i64->wX
open Go.IntWalk renaming i64_in->xJ
open Go.Lib renaming compact->wP,compactUpTo->tO,run_eql_slice_nil->wM,toList_data->xA,trimS->ur
open Go.Op renaming bytesLess->wH
open Go.Oper renaming upon_enter->tH,wp->uZ
open Go.Proofs.Tryz renaming isAgg0->uX,isAgg194->tC,isAgg29->tu,isAgg3->vB,isAgg4->vA,isAgg9->uA,sizeOf0->vp,sizeOf194->tM,sizeOf29->tD,sizeOf3->vK,sizeOf4->vJ,sizeOf9->uQ,zeroValue0->vR,zeroValue194->ue,zeroValue29->tW,zeroValue3->wt,zeroValue4->wm,zeroValue5->rX,zeroValue79->sg,zeroValue9->vy
open Go.Region renaming binds->um,chainB->sd,sinkB->rQ,waitsFor->yk,waitsFor_spec->tv,wanted->xo
open Go.Result renaming andThen_ok->wk
open Go.RowKit.Below renaming refl->yN
open Go.Sem renaming run_bind->vo
open Go.Shelf renaming Ren->vO
open Go.Sort renaming grow->vl
open Go.Value renaming cells->uG,int->yl,oneCell'->xR,ownBlock->vh,string->xZ
open Go.Value.slice renaming injEq->xQ
open Go.World renaming block_lt_of_cell?->yK,cell?_of_block->vY,ownsRow_nil->xy
open Go.World.ownsRow renaming cellAt->xO,frozenAt->xU,kept->uT
open Go renaming cell_of_row->yy,cell_regrown->yw,getD_replicate_false->uk,heap_alloc_new->yx,heap_setCell_same->yE,info_parts->tV,run_underlying->th,wpList_append_own_none->sy
open Int renaming emod_lt_of_pos->vg,emod_nonneg->tP,tmod_eq_emod_of_nonneg->wE,toNat_natCast->yq
open List renaming all_eq_false->xj,all_eq_not_any_not->tz,all_eq_true->yr,any_eq_false->uj,any_eq_true->vP,append_assoc->sq,cons_lt_cons_iff->uI,countP_cons->xt,countP_le_length->vX,countP_pos_iff->ut,count_cons->rZ,count_eq_zero->ul,dropWhile_cons->sR,drop_drop->uB,eq_nil_of_length_eq_zero->xY,ext_getElem?->su,filter_append->wD,filter_eq_self->uu,find?_eq_none->sM,find?_some->r9,findIdx_eq->tI,findIdx_getElem->vC,findIdx_lt_length->vM,foldl_cons->yJ,getD_cons_succ->sS,getD_cons_zero->sT,getD_eq_getElem?_getD->yg,getElem?_append_left->xl,getElem?_drop->tZ,getElem?_eq_getElem->yG,getElem?_eq_some_iff->yA,getElem?_map->xq,getElem?_of_mem->xN,getElem?_set->vW,getElem?_take->uV,getElem?_take_eq_none->tN,getElem?_take_of_lt->uW,getElem_mem->tX,getElem_of_mem->wY,isEmpty->uf,isEmpty_iff->si,length_append->yz,length_cons->vT,length_drop->xh,length_filter_le->xv,length_map->vm,length_nil->xi,length_pos_of_mem->tx,length_set->yh,length_take->ym,map_append->xK,map_cons->vD,map_nil->uR,map_take->tE,mem_append->wJ,mem_append_left->sZ,mem_append_right->uH,mem_cons->xF,mem_cons_of_mem->vV,mem_cons_self->wF,mem_filter->wK,mem_flatMap->wR,mem_map->vU,mem_of_getElem?->yv,mem_of_mem_drop->uD,mem_of_mem_take->uq,mem_or_eq_of_mem_set->vd,mem_range->yi,mem_reverse->uU,mem_take_iff_getElem->tG,pairwise_append->sY,pairwise_cons->sG,pairwise_iff_getElem->wL,range->yL,range_succ->xH,replicate->xW,set_cons_succ->sH,set_cons_zero->sJ,sum_append->wQ,sum_cons->uo,sum_nil->uh,takeWhile_append_dropWhile->xB,take_append_drop->wO,take_left'->vz,take_length->xE,take_succ_eq_append_getElem->ui,take_take->vj
open Nat renaming add_assoc->vq,add_zero->xT,eq_zero_or_pos->wA,le_refl->yF,le_trans->yM,lt_of_lt_of_le->yu,lt_or_ge->tj,lt_succ_iff_lt_or_eq->xC,min_eq_left->vL,mod_eq_of_lt->rY,mod_lt->sr,mul_le_mul_right->wI,mul_one->wZ,not_lt_zero->xV,succ_mul->uP,zero_add->wT,zero_le->yt
open Option renaming bind_some->vH,getD_some->sK,isSome_iff_exists->ve
open Go renaming World->Ω,Value->Φ,Calls->Ξ,undef->Θ
open Go.RowKit renaming Below->Γ
variable {B f id lo' t:Nat} {ss:List ByteArray} {rest:List Oper} {nm s:ByteArray} {w0:Ω} {c:Φ} {m cx:List (List Int)} {vs:List Φ} {F:Nat->Nat} {r:List Int} {ca cb ce ck:Int}
namespace Go.Proofs.YtlcnbkkcplllhaaGreatDoor
open Go.Proofs.Tryz
theorem ω{p:Prop}(h:p:=by omega):p:=h
theorem ψ{p:Prop}(h:p:=by decide):p:=h
theorem φ{p:Prop}(h:p:=by kernel_rfl):p:=h
theorem ξ{p:Prop}(h:p:=by go_num):p:=h
theorem η{p:Prop}(h:p:=by simp;omega):p:=h
theorem χ{p:Prop}(h:p:=by simp):p:=h
theorem μ{p:Prop}(h:p:=by unfold maxLen;omega):p:=h
theorem ζ{p:Prop}(h:p:=by simp[maxLen]):p:=h
instance:Coe Go.World Nat:=⟨λw=>w.heap.size⟩
instance:Coe Nat Go.Addr:=⟨λg=>⟨g,0,none⟩⟩
instance(g j:Nat):CoeDep (Nat×Nat) (g,j) Go.Addr:=⟨⟨g,j,none⟩⟩
instance(w:Go.World)(j:Nat):CoeDep (Go.World×Nat) (w,j) Go.Addr:=⟨⟨w.heap.size,j,none⟩⟩
instance:Coe Int Go.Value:=⟨.int .i64⟩
instance:Coe Nat Go.Value:=⟨λk=>.int .i64 k⟩
instance:Coe Bool Go.Value:=⟨.bool⟩
instance:Coe ByteArray Go.Value:=⟨.string⟩
structure Ψ0 where
def θ:Ψ0:=⟨⟩
instance:Coe Ψ0 Go.Value:=⟨λ_=>.int .i64 0⟩
structure Ψ1 where
def ι:Ψ1:=⟨⟩
instance:Coe Ψ1 Go.Value:=⟨λ_=>.slice none 0 0⟩
structure Ψ2 where
def τ:Ψ2:=⟨⟩
instance:Coe Ψ2 Go.Value:=⟨λ_=>.bool true⟩
structure Ψ3 where
def υ:Ψ3:=⟨⟩
instance:Coe Ψ3 Go.Value:=⟨λ_=>.bool false⟩
structure Ψ4 where
def ϑ:Ψ4:=⟨⟩
instance:Coe Ψ4 Go.Value:=⟨λ_=>.string ⟨#[]⟩⟩
structure Ψ5 where
def ϕ:Ψ5:=⟨⟩
instance:Coe Ψ5 Go.Value:=⟨λ_=>.int .i64 1⟩
def eh(p:Prop):Prop:=p
theorem eh.u{p:Prop}(h:eh p):p:=h
theorem ib{p:Prop}(h:p):eh p:=h
variable{b d e g hc i j k len lo n sz z:Nat}
theorem Lu_{L:Nat->Bool}{W:Nat->Nat->Bool}{B:Prop}(hx:eh (L i=false/\B/\∀j j',L j=true->W j j'=true->L j'=true))(s:Nat)(h:W s i=true:=by kernel_rfl):L s=false:=by
 cases H:L s
 .rfl
 exact absurd (hx.2.2 s i H h) (by rw[hx.1];decide)
theorem yP.{u_}{α:Type u_}{a b:α}(h:some a=some b):a=b:=Option.some.inj h
theorem AA{p:Prop}(h:p):eh p:=h
theorem Bc{P:Nat->Prop}{Q:∀i,P i->Prop}(hx:eh (∀i (h:P i),Q i h))(i:Nat)(h:P i:=by kernel_rfl):Q i h:=hx i h
theorem Dc{P R:Nat->Prop}{Q:∀i,P i->R i->Prop}{hi C:Prop}{S:Nat->Prop}(hx:eh (∀i (h:P i) (g:R i),Q i h g))(L:eh (hi/\(∀i,S i->P i)/\C))(i:Nat)(h:S i:=by kernel_rfl)(g:R i:=by decide):Q i (L.2.1 i h) g:=hx i (L.2.1 i h) g
theorem No{hi B:Prop}{P:Nat->Prop}{Q:∀i,P i->Prop}(hx:eh (hi/\B/\∀i (h:P i),Q i h))(i:Nat)(h:P i:=by decide):Q i h:=hx.2.2 i h
theorem Bh{P:Nat->Prop}{Q:∀i,P i->Prop}(hx:∀i (h:P i),Q i h)(i:Nat)(h:P i:=by decide):Q i h:=hx i h
structure AT where
 k:Int
 e:Int
 a:Int
 b:Int
 c:Int
 nm:ByteArray
structure AX where
 k:Int
 g:ByteArray
 r:Int
 deriving DecidableEq
def AX.zero:AX:=⟨0,⟨#[]⟩,0⟩
structure Ag where
 e:Int
 p:Int
 f:Int
 w:Bool
 deriving DecidableEq
structure Ez where
 Pj:List ByteArray
 root:Int
 deriving DecidableEq
structure AR where
 mem:List (List Int)
 Zh:List AX
 Xr:List Ez
 Xo:List Ag
 deriving DecidableEq
def Bj(n lo A:Int):Bool:=decide (lo<=n)&&decide (n<=A)
variable{A cc kind new old root x:Int}
theorem Aa{n lo:Int}:Bj n lo A=true↔lo<=n/\n<=A:=by simp[Bj]
theorem Vd{n lo:Int}:Bj n lo A=false↔n<lo∨A<n:=by by_cases J:lo<=n<;>by_cases O:n<=A<;>simp[Bj,J,O]<;>omega
def GH(c:UInt8):Bool:=decide (97<=c.toNat)&&decide (c.toNat<=99)
def BR(s:ByteArray):Bool:=s.data.toList.all GH&&decide (s.size<=4)
def Cw(ss:List ByteArray)(k:Nat):ByteArray:=ss.getD k ⟨#[]⟩
theorem IB (h:k<ss.length):ss[k]?=some (Cw ss k):=by simp[Cw,h]
def OM(a b:ByteArray):Bool:=!wH a.toList b.toList
def DB(ss:List ByteArray)(i:Nat):Bool:=BR (Cw ss i)&&(decide (i=0)||!OM (Cw ss (i - 1)) (Cw ss i))
def BW(ss:List ByteArray):Bool:=(yL ss.length).all (DB ss)&&decide (ss.length<=6)
def L8(a b:ByteArray):Bool:=a.data.toList.isPrefixOf b.data.toList
def Cd(Pj:List ByteArray)(g:ByteArray):Bool:=Pj.any λs=>L8 s g
def Dx(n:Int):Bool:=Bj n 0 9999
def EP(r:List Int):Bool:=r.all Dx&&decide (r.length=4)
def By(m:List (List Int)):Bool:=m.all EP&&decide (m.length=12)
def Bv(w:Int):Bool:=decide (0<w)&&decide (w%2=1)&&decide (w<48)
def BP(w:Int):Nat:=(w/4).toNat
def LZ(w:Int):Bool:=decide (w%4=3)
def AK(m:List (List Int))(f:Nat):List Int:=m.getD f []
def Aw(m:List (List Int))(f i:Nat):Int:=(AK m f).getD i 0
def JR(l:List AX)(f:Nat):AX:=l.getD f AX.zero
def AH(l:List Ez)(f:Nat):Ez:=l.getD f ⟨[],0⟩
def Dk(x:AX):Bool:=decide (x=AX.zero)||(Bj x.k 1 3&&BR x.g&&Bj x.r 0 50)
def BG(l:List AX):Bool:=l.all Dk&&decide (l.length=12)
def named(r:List Int):List Nat:=(r.filter Bv).map BP
def Bp(k:Int):Bool:=decide (k=2)||decide (k=3)
def XM(k:Int):Int:=if Bp k then k - 1 else 0
def Bg(m:List (List Int))(root:Int):List Nat:=
 if root<0 then[] else root.toNat::(named (AK m root.toNat)++(named (AK m root.toNat)).flatMap λt=>named (AK m t))
def BM(Zh:List AX)(fs:List Nat)(Pj:List ByteArray):Bool:=fs.all λf=>Cd Pj (JR Zh f).g
def GQ(Zh:List AX)(f:Nat)(kind:Int)(Pj:List ByteArray)(w:Int):Bool:=
 if Bv w then decide (BP w≠f)&&decide ((JR Zh (BP w)).k=kind - 1)&&Cd Pj (JR Zh (BP w)).g else decide (w=0)
def JB(m:List (List Int))(Zh:List AX)(f:Nat)(kind:Int)(Pj:List ByteArray):Bool:=(AK m f).all (GQ Zh f kind Pj)
def countP(m:List (List Int))(Zh:List AX)(g:Nat):Nat:=
 ((yL 12).map λt=>if Bp (JR Zh t).k then(named (AK m t)).count g else 0).sum
def Ew(Xr:List Ez)(g:Nat):Nat:=Xr.countP λe=>decide (e.root=(g:Int))
def CQ(x:Ag):Bool:=Bj x.e 0 2&&Bj x.p 0 15&&Bj x.f 0 11
def BQ(e p:Int)(y:Ag):Bool:=decide (y.e=e)&&decide (y.p=p)
def IG(c:List Ag)(e p:Int):Int:=if c.any (BQ e p) then(c.findIdx (BQ e p):Nat) else -1
def AV(c:List Ag)(i:Nat):Ag:=c.getD i ⟨0,0,0,false⟩
def DJ(c:List Ag)(i:Nat):Bool:=CQ (AV c i)&&!(c.take i).any (BQ (AV c i).e (AV c i).p)
def Bk(c:List Ag):Bool:=(yL c.length).all (DJ c)&&decide (c.length<=4)
def CU(m:List (List Int))(root a:Nat):Int×Nat×Bool:=
 if Bv (Aw m root (a/16)) then
  if Bv (Aw m (BP (Aw m root (a/16))) (a/4%4)) then(0,BP (Aw m (BP (Aw m root (a/16))) (a/4%4)),LZ (Aw m root (a/16))&&LZ (Aw m (BP (Aw m root (a/16))) (a/4%4)))
  else(2,0,false)
 else(1,0,false)
def EW(k:AR)(e:Ez):Bool:=BW e.Pj&&(decide (e.root= -1)||(Bj e.root 0 11&&decide ((JR k.Zh e.root.toNat).k=3)))&&BM k.Zh (Bg k.mem e.root) e.Pj
def Js(k:AR):Bool:=k.Xr.all (EW k)&&decide (k.Xr.length=3)
def EC(k:AR)(f:Nat):Bool:=!Bp (JR k.Zh f).k||JB k.mem k.Zh f (JR k.Zh f).k [⟨#[]⟩]
def If(k:AR)(f:Nat):Bool:=decide ((JR k.Zh f).r=(countP k.mem k.Zh f:Int)+(Ew k.Xr f:Int))
def Cz(k:AR)(x:Ag):Bool:=decide (0<=(AH k.Xr x.e.toNat).root)&&decide (CU k.mem (AH k.Xr x.e.toNat).root.toNat (4*x.p.toNat)=(0,x.f.toNat,x.w))
def Cx(k:AR):Bool:=By k.mem&&BG k.Zh&&Bk k.Xo&&Js k&&(yL 12).all (EC k)&&(yL 12).all (If k)&&k.Xo.all (Cz k)
def Ao{α:Type}(l:List α)(i:Nat)(f:α->α):List α:=match l[i]? with
 |some x=>l.set i (f x)
 |none=>l
def JI(n:Int)(x:AX):AX:= {x with r:=x.r+n}
def BO(Zh:List AX)(fs:List Nat)(n:Int):List AX:=fs.foldl (λl g=>Ao l g (JI n)) Zh
def An(Zh:List AX):Int:=if Zh.any (λx=>decide (x.k=0)) then(Zh.findIdx (λx=>decide (x.k=0)):Nat) else -1
def Dl(kind:Int)(x:AX):AX:= {x with k:=kind}
def Gc(m:List (List Int))(Zh:List AX)(f:Nat)(kind:Int)(Pj:List ByteArray):List AX×Int:=
 if(JR Zh f).k≠1∨(JR Zh f).r≠0 then(Zh,1)
 else if JB m Zh f kind Pj=false then(Zh,2)
 else if BG (Ao (BO Zh (named (AK m f)) 1) f (Dl kind)) then(Ao (BO Zh (named (AK m f)) 1) f (Dl kind),0) else(Zh,1)
def DH(m:List (List Int))(Zh:List AX)(f:Nat):List AX×Int:=
 if Bp (JR Zh f).k=false∨(JR Zh f).r≠0 then(Zh,1)
 else if BG (Ao (BO Zh (named (AK m f)) (-1)) f (Dl 1)) then(Ao (BO Zh (named (AK m f)) (-1)) f (Dl 1),0) else(Zh,2)
def Rn(ss:List ByteArray)(s:ByteArray):List ByteArray:=ss.takeWhile (λx=>!OM x s)++s::ss.dropWhile (λx=>!OM x s)
def BV(ss:List ByteArray)(s:ByteArray):List ByteArray×Bool:=if ss.any (λx=>decide (x=s)) then(ss,true) else if ss.length=6 then(ss,false) else(Rn ss s,true)
def Bi(ss:List ByteArray)(s:ByteArray):List ByteArray:=ss.filter λr=>!L8 s r
def Ju(c:List Ag)(x:Ag):List Ag:=
 (if(c.filter λy=>!BQ x.e x.p y).length=4 then(c.filter λy=>!BQ x.e x.p y).drop 1 else c.filter λy=>!BQ x.e x.p y)++[x]
def Gm(c:List Ag)(e:Int):List Ag:=c.filter λy=>decide (y.e≠e)
def Cn(m:List (List Int))(f i:Nat)(w:Int):List (List Int):=Ao m f λr=>r.set i w
def Ff(k:AR)(e:Int)(g:ByteArray):Bool:=Cd (AH k.Xr e.toNat).Pj g
abbrev Nu:=AR×Int×Int
def J0(k:AR)(c:AT):Nu:=
 if BR c.nm=false then(k,0,3)
 else if Ff k c.e c.nm=false then(k,0,1)
 else if An k.Zh<0 then(k,0,4)
 else({k with Zh:=k.Zh.set (An k.Zh).toNat ⟨1,c.nm,0⟩,mem:=k.mem.set (An k.Zh).toNat [0,0,0,0]},An k.Zh,0)
def K4(k:AR)(c:AT):Nu:=
 if(JR k.Zh c.a.toNat).k≠1 then(k,0,3)
 else if(JR k.Zh c.a.toNat).r≠0 then(k,0,2)
 else({k with Zh:=k.Zh.set c.a.toNat AX.zero},0,0)
def LE(k:AR)(c:AT):Nu:=
 if(JR k.Zh c.a.toNat).k≠1∨Bj c.b 0 3=false∨Dx c.c=false then(k,0,3)
 else({k with mem:=Cn k.mem c.a.toNat c.b.toNat c.c},0,0)
def IJ(n:Int):Int:=if n=0 then 0 else if n=1 then 2 else 3
def EB(k:AR)(r:List AX×Int):Nu:=if r.2=0 then({k with Zh:=r.1},0,0) else(k,0,IJ r.2)
def Ds(k:AR)(w:Int):List Nat:=if Bv w then BP w::(if Bp (JR k.Zh (BP w)).k then named (AK k.mem (BP w)) else[]) else[]
def Gi(k:AR)(a:Nat):List Nat:=(yL 3).filter λe=>(Bg k.mem (AH k.Xr e).root).contains a
def BD(Zh:List AX)(w:Int)(n:Int):List AX:=if Bv w then Ao Zh (BP w) (JI n) else Zh
def EN(k:AR)(c:AT):Bool:=if Bv c.c then decide ((JR k.Zh (BP c.c)).k=(JR k.Zh c.a.toNat).k - 1) else decide (c.c=0)
def Ik(k:AR)(c:AT):Nu:=
 if Bp (JR k.Zh c.a.toNat).k=false∨Bj c.b 0 3=false∨EN k c=false then(k,0,3)
 else if(Gi k c.a.toNat).all (λe=>BM k.Zh (Ds k c.c) (AH k.Xr e).Pj)=false then(k,0,1)
 else if Bv c.c=true/\Ff k c.e (JR k.Zh (BP c.c)).g=false then(k,0,1)
 else({k with mem:=Cn k.mem c.a.toNat c.b.toNat c.c,Zh:=BD (BD k.Zh (Aw k.mem c.a.toNat c.b.toNat) (-1)) c.c 1,Xo:=(Gi k c.a.toNat).foldl (λc e=>Gm c (e:Nat)) k.Xo},0,0)
def EJ(n:Int)(e:Ez):Ez:= {e with root:=n}
def Ly(k:AR)(c:AT):Nu:=
 if c.a≠ -1/\(Bj c.a 0 11=false∨(JR k.Zh c.a.toNat).k≠3) then(k,0,3)
 else if BM k.Zh (Bg k.mem c.a) (AH k.Xr c.e.toNat).Pj=false then(k,0,1)
 else
  let i1:=if 0<=(AH k.Xr c.e.toNat).root then Ao k.Zh (AH k.Xr c.e.toNat).root.toNat (JI (-1)) else k.Zh
  ({k with Zh:=if 0<=c.a then Ao i1 c.a.toNat (JI 1) else i1,Xr:=Ao k.Xr c.e.toNat (EJ c.a),Xo:=Gm k.Xo c.e},0,0)
def BT(ss:List ByteArray)(e:Ez):Ez:= {e with Pj:=ss}
def Fx(k:AR)(c:AT):Nu:=
 if Bj c.a 0 2=false∨BR c.nm=false then(k,0,3)
 else if Ff k c.e c.nm=false then(k,0,1)
 else if(BV (AH k.Xr c.a.toNat).Pj c.nm).2=false then(k,0,4)
 else({k with Xr:=Ao k.Xr c.a.toNat (BT (BV (AH k.Xr c.a.toNat).Pj c.nm).1)},0,0)
def ER(k:AR)(c:AT):Nu:=
 if Bj c.a 0 2=false∨c.a=c.e∨BR c.nm=false then(k,0,3)
 else if Ff k c.e c.nm=false then(k,0,1)
 else if BM k.Zh (Bg k.mem (AH k.Xr c.a.toNat).root) (Bi (AH k.Xr c.a.toNat).Pj c.nm)=false then(k,0,2)
 else({k with Xr:=Ao k.Xr c.a.toNat (BT (Bi (AH k.Xr c.a.toNat).Pj c.nm))},0,0)
def PV(k:AR)(c:AT):Nu:=
 let root:=(AH k.Xr c.e.toNat).root
 if Bj c.a 0 63=false∨root<0∨(c.k=11/\Dx c.b=false) then(k,0,3)
 else
  let x:=CU k.mem root.toNat c.a.toNat
  if x.1≠0 then(k,0,3)
  else if c.k=11/\x.2.2=false then(k,0,1)
  else
   let Xo:=if IG k.Xo c.e (c.a/4)<0 then Ju k.Xo ⟨c.e,c.a/4,x.2.1,x.2.2⟩ else k.Xo
   if c.k=11 then({k with mem:=Cn k.mem x.2.1 (c.a%4).toNat c.b,Xo:=Xo},0,0)
   else({k with Xo:=Xo},Aw k.mem x.2.1 (c.a%4).toNat,0)
def IV(k:AR)(c:AT):Nu:=
 if Bj c.a 0 11=false∨(JR k.Zh c.a.toNat).k=0∨(c.k=4/\Bp c.b=false) then(k,0,3)
 else if Ff k c.e (JR k.Zh c.a.toNat).g=false then(k,0,1)
 else if c.k=2 then K4 k c
 else if c.k=3 then LE k c
 else if c.k=4 then EB k (Gc k.mem k.Zh c.a.toNat c.b (AH k.Xr c.e.toNat).Pj)
 else if c.k=5 then EB k (DH k.mem k.Zh c.a.toNat)
 else Ik k c
def Ad(k:AR)(c:AT):Nu:=
 if c.k=1 then J0 k c
 else if Bj c.k 2 6 then IV k c
 else if c.k=7 then Ly k c
 else if c.k=8 then Fx k c
 else if c.k=9 then ER k c
 else if c.k=10∨c.k=11 then PV k c
 else(k,0,3)
open Go.RowKit
def nth(xs:List Int)(k:Nat):Int:=xs.getD k 0
def Rd(w:Ω)(v:Φ)(sz n:Nat)(xs:List Φ):Prop:=
 ∃a z,v=.slice a n z/\n<=z/\z<=maxLen/\xs.length=n*sz/\(a=none->z=0)/\
  (0<n->∃b D,a=some ⟨b,D,none⟩/\∀j,j<n*sz->w.cell? ⟨b,D+j,none⟩=xs[j]?)
variable{dr v v' v1 v2:Φ}
variable{ci w w' w1:Ω}
theorem Rd.of_owns{base:Nat}{xs:List Φ}(h:w.ownsRow base e sz v n xs):Rd w v sz n xs:=by
 rcases h.2 with⟨rfl,rfl⟩|⟨g,z,bn,rfl,Y,Z,bx,am,cz,htake⟩
 .exact⟨none,0,rfl,yF _,ζ,h.1,λ_=>rfl,λh=>absurd h (Nat.lt_irrefl _)⟩
 refine⟨_,_,rfl,bx,am,h.1,(λh=>by cases h),λ_=>⟨g,0,rfl,λj X=>?_⟩⟩
 have:=h.cellAt j X;simpa using this
theorem Rd.keep{xs:List Φ}(h:Rd w v sz n xs)(E:∀k,k<w.heap.size->w'.heap[k]?=w.heap[k]?):Rd w' v sz n xs:=by
 obtain⟨a,z,rfl,bx,am,hl,az,N⟩:=h;refine⟨a,z,rfl,bx,am,hl,az,λhn=>?_⟩;obtain⟨b,D,rfl,av⟩:=N hn;refine⟨b,D,rfl,λj X=>?_⟩;have J:=av j X;have hY:∃u,xs[j]?=some u:=⟨xs[j]' ω,yG ω⟩
 obtain⟨u,hu⟩:=hY;rw[hu] at J ⊢;have aq:=yK w _ J;exact(vY (E _ aq)).trans J
theorem Rd.below{xs:List Φ}(h:Rd w v sz n xs)(Y:Γ w w w'):Rd w' v sz n xs:=h.keep Y.block
theorem Rd.alloc{xs:List Φ}(h:Rd w v sz n xs)(o:Obj):Rd (w.alloc o) v sz n xs:=h.keep (λk E=>(World.grownBy_alloc w o none).block k E χ)
def A1(w:Ω)(v:Φ)(xs:List Int):Prop:=Rd w v 1 xs.length (xs.map (yl .i64))
def Jm(w:Ω)(a:Option Addr)(xs:List Int):Prop:=
 ∀k,k<xs.length->∃b D,a=some ⟨b,D,none⟩/\∀j,j<xs.length->w.cell? ⟨b,D+j,none⟩=some (.int .i64 (nth xs j))
variable{bs xs ys zs:List Int}
theorem Sp (h:k<xs.length):xs[k]?=some (nth xs k):=by simp[nth,h]
theorem OG (h:k<xs.length):nth xs k=xs[k]:=by simp[nth,h]
theorem A1.open (h:A1 w v xs):
 ∃a z,v=.slice a xs.length z/\xs.length<=z/\z<=maxLen/\Jm w a xs:=by
 obtain⟨a,z,rfl,bx,am,hl,_,N⟩:=h;refine⟨a,z,rfl,bx,am,λk E=>?_⟩;obtain⟨b,D,rfl,av⟩:=N ω;refine⟨b,D,rfl,λj X=>?_⟩;rw[av j ω,xq,Sp X];rfl
variable{a:Option Addr}
theorem Jm.at (h:Jm w a xs)(E:k<xs.length):
 ∃b D,a=some ⟨b,D,none⟩/\w.cell? ⟨b,D+k,none⟩=some (.int .i64 (nth xs k)):=by
 obtain⟨b,D,rfl,N⟩:=h k E;exact⟨b,D,rfl,N k E⟩
theorem Jm.keep (h:Jm w a xs)(E:∀k,k<w.heap.size->w'.heap[k]?=w.heap[k]?):Jm w' a xs:=by
 intro k jd;obtain⟨b,D,rfl,N⟩:=h k jd;exact⟨b,D,rfl,λj X=>(vY (E _ (yK w _ (N j X)))).trans (N j X)⟩
theorem Jm.below (h:Jm w a xs)(Y:Γ w w w'):Jm w' a xs:=h.keep Y.block
theorem A1.below (h:A1 w v xs)(Y:Γ w w w'):A1 w' v xs:=Rd.below h Y
theorem A1.alloc (h:A1 w v xs)(o:Obj):A1 (w.alloc o) v xs:=Rd.alloc h o
def AE(lo:Nat)(w:Ω)(v:Φ)(xs:List Int):Prop:=w.ownsRow lo 3 1 v xs.length (xs.map (yl .i64))
theorem AE.rd (h:AE lo w v xs):A1 w v xs:=Rd.of_owns h
theorem AF{a b:Bool}(h:a=b):Ending.returned (.bool a)=.returned (.bool b):=by rw[h]
theorem Cy{a b:Int}(h:a=b):Ending.returned (.int .i64 a)=.returned (.int .i64 b):=by rw[h]
theorem MO (w:Ω)(a b:Nat):(w.drewN a).drewN b=w.drewN (a+b):=by simp[World.drewN,vq]
theorem cS (w:Ω)(a:Nat):∃n,w.drewN a=w.drewN n:=⟨a,rfl⟩
theorem cU (w:Ω)(a b:Nat):∃n,(w.drewN a).drewN b=w.drewN n:=⟨a+b,MO w a b⟩
theorem Ap{a:Ω}(h:Γ B a w)(n:Nat):Γ B a (w.drewN n):=⟨h.os,h.tape,h.output,h.size,h.block⟩
def Fn(w:Ω)(v:Φ)(bs:List Int):Prop:=Rd w v 1 bs.length (bs.map (yl .u8))/\∀b∈bs,0<=b/\b<256
theorem U0 (k:IntKind)
 (h:(a=none/\len=0/\z=0/\zs=[])∨∃x,a=some x/\len<=z/\z<=maxLen/\zs.length=z/\(∀i,i<zs.length->w.cell? (x.add i)=some (.int k (zs.getD i 0)))/\∀n∈zs,(Lit.int k n).wf=true):
 Rd w (.slice a len z) 1 (zs.take len).length ((zs.take len).map (yl k))/\∀n∈zs.take len,(Lit.int k n).wf=true:=by
 rcases h with⟨rfl,rfl,rfl,rfl⟩|⟨x,rfl,hlc,am,hz,N,hwf⟩
 .exact⟨⟨none,0,χ,χ,ζ,χ,λ_=>rfl,χ⟩,χ⟩
 have hl:(zs.take len).length=len:=by rw[ym];omega
 refine⟨⟨some x,z,by rw[hl],ω,am,χ,(λh=>by cases h),λhn=>?_⟩,λn hn=>hwf n (uq hn)⟩;rw[hl] at hn ⊢;have h0:=N 0 ω;obtain⟨b,D,iV⟩:=x;cases iV with
 |some q=>simp[uE,World.cell?] at h0;split at h0<;>simp_all
 |none=>
  refine⟨b,D,rfl,λj X=>?_⟩;have ek:=N j ω;have dg:(⟨b,D,none⟩:Addr).add j=⟨b,D+j,none⟩:=by unfold uE;split<;>simp_all
  rw[dg] at ek;rw[ek,xq,uV,if_pos ω];simp[yG (ω:j<zs.length)]
theorem TF
 (h:(a=none/\len=0/\z=0/\zs=[])∨∃x,a=some x/\len<=z/\z<=maxLen/\zs.length=z/\(∀i,i<zs.length->w.cell? (x.add i)=some (.int .u8 (zs.getD i 0)))/\∀n∈zs,(Lit.int .u8 n).wf=true):
 Fn w (.slice a len z) (zs.take len):=by
 refine⟨(U0 .u8 h).1,λb Y=>?_⟩;have:=(U0 .u8 h).2 b Y;simp only[Lit.wf,yD,decide_eq_true_eq] at this;have J:IntKind.min .u8=0:=ψ;have O:IntKind.max .u8=255:=ψ;omega
theorem Cr (n lo A:Int)(w:Ω):
 Ξ prog 27 #[.int .i64 n,.int .i64 lo,.int .i64 A] w λe w'=>e=.returned (.bool (Bj n lo A))/\w=w':=by
 by_cases J:lo<=n
 .have e1:Bj n lo A=decide (n<=A):=by simp[Bj,J]
  have hx:=AA e1;clear e1;go_in;go_wp2;go_ret;exact⟨AF hx.symm,rfl⟩
 have e1:Bj n lo A=false:=by simp[Bj,J]
 have hx:=AA e1;clear e1;go_in;go_wp2;go_ret;exact⟨AF hx.symm,rfl⟩
theorem EL (n lo A:Int)(w:Ω):
 Ξ prog 54 #[.int .i64 n,.int .i64 lo,.int .i64 A] w λe w'=>e=.returned (.bool (Bj n lo A))/\w=w':=by
 by_cases J:lo<=n
 .have e1:Bj n lo A=decide (n<=A):=by simp[Bj,J]
  have hx:=AA e1;clear e1;go_in;go_wp2;go_ret;exact⟨AF hx.symm,rfl⟩
 have e1:Bj n lo A=false:=by simp[Bj,J]
 have hx:=AA e1;clear e1;go_in;go_wp2;go_ret;exact⟨AF hx.symm,rfl⟩
theorem Py (n:Int)(w:Ω):
 Ξ prog 185 #[.int .i64 n] w λe w'=>e=.returned (.bool (Bj n 0 2))/\w=w':=by
 go_in;go_wp2_with (go_at_call 54;refine(EL _ _ _ _).mono ?_;rintro e w' ⟨rfl,rfl⟩);go_ret;exact⟨rfl,rfl⟩
def findIdx(p:Int->Bool)(xs:List Int):Int:=if xs.any p then(xs.findIdx p:Int) else -1
theorem VZ{p:Int->Bool}(h:∀j,j<xs.length->p (nth xs j)=false):findIdx p xs= -1:=by
 unfold findIdx;have:xs.any p=false:=by rw[uj];intro x H;obtain⟨j,X,rfl⟩:=wY H;have:=h j X;rw[OG X] at this;simp[this]
 simp[this]
theorem YE{p:Int->Bool}(E:k<xs.length)(h:∀j,j<k->p (nth xs j)=false)(hp:p (nth xs k)=true):findIdx p xs=k:=by
 unfold findIdx;rw[OG E] at hp;have J:xs.any p=true:=vP.2 ⟨xs[k],tX E,hp⟩;have O:xs.findIdx p=k:=by
  rw[tI E];refine⟨hp,λj X=>?_⟩;have:=h j X
  rwa [OG ω] at this
 simp[J,O]
theorem YF{p:Int->Bool}:decide (0<=findIdx p xs)=xs.any p:=by unfold findIdx;cases xs.any p<;>simp
theorem Tp (F:Nat)(au:Array Φ)(p:Int->Bool)(v:Φ)(xs:List Int)(w:Ω)(h:A1 w v xs)
 (hF:∀al w,(callFunc F al).run prog w=.ok (.enter F al) w)(hf:∀x w,Ξ prog F (#[.int .i64 x]++au) w λe w'=>e=.returned (.bool (p x))/\w=w'):
 Ξ prog 215 #[v,.func (.func F) #[] au] w λe w'=>e=.returned (.int .i64 (findIdx p xs))/\w=w':=by
 obtain⟨a,c,rfl,N,am,hx⟩:=h.open;clear h;unfold maxLen at am;have Hf:=AA hf;clear hf;go_in;go_wp2;go_loop [8] (λi=>∃k:Nat,k<=xs.length/\i=.int .i64 k/\∀j,j<k->p (nth xs j)=false) (λi=>xs.length - (intOf i).toNat)
 exact⟨0,yt _,rfl,λj X=>absurd X (xV _)⟩
 obtain⟨k,E,rfl,ay⟩:=hrel;have ax:=AA ay;clear ay
 by_cases aq:k<xs.length
 .obtain⟨b,D,rfl,ab⟩:=hx.at aq
  clear hx;cases hp:p (nth xs k)
  .have Hp:=AA hp;clear hp
   go_wp2_with (refine(Hf _ _).mono ?_;rintro e w' ⟨rfl,rfl⟩;rw[Hp.u]);go_round
   case rel=>exact⟨k+1,ω,ξ,λj X=>by
    rcases xC.1 X with h|h
    .exact ax j h
    subst h;exact Hp.u⟩
   case measure=>simp[intOf];omega
  have Hp:=AA hp;clear hp
  have bl:=AA (YE (p:=p) aq ax Hp.u);go_wp2_with (refine(Hf _ _).mono ?_;rintro e w' ⟨rfl,rfl⟩;rw[Hp.u]);go_ret;exact⟨Cy bl.symm,rfl⟩
 have bl:=AA (VZ (p:=p) (xs:=xs) (λj X=>ax j ω))
 go_wp2;go_ret;exact⟨Cy bl.symm,rfl⟩
theorem Pg (F:Nat)(au:Array Φ)(p:Int->Bool)(v:Φ)(xs:List Int)(w:Ω)(h:A1 w v xs)
 (hF:∀al w,(callFunc F al).run prog w=.ok (.enter F al) w)(hf:∀x w,Ξ prog F (#[.int .i64 x]++au) w λe w'=>e=.returned (.bool (p x))/\w=w'):
 Ξ prog 160 #[v,.func (.func F) #[] au] w λe w'=>e=.returned (.bool (xs.any p))/\w=w':=by
 have Hf:=AA hf;clear hf;go_in;go_wp2_with (go_at_call 215;refine(Tp F au p v xs _ h hF Hf.u).mono ?_;rintro e w' ⟨rfl,rfl⟩);go_ret;exact⟨AF YF,rfl⟩
theorem Am{p:Nat->Prop}(h:∀j,j<k->p j)(E:p k):∀j,j<k+1->p j:=λj X=>by
 rcases xC.1 X with h'|h'
 .exact h j h'
 subst h';exact E
theorem Tryz.zS:(prog.info? 3).map (λi=>(i.zero,i.size,i.bytes))=some (some (.int .i64 0),1,8):=φ
theorem AE.below (h:AE lo w v xs)(Y:Γ w w w'):AE lo w' v xs:=by
 refine uT (row:=none) h ⟨Y.os,Y.tape,Y.output,Y.size,λk E _=>Y.block k E⟩ ?_;cases v.ownBlock<;>simp
theorem A8{xs:List Φ}(h:w.ownsRow lo e sz v n xs)(Y:Γ w w w'):w'.ownsRow lo e sz v n xs:=by
 refine uT (row:=none) h ⟨Y.os,Y.tape,Y.output,Y.size,λk E _=>Y.block k E⟩ ?_;cases v.ownBlock<;>simp
theorem Below.zE (h:w.grownBy w' none):Γ w w w':=⟨h.os,h.tape,h.output,h.size,λk E=>h.block k E χ⟩
theorem XI (ai:Φ)(hz:ai.cells= #[ai])(n:Nat):(madeCells ai.cells (n*1)).toList=xW n ai:=by rw[hz,wZ,toList_madeCells_one]
variable{ops:Array Oper}
variable{o:Oper}
theorem RH{a:Act}{Q:Exit->Act->Ω->Prop}{l:Operand}{t:TypeId}
 (Z:o.guard=none)(d6:o.op=Op.makeSlice t l l)(e:TypeId)(ai:Φ)(bytes:Nat)(J:prog.underlying t=some (.slice e))
 (O:(prog.info? e).map (λi=>(i.zero,i.size,i.bytes))=some (some ai,1,bytes))(hz:ai.cells= #[ai])
 (hl:a.eval l=.int .i64 n)(b2:bytes*n<=281474976710656)(b3:n<=maxLen)
 (hK:∀w',w'.ownsRow w e 1 (.slice w n n) n (xW n ai)->Γ w w w'->w.heap.size<w'.heap.size->
  wpList prog ops Q rest (a.put o.dst (.slice w n n)) w'):wpList prog ops Q (o::rest) a w:=by
 obtain⟨i0,A,e9,ez,e8⟩:=tV O;refine wpList_make_full w Z l l t d6 w e i0 ai 1 J A e9 ez .i64 .i64 n n n hl hl rfl rfl (by rw[e8];exact b2) b3 (yF _) λw' h h'=>?_
 rw[XI ai hz] at h;exact hK w' h (Below.zE h') (h.lt _ rfl).2
theorem Mx (hl:xs.length=ys.length)(h:∀j,j<xs.length->nth xs j=nth ys j):xs=ys:=by
 refine List.ext_getElem hl λj J O=>?_
 have:=h j J
 rwa [OG J,OG O] at this
theorem aW (h:nth xs k≠nth ys k):decide (xs=ys)=false:=by simp only[decide_eq_false_iff_not];rintro rfl;exact h rfl
theorem aV (h:xs.length≠ys.length):decide (xs=ys)=false:=by simp only[decide_eq_false_iff_not];rintro rfl;exact h rfl
theorem Gd (v1 v2:Φ)(xs ys:List Int)(w:Ω)(J:A1 w v1 xs)(O:A1 w v2 ys):
 Ξ prog 15 #[v1,v2] w λe w'=>e=.returned (.bool (decide (xs=ys)))/\∃n,w'=w.drewN n:=by
 obtain⟨a1,c1,rfl,j0,jo,H1⟩:=J.open;obtain⟨a2,c2,rfl,jZ,jn,H2⟩:=O.open;clear J O;unfold maxLen at jo jn
 by_cases bk:(xs.length:Int)=ys.length
 .have Y:((xs.length:Int) !=ys.length)=false:=by simp[bk]
  have jR:xs.length<=ys.length/\ys.length<=xs.length:=ω;clear bk;go_in;go_wp2;go_loopw [5] (λi wr=>∃k:Nat,k<=xs.length/\i=.int .i64 k/\(∀j,j<k->nth xs j=nth ys j)/\∃n,wr=w.drewN n) (λi _=>xs.length - (intOf i).toNat)
  exact⟨0,yt _,rfl,λj X=>absurd X (xV _),0,rfl⟩
  obtain⟨k,E,rfl,ay,n,rfl⟩:=hrel;have ax:=AA ay;clear ay
  by_cases aq:k<xs.length
  .obtain⟨b1,o1,rfl,D1⟩:=H1.at aq
   have i6:k<ys.length:=ω;obtain⟨b2,o2,rfl,D2⟩:=H2.at i6;clear H1 H2
   by_cases he:nth xs k=nth ys k
   .have jX:(nth xs k !=nth ys k)=false:=by simp[he]
    have He:=AA he;clear he;go_wp2;go_quiet (fail);go_wp2;go_roundw;exact⟨k+1,ω,ξ,Am ax He.u,_,rfl⟩;simp[intOf];omega
   have jX:(nth xs k !=nth ys k)=true:=by simp[he]
   have d8:=AA (aW he);clear he;go_wp2;go_quiet (fail);go_wp2;go_ret
   first|exact⟨AF d8.symm,cU _ _ _⟩|exact⟨AF d8.symm,cS _ _⟩
  have d8:=AA (Mx (xs:=xs) (ys:=ys) ω (λj X=>ax j ω))
  go_wp2;go_ret;exact⟨AF (by simp[d8.u]),_,rfl⟩
 have Y:((xs.length:Int) !=ys.length)=true:=by simp[bk]
 have d8:=AA (aV (xs:=xs) (ys:=ys) ω);clear bk;go_in;go_wp2;go_ret;exact⟨AF d8.symm,0,rfl⟩
theorem Ek{a:Act}{Q:Exit->Act->Ω->Prop}{s x:Operand}{t:TypeId}
 (gi:o.guard=none)(ho:o.op=.call {callee:=.builtin .append,args:= #[s,x],argTypes:= #[t,t]})
 (e:TypeId)(ai:Φ)(sz bytes:Nat)(K:prog.underlying t=some (.slice e))(A:(prog.info? e).map (λi=>(i.zero,i.size,i.bytes))=some (some ai,sz,bytes))
 (fv:ai.cells.size=sz)(cT:0<sz){u:Φ}{m:Nat}{xs news:List Φ}(V:a.eval s=v)(a8:w.ownsRow lo e sz v n xs)
 (H:a.eval x=u)(hr:Rd w u sz m news)(J:∀u∈news,u.oneCell'=true)(jv:n+m<=maxLen)(bY:(n+m)*bytes<=140737488355328)(bm:lo<=w.heap.size)
 (hK:∀v' w',w'.ownsRow lo e sz v' (n+m) (xs++news)->w.grownBy w' v.ownBlock->Γ lo w w'->wpList prog ops Q rest (a.put o.dst v') w'):wpList prog ops Q (o::rest) a w:=by
 obtain⟨i0,d4,e9,ez,e8⟩:=tV A;obtain⟨ao,c,rfl,jQ,am,hl,az,N⟩:=hr;have ac:∀w',w.grownBy w' v.ownBlock->Γ lo w w':=λw' Z=>(yN lo w).grown Z bm (λk E=>(a8.lt k E).1)
 cases ao with
 |none=>
  have b8:=az rfl;subst b8;obtain rfl:m=0:=ω;have cq:news=[]:=xY (by simpa using hl);subst cq;refine sy gi s x t ho lo e i0 sz K d4 v n xs V a8 H ?_;exact hK v w (by simpa using a8) ⟨rfl,rfl,rfl,yF _,λ_ _ _=>rfl⟩ (yN _ _)
 |some ad=>
  refine wpList_append_own w gi s x t ho lo e i0 ai sz bytes K d4 e9 ez e8 fv cT v n xs V a8 ad m c news H hl ?_ J jv bY bm (λv' w' O h3 _=>hK v' w' O h3 (ac w' h3));intro j u hu
  rcases wA m with rfl|hm
  .simp at hl
   simp[hl] at hu
  obtain⟨b,D,js,av⟩:=N hm
  obtain rfl:ad=⟨b,D,none⟩:=by simpa using js
  have X:j<news.length:=(yA.1 hu).1;have dg:(⟨b,D,none⟩:Addr).add j=⟨b,D+j,none⟩:=by unfold uE;split<;>simp_all
  rw[dg,av j ω,hu]
theorem Rd.news (w:Ω)(cs:Array Φ)(e:TypeId)(sz n:Nat)(V:cs.size=n*sz)(hn:n<=maxLen):Rd (w.alloc (.cells cs e)) (.slice w n n) sz n cs.toList:=
 Rd.of_owns (World.ownsRow_lit (base:=w.heap.size) w cs n (yF _) hn V)
theorem MV:∀u∈xs.map (yl .i64),u.oneCell'=true:=by intro u hu;obtain⟨x,_,rfl⟩:=vU.1 hu;rfl
theorem Co (w:Ω)(e sz:Nat):(w.alloc (.cells #[] e)).ownsRow w.heap.size e sz (.slice w 0 0) 0 []:=
 World.ownsRow_made w #[] 0 (yF _) ζ χ
theorem JQ (v:Φ)(xs:List Int)(w:Ω)(h:A1 w v xs)(V:xs.length<=1048576):
 Ξ prog 62 #[v] w λe w'=>∃v',e=.returned v'/\AE w w' v' xs/\Γ w w w':=by
 have h':=h;obtain⟨a,c,rfl,bx,am,hl,az,N⟩:=h';have hq:=λw=>wM (P:=prog) w 29 3 a xs.length c 0 0 underlying29
 cases a with
 |none=>have b8:=az rfl;subst b8;have h0:xs=[]:=xY ω;subst h0;simp only[xi] at hq;go_in;go_wp2;go_ret;exact⟨_,rfl,xy _ _ _ _,yN _ _⟩
 |some ad=>clear N az;go_in;go_wp2_with (refine Ek (lo:=w.heap.size) (v:=.slice w 0 0) (n:=0) (xs:=[]) (m:=xs.length) (news:=xs.map (yl .i64)) rfl rfl 3 (.int .i64 0) 1 8 underlying29 Tryz.zS rfl ψ rfl (Co _ _ _) rfl (h.alloc _) MV μ ω χ ?_;intro v' w' a8 _ ac);go_ret;refine⟨_,rfl,by simpa[AE] using a8,((yN _ _).alloc (yF _) _).trans ac⟩
theorem JM{xs:List Φ}(h:w.ownsRow lo e sz v n xs)(hn:0<n):∃g z,v=.slice (some ⟨g,0,none⟩) n z/\lo<=g/\g<w.heap.size:=by
 have aq:=h.lt
 rcases h.2 with⟨_,rfl⟩|⟨g,z,bn,rfl,Y,Z,_⟩
 .omega
 exact⟨g,z,rfl,Y,(aq g rfl).2⟩
theorem GX{a:Nat}(h:a<xs.length):(xs.map (yl .i64))[a]?=some (.int .i64 (nth xs a)):=by rw[xq,Sp h];rfl
theorem Vt{a:Nat}(ha:a<xs.length):nth (xs.set a x) j=if j=a then x else nth xs j:=by
 unfold nth;rw[yg,yg,vW]
 by_cases h:a=j
 .subst h;simp[ha]
 have h':j≠a:=λe=>h e.symm
 simp[h,h']
def Ce{α:Type}(cs:α->List Φ)(xs:List α):List Φ:=xs.flatMap cs
theorem Ia{α:Type}(cs:α->List Φ)(x:α)(xs:List α):Ce cs (x::xs)=cs x++Ce cs xs:=rfl
theorem Bq{α:Type}(cs:α->List Φ)(xs ys:List α):Ce cs (xs++ys)=Ce cs xs++Ce cs ys:=List.flatMap_append
theorem Eo{α:Type}(cs:α->List Φ)(x:α):Ce cs [x]=cs x:=by simp[Ce]
theorem Je{α:Type}{cs:α->List Φ}(V:∀x,(cs x).length=sz)(xs:List α):(Ce cs xs).length=xs.length*sz:=by
 induction xs with
 |nil=>simp[Ce]
 |cons x xs ih=>rw[Ia,yz,V,ih,vT,uP];omega
theorem Q0{α:Type}{cs:α->List Φ}(V:∀x,(cs x).length=sz){xs:List α}{x:α}(h:xs[k]?=some x)(X:j<sz):(Ce cs xs)[k*sz+j]?=(cs x)[j]? :=by
 induction xs generalizing k with
 |nil=>simp at h
 |cons y ys ih=>
  cases k with
  |zero=>simp only[List.getElem?_cons_zero,Option.some.injEq] at h;subst h;rw[Ia,xl (by rw[V];omega)];simp
  |succ k=>
   rw[List.getElem?_cons_succ] at h;rw[Ia,List.getElem?_append_right (by rw[V,uP];omega),V,<-ih h]
   congr 1
   rw[uP];omega
def VE{α:Type}(sz:Nat)(cs:α->List Φ)(w:Ω)(a:Option Addr)(xs:List α):Prop:=
 ∀(k:Nat) x,xs[k]?=some x->∃b D,a=some ⟨b,D,none⟩/\b<w.heap.size/\∀(j:Nat) u,(cs x)[j]?=some u->w.cell? ⟨b,D+k*sz+j,none⟩=some u
theorem VE.below{α:Type}{cs:α->List Φ}{xs:List α}(h:VE sz cs w a xs)(Y:Γ w w w'):VE sz cs w' a xs:=by
 intro k x E;obtain⟨b,D,rfl,aq,N⟩:=h k x E;exact⟨b,D,rfl,yu aq Y.size,λj u hu=>(Y.cell (p:=⟨b,D+k*sz+j,none⟩) aq).trans (N j u hu)⟩
theorem VE.of{α:Type}{cs:α->List Φ}(V:∀x,(cs x).length=sz)(cT:0<sz){c:Nat}{xs:List α}(h:Rd w (.slice a n c) sz xs.length (Ce cs xs)):VE sz cs w a xs:=by
 obtain⟨a',z,hv,bx,am,hl,_,N⟩:=h;simp only[xQ] at hv;obtain⟨rfl,rfl,rfl⟩:=hv;intro k x E;have aq:=(yA.1 E).1;obtain⟨b,D,rfl,av⟩:=N ω;have ex:∀(j:Nat) u,(cs x)[j]?=some u->w.cell? (b,D+k*sz+j)=some u:=by
  intro j u hu;have X:j<sz:=by rw[<-V x];exact(yA.1 hu).1
  have hm:k*sz+sz<=xs.length*sz:=by rw[<-uP];exact wI _ aq
  rw[vq,av (k*sz+j) ω,Q0 V E X,hu]
 refine⟨b,D,rfl,?_,ex⟩;have h0:(cs x)[0]?=some ((cs x)[0]'(by rw[V];omega)):=yG _;exact yK w _ (ex 0 _ h0)
theorem Rd.shape{xs:List Φ}(h:Rd w v sz n xs):∃a z,v=.slice a n z/\n<=z/\z<=maxLen:=by obtain⟨a,z,rfl,bx,am,_⟩:=h;exact⟨a,z,rfl,bx,am⟩
def IL(w:Ω)(g o:Nat):Nat->List Φ->Ω
 |_,[]=>w
 |j,u::us=>IL (w.setCell (g,o+j) u) g o (j+1) us
def FY(xs:List Φ)(o:Nat):Nat->List Φ->List Φ
 |_,[]=>xs
 |j,u::us=>FY (xs.set (o+j) u) o (j+1) us
theorem Mg (hi B C us:List Φ)(j:Nat)(hB:B.length=us.length)(o:Nat)(ho:hi.length=o+j):FY (hi++B++C) o j us=hi++us++C:=by
 induction us generalizing hi B j with
 |nil=>simp at hB;subst hB;simp[FY]
 |cons u us ih=>
  cases B with
  |nil=>simp at hB
  |cons b B=>
   rw[FY,<-ho];have e:(hi++b::B++C).set hi.length u=(hi++[u])++B++C:=by simp[List.set_append_right]
   rw[e,ih (hi++[u]) B (j+1) (by simpa using hB) η];simp
theorem Eb{xs:List Φ}(h:w.ownsRow lo e sz (.slice g n z) n xs)(o j:Nat)(us:List Φ):
 (IL w g o j us).ownsRow lo e sz (.slice g n z) n (FY xs o j us)/\w.grownBy (IL w g o j us) (some g):=by
 induction us generalizing w xs j with
 |nil=>exact⟨h,⟨rfl,rfl,rfl,yF _,λ_ _ _=>rfl⟩⟩
 |cons u us ih=>obtain⟨s1,s2⟩:=World.ownsRow.stored h (o+j) u;obtain⟨t1,t2⟩:=ih s1 (j+1);exact⟨t1,⟨t2.os.trans s2.os,t2.tape.trans s2.tape,t2.output.trans s2.output,yM s2.size t2.size,λb Y bb=>(t2.block b (yu Y s2.size) bb).trans (s2.block b Y bb)⟩⟩
theorem DA{α:Type}{xs:List α}{x:α}(h:xs[k]?=some x):xs.take (k+1)=xs.take k++[x]:=by obtain⟨aq,rfl⟩:=yA.1 h;exact ui aq
theorem SL{α:Type}{cs:α->List Φ}(V:∀x,(cs x).length=sz){xs:List α}(E:k<xs.length)(y:α):FY (Ce cs xs) (k*sz) 0 (cs y)=Ce cs (xs.set k y):=by
 have e1:xs=xs.take k++[xs[k]]++xs.drop (k+1):=χ;have e2:xs.set k y=xs.take k++[y]++xs.drop (k+1):=by rw[List.set_eq_take_append_cons_drop,if_pos E];simp
 rw[e2]
 conv=>lhs;rw[e1]
 rw[Bq,Bq,Bq,Bq,Eo,Eo];exact Mg _ _ _ _ 0 (by rw[V,V]) _ (by rw[Je V,ym];congr 1;omega)
theorem AJ (w:Ω)(a:Obj):Γ w w (w.alloc a):=(yN _ _).alloc (yF _) _
theorem EU (w:Ω)(o:Obj):(w.alloc o).heap[w.heap.size]?=some o/\Γ w w (w.alloc o):=⟨yx w o,AJ w o⟩
theorem IE (w:Ω)(a b:Obj):Γ w w ((w.alloc a).alloc b):=(AJ w a).alloc χ _
theorem cJ (w:Ω)(a b c:Obj):Γ w w (((w.alloc a).alloc b).alloc c):=(IE w a b).alloc η _
theorem fe (w:Ω)(a b c d:Obj):Γ w w ((((w.alloc a).alloc b).alloc c).alloc d):=(cJ w a b c).alloc η _
theorem cI{W:Ω}(Y:Γ W W w1):(∀b o,b<W.heap.size->w1.cell? ⟨b,o,none⟩=W.cell? ⟨b,o,none⟩)/\(∀b o,b<W.heap.size->w1.frozen? ⟨b,o,none⟩=W.frozen? ⟨b,o,none⟩):=
 ⟨λb o h=>Y.cell (p:=⟨b,o,none⟩) h,λb o h=>Y.frozen (p:=⟨b,o,none⟩) h⟩
theorem Bn{a:Act}{Q:Exit->Act->Ω->Prop}{s x:Operand}{t:TypeId}
 (gi:o.guard=none)(ho:o.op=.call {callee:=.builtin .append,args:= #[s,x],argTypes:= #[t,t]})
 (e:TypeId)(ai:Φ)(sz bytes:Nat)(K:prog.underlying t=some (.slice e))(A:(prog.info? e).map (λi=>(i.zero,i.size,i.bytes))=some (some ai,sz,bytes))
 (fv:ai.cells.size=sz)(cT:0<sz){u:Φ}{m:Nat}{xs news:List Φ}(V:a.eval s=v)(a8:w.ownsRow lo e sz v n xs)
 (H:a.eval x=u)(hr:Rd w u sz m news)(J:∀u∈news,u.oneCell'=true)(jv:n+m<=maxLen)(bY:(n+m)*bytes<=140737488355328)(bm:lo<=w.heap.size)
 (hK:∀v' w',w'.ownsRow lo e sz v' (n+m) (xs++news)->w.grownBy w' v.ownBlock->(v'.ownBlock=v.ownBlock∨v'.ownBlock=some w.heap.size)->Γ lo w w'->wpList prog ops Q rest (a.put o.dst v') w'):wpList prog ops Q (o::rest) a w:=by
 obtain⟨i0,d4,e9,ez,e8⟩:=tV A;obtain⟨ao,c,rfl,jQ,am,hl,az,N⟩:=hr;have ac:∀w',w.grownBy w' v.ownBlock->Γ lo w w':=λw' Z=>(yN lo w).grown Z bm (λk E=>(a8.lt k E).1)
 cases ao with
 |none=>
  have b8:=az rfl;subst b8;obtain rfl:m=0:=ω;have cq:news=[]:=xY (by simpa using hl);subst cq;refine sy gi s x t ho lo e i0 sz K d4 v n xs V a8 H ?_;exact hK v w (by simpa using a8) ⟨rfl,rfl,rfl,yF _,λ_ _ _=>rfl⟩ (.inl rfl) (yN _ _)
 |some ad=>
  refine wpList_append_own_at w gi s x t ho lo e i0 ai sz bytes K d4 e9 ez e8 fv cT v n xs V a8 ad m c news H hl ?_ J jv bY bm (λv' w' O h3 _ h5=>hK v' w' O h3 h5 (ac w' h3));intro j u hu
  rcases wA m with rfl|hm
  .simp at hl
   simp[hl] at hu
  obtain⟨b,D,js,av⟩:=N hm
  obtain rfl:ad=⟨b,D,none⟩:=by simpa using js
  have X:j<news.length:=(yA.1 hu).1;have dg:(⟨b,D,none⟩:Addr).add j=⟨b,D+j,none⟩:=by unfold uE;split<;>simp_all
  rw[dg,av j ω,hu]
theorem Rd.zM (w:Ω)(cs:Array Φ)(e:TypeId)(sz n g:Nat)(Z:g=w.heap.size)(V:cs.size=n*sz)(hn:n<=maxLen):Rd (w.alloc (.cells cs e)) (.slice g n n) sz n cs.toList:=by subst Z;exact Rd.news w cs e sz n V hn
theorem Au{xs:List Φ}{row:Option Nat}(h:w.ownsRow lo e sz v n xs)(Z:w.grownBy w' row)(bb:v.ownBlock=none∨v.ownBlock≠row):w'.ownsRow lo e sz v n xs:=uT h Z bb
theorem Bb{xs:List Φ}(h:w.ownsRow lo e sz v n xs)(hl:lo'<=lo):w.ownsRow lo' e sz v n xs:=by
 refine⟨h.1,?_⟩
 rcases h.2 with h'|⟨g,z,bn,rfl,Y,rest⟩
 .exact .inl h'
 exact .inr ⟨g,z,bn,rfl,yM hl Y,rest⟩
theorem AO{row:Option Nat}(h:w.grownBy w' row)(h':w'.grownBy ci row):w.grownBy ci row:=
 ⟨h'.os.trans h.os,h'.tape.trans h.tape,h'.output.trans h.output,yM h.size h'.size,λb Y bb=>(h'.block b (yu Y h.size) bb).trans (h.block b Y bb)⟩
theorem AW (h:Γ w w w')(row:Option Nat):w.grownBy w' row:=⟨h.os,h.tape,h.output,h.size,λb Y _=>h.block b Y⟩
def GP(v1 v2:Φ):Prop:=∀k,v1.ownBlock=some k->v2.ownBlock≠some k
theorem GP.symm (h:GP v1 v2):GP v2 v1:=λk J O=>h k O J
theorem GP.ne (h:GP v1 v2):v1.ownBlock=none∨v1.ownBlock≠v2.ownBlock:=by
 cases hv:v1.ownBlock with
 |none=>exact .inl rfl
 |some k=>exact .inr λe=>h k hv e.symm
theorem GP.grown{u:Φ}(h:GP v u)(hv:v'.ownBlock=v.ownBlock∨v'.ownBlock=some B)(hu:∀k,u.ownBlock=some k->k<B):GP v' u:=by
 intro k E jI
 rcases hv with e|e
 .exact h k (e▸E) jI
 rw[e] at E
 cases E;exact absurd (hu _ jI) (Nat.lt_irrefl _)
theorem mixed:prog.follows .mixedOrders=true:=φ
section
variable {P:Program}
def Ae(l:List Oper)(i:Nat):Nat:=((l[i]?).bind (·.dst)).getD 0
def Ai(l:List Oper)(is:List Nat)(vs:Nat->Φ)(b:Array Φ):Array Φ:=is.foldl (λb i=>b.setIfInBounds (Ae l i) (vs i)) b
def Iu(l:List Oper)(n:Nat):Bool:=
 decide (n<l.length)&&rQ .any l.toArray n&&sd .any l.toArray n&&
 ((yL n).all λi=>match l[i]? with|some o=>o.dst.isSome|none=>false)&&
 ((yL n).all λi=>(yL n).all λj=>i==j||Ae l i !=Ae l j)&&
 Region.seqB .any l.toArray (l.length - n) n (sV (n:=l.length) λi=>decide (i.val<n))&&
 ((yL l.length).all λj=>match l[j]? with|some o=>o.after.all λe=>!um .any e||decide (e.on<j)|none=>false)
def Hz(L:Nat->Bool)(i:Nat):Nat->Bool:=λj=>if j=i then true else L j
theorem Dm{L:Nat->Bool}{i j:Nat}(h:Hz L i j=false):L j=false:=by
 unfold Hz at h
 split at h
 .cases h
 exact h
def AZ(P:Program)(l:List Oper)(o:Oper)(a:Act)(w:Ω)(ht:Act->Ω->Prop)(Q:Exit->Act->Ω->Prop):Prop:=
 (xo o (yielded l.toArray a.tmps)=true->uZ P o a w ht Q)/\(xo o (yielded l.toArray a.tmps)=false->ht (a.put o.dst Θ) w)
theorem AZ.of{P:Program}{l:List Oper}{o:Oper}{a:Act}{w:Ω}{ht:Act->Ω->Prop}{Q:Exit->Act->Ω->Prop}(Z:o.guard=none)(h:uZ P o a w ht Q):AZ P l o a w ht Q:=
 ⟨λ_=>h,λhw=>by simp[xo,Z] at hw⟩
theorem yO{P:Program}{l:List Oper}{o:Oper}{a:Act}{w:Ω}{ht:Act->Ω->Prop}{Q:Exit->Act->Ω->Prop}(h:uZ P o a w ht Q)(Z:o.guard=none:=by rfl):AZ P l o a w ht Q:=AZ.of Z h
theorem Pa{l:List Oper}{tmps:Array Φ}{g d:Nat}{b:Bool}(hd:(l[g]?).bind (·.dst)=some d)(hv:tmps[d]?.getD Θ=.bool b):yielded l.toArray tmps g=some b:=by
 have h:(l.toArray[g]?).bind (·.dst)=some d:=by simpa using hd
 cases H:tmps[d]? with
 |none=>rw[H] at hv;simp[Θ] at hv
 |some x=>rw[H] at hv;simp at hv;subst hv;unfold yielded;rw[h,vH,H]
theorem AZ.yes{P:Program}{l:List Oper}{o:Oper}{a:Act}{w:Ω}{ht:Act->Ω->Prop}{Q:Exit->Act->Ω->Prop}{g d:Nat}{b:Bool}(Z:o.guard=some (g,b))(hd:(l[g]?).bind (·.dst)=some d)(hv:a.tmps[d]?.getD Θ=.bool b)(h:uZ P o a w ht Q):AZ P l o a w ht Q:=
 ⟨λ_=>h,λhw=>by simp[xo,Z,Pa hd hv] at hw⟩
theorem AZ.no{P:Program}{l:List Oper}{o:Oper}{a:Act}{w:Ω}{ht:Act->Ω->Prop}{Q:Exit->Act->Ω->Prop}{g d:Nat}{b:Bool}(Z:o.guard=some (g,b))(hd:(l[g]?).bind (·.dst)=some d)(hv:a.tmps[d]?.getD Θ=.bool (!b))(h:ht (a.put o.dst Θ) w):AZ P l o a w ht Q:=
 ⟨λhw=>by rw[xo,Z] at hw;simp only[Pa hd hv] at hw;cases b<;>simp at hw,λ_=>h⟩
theorem Br{a:Act}{v:Φ}(h:a.tmps[t]?.getD Θ=v):a.eval (.tmp t)=v:=by
 show a.tmps.getD t Θ=v
 rw[tS];exact h
theorem Cc{P:Program}{o:Oper}{a:Act}{w w':Ω}{ht:Act->Ω->Prop}{Q:Exit->Act->Ω->Prop}{s x:Operand}{t:TypeId}(ho:o.op=.call {callee:=.builtin .append,args:= #[s,x],argTypes:= #[t,t]})
 {v u v':Φ}(V:a.eval s=v)(H:a.eval x=u)(cn:(vE #[t,t] o.type #[v,u]).run P w=.ok v' w')(h:ht (a.put o.dst v') w'):uZ P o a w ht Q:=by
 unfold uZ execOp;simp only[ho,resolve,invoke,builtin,vo,Sem.run_pure,wk,List.map_toArray,vD,uR,V,H,cn];exact h
def Bo(l:List Oper)(i:Nat):Option Nat:=(l[i]?).bind (·.dst)
def Ec(l:List Oper)(tmps:Array Φ)(i:Nat):Φ:=match Bo l i with|some d=>tmps[d]?.getD Θ|none=>Θ
theorem ba{l:List Oper}{a:Act}{i j:Nat}{o:Oper}{v:Φ}(ho:l[i]?=some o)(bb:Bo l i=none∨Bo l i≠Bo l j):Ec l (a.put o.dst v).tmps j=Ec l a.tmps j:=by
 have e:Bo l i=o.dst:=by simp[Bo,ho]
 rw[e] at bb;unfold Ec;cases X:Bo l j with
 |none=>rfl
 |some d=>
  cases hd:o.dst with
  |none=>rfl
  |some d'=>
   have:d'≠d:=by
    rintro rfl
    rcases bb with h|h
    .rw[hd] at h;cases h
    exact h (by rw[hd,X])
   simp only[Act.put];rw[wB this]
theorem bZ{l:List Oper}{a:Act}{i:Nat}{o:Oper}{v:Φ}(ho:l[i]?=some o)(hN:∀d,Bo l i=some d->d<a.tmps.size):Ec l (a.put o.dst v).tmps i=match o.dst with|some _=>v|none=>Θ:=by
 have e:Bo l i=o.dst:=by simp[Bo,ho]
 unfold Ec;rw[e];cases hd:o.dst with
 |none=>rfl
 |some d=>have:=hN d (by rw[e,hd]);simp[Act.put,this]
structure fQ(l:List Oper)(n:Nat)(a0:Act)(I:(Nat->Bool)->(Nat->Φ)->Ω->Prop)(ae:Array Bool)(a:Act)(w:Ω):Prop where
 head:HeadInv .any l.toArray n ae
 defers:a.defers=a0.defers
 size:a.tmps.size=a0.tmps.size
 base:∀t,(∀i,i<n->Bo l i≠some t)->a.tmps[t]?=a0.tmps[t]?
 inv:I (λj=>ae.getD j false) (Ec l a.tmps) w
theorem Na{ae:Array Bool}{i:Nat}(h:i<ae.size)(d:Bool):(ae.setIfInBounds i true).getD i d=true:=by simp[h]
def fI(l:List Oper):Bool:=(yL l.length).all λj=>match l[j]? with|some o=>o.after.all λe=>!um .any e||decide (e.on<j)|none=>false
structure fS(l:List Oper)(n N:Nat):Prop where
 tail:(n<l.length/\rQ .any l.toArray n=true/\sd .any l.toArray n=true/\Region.seqB .any l.toArray (l.length - n) n (sV (n:=l.length) λi=>decide (i.val<n))=true)∨n=l.length
 ne:∀i j,i<n->j<n->i≠j->Bo l i=none∨Bo l i≠Bo l j
 back:fI l=true
 fit:∀i,i<n->∀d,Bo l i=some d->d<N
theorem fQ.wpAny{l:List Oper}{n:Nat}{a0:Act}{I:(Nat->Bool)->(Nat->Φ)->Ω->Prop}{Q:Exit->Act->Ω->Prop}(hB:fS l n a0.tmps.size)
 (a7:∀i,i<n->∀o,l[i]?=some o->∀a w,a.defers=a0.defers->a.tmps.size=a0.tmps.size->(∀t,(∀i,i<n->Bo l i≠some t)->a.tmps[t]?=a0.tmps[t]?)->
  ∀L:Nat->Bool,L i=false->(∀j,yk .any l.toArray i j=true->L j=true/\j<n)->(∀j j',L j=true->yk .any l.toArray j j'=true->L j'=true)->I L (Ec l a.tmps) w->
  ∀ht:Act->Ω->Prop,(∀v w',(∀cm,cm i=(match o.dst with|some _=>v|none=>Θ)->(∀j,j<n->j≠i->cm j=Ec l a.tmps j)->I (Hz L i) cm w')->ht (a.put o.dst v) w')->AZ P l o a w ht Q)
 (a6:∀a w,a.defers=a0.defers->a.tmps.size=a0.tmps.size->(∀t,(∀i,i<n->Bo l i≠some t)->a.tmps[t]?=a0.tmps[t]?)->∀L:Nat->Bool,(∀i,i<n->L i=true)->I L (Ec l a.tmps) w->wpList P l.toArray Q (l.drop n) a w):
 ∀(f:Nat)(ae:Array Bool)(a:Act)(w:Ω),f=(l.length - n)+((yL n).filter λi=>!ae.getD i false).length->fQ l n a0 I ae a w->Go.wpAny P .any l.toArray Q f ae a w:=by
 obtain⟨gl,bb,bP,hN⟩:=hB;have bP:=bP;unfold fI at bP;have il:n<=l.length:=by rcases gl with h|h<;>omega
 have ev:∀i (o:Oper),l[i]?=some o->∀e∈o.after,um .any e=true->e.on<i:=by intro i o ho e he Y;have:=yr.1 bP i (yi.2 (yA.1 ho).1);rw[ho] at this;simpa[Y] using Array.all_eq_true'.1 this e he
 have none:∀(ae:Array Bool),(∀i,i<n->ae.getD i false=true)->((yL n).filter λi=>!ae.getD i false)=[]:=by intro ae bD;rw[List.filter_eq_nil_iff];intro i A;simp[bD i (yi.1 A)]
 intro f
 induction f with
 |zero=>
  intro ae a w hf inv;have kO:n=l.length:=ω
  have bD:∀i,i<n->ae.getD i false=true:=by
   intro i A;cases H:ae.getD i false with
   |true=>rfl
   |false=>
    exfalso;have:i∈(yL n).filter λi=>!ae.getD i false:=wK.2 ⟨yi.2 A,by simp[H]⟩
    have:=tx this;omega
  have hT:=a6 a w inv.defers inv.size inv.base _ bD inv.inv;rw[List.drop_eq_nil_of_le ω] at hT;refine⟨?_,hT⟩;rw[List.eq_nil_iff_forall_not_mem];intro i A;obtain⟨hX,o,ho,_⟩:=mem_ready.1 A;have kS:i<l.length:=by have:=(we.1 ho).1;simpa using this
  have:=getD_both hX;rw[bD i ω] at this;cases this
 |succ f ih=>
  intro ae a w hf inv
  by_cases bD:∀i,i<n->ae.getD i false=true
  .rcases gl with⟨hn,_,_,f4⟩|hn
   .have fb:ae=sV (n:=l.length) λi=>decide (i.val<n):=by
     have cT:ae.size=l.length:=by have:=inv.head.size;simpa using this
     apply Array.ext
     .simp[cT]
     intro i J O
     simp only[Array.getElem_ofFn]
     by_cases A:i<n
     .have:=bD i A
      simp[J] at this;simp[A,this]
     have:=inv.head.tail i ω (by simpa[cT] using J)
     simp[J] at this;simp[A,this]
    have hT:=a6 a w inv.defers inv.size inv.base _ bD inv.inv;have hW:=wpAny_of_seq (P:=P) (md:=.any) (ops:=l.toArray) (Q':=Q) (l.drop n) n ae a w (λj=>by simp[tZ]) (by rw[fb];simpa using f4) hT;have e:(l.drop n).length=f+1:=by rw[none ae bD] at hf;simp at hf ⊢;omega
    rw[e] at hW;exact hW
   rw[none ae bD] at hf
   simp at hf;omega
  obtain⟨i0,d4⟩:=Classical.not_forall.1 bD
  obtain⟨gd,jf⟩:=Classical.not_imp.1 d4;have jg:ae.getD i0 false=false:=by simpa using jf
  have cT:ae.size=l.length:=by have:=inv.head.size;simpa using this
  have it:ae.getD i0 true=false:=getD_in ω jg;refine⟨λhr=>?_,λi A=>?_⟩
  .exfalso
   have:∀k,∀i,i<k->i<n->ae.getD i true=false->False:=by
    intro k
    induction k with
    |zero=>intro i A;omega
    |succ k ihk=>
     intro i kT b4 hX;have f6:i∉Region.ready .any l.toArray ae:=by rw[hr];simp
     have ho:l[i]?=some l[i]:=yG ω;apply f6;rw[mem_ready];refine⟨hX,l[i],χ,λe he Y=>?_⟩;have aq:=ev i _ ho e he Y;cases H:ae.getD e.on false with
     |true=>rfl
     |false=>exact(ihk e.on ω ω (getD_in ω H)).elim
   exact this n i0 gd gd it
  obtain⟨hX,o,i2,jj⟩:=mem_ready.1 A
  have ho:l[i]?=some o:=by simpa using i2
  have b4:i<n:=by
   rcases tj i n with h|h
   .exact h
   rcases gl with⟨hn,V,N,_⟩|hn
   .exact absurd A (tail_waits V N (by simpa using hn) inv.head _ i0 rfl gd it i h)
   have:=(yA.1 ho).1;omega
  have hV:=getD_both hX;unfold Go.wpOp;rw[i2];have i8:∀j,yk .any l.toArray i j=true->ae.getD j false=true/\j<n:=by intro j X;obtain⟨oj,iZ,e,he,Y,rfl⟩:=tv X;obtain rfl:oj=o:=yP (iZ.symm.trans i2);have:=ev i _ ho e he Y;exact⟨jj e he Y,ω⟩
  have jp:∀j j',ae.getD j false=true->yk .any l.toArray j j'=true->ae.getD j' false=true:=by intro j j' X hw;obtain⟨oj,iZ,e,he,Y,rfl⟩:=tv hw;exact inv.head.closed j oj iZ X e he Y
  have eL:(λj=>(ae.setIfInBounds i true).getD j false)=Hz (λj=>ae.getD j false) i:=by
   funext j
   unfold Hz
   by_cases g1:j=i
   .subst g1
    rw[if_pos rfl,Na ω]
   rw[if_neg g1,getD_set_ne false (Ne.symm g1)]
  have hK:=a7 i b4 o ho a w inv.defers inv.size inv.base _ hV i8 jp inv.inv (Go.wpAny P .any l.toArray Q f (ae.setIfInBounds i true)) (λv w' hI=>by
   have c8:f=(l.length - n)+((yL n).filter λk=>!(ae.setIfInBounds i true).getD k false).length:=by
    have ij:i∈(yL n).filter λk=>!ae.getD k false:=by rw[wK];exact⟨yi.2 b4,by rw[hV];rfl⟩
    have kn:((yL n).filter λk=>!ae.getD k false).Nodup:=List.nodup_range.filter _;have he:((yL n).filter λk=>!(ae.setIfInBounds i true).getD k false)=((yL n).filter λk=>!ae.getD k false).erase i:=by
     rw[kn.erase_eq_filter,List.filter_filter];refine List.filter_congr λk E=>?_
     by_cases jb:k=i
     .subst jb
      simp[Na (ω:k<ae.size)]
     rw[getD_set_ne false (Ne.symm jb)]
     simp[jb]
    rw[he,List.length_erase_of_mem ij];have:=tx ij;omega
   refine ih _ _ _ c8 ⟨inv.head.set A b4,?_,?_,?_,?_⟩
   .cases hd:o.dst<;>simpa[Act.put] using inv.defers
   .cases hd:o.dst<;>simpa[Act.put] using inv.size
   .intro t K
    rw[<-inv.base t K];cases hd:o.dst with
    |none=>rfl
    |some d=>
     have:d≠t:=λe=>K i b4 (by simp[Bo,ho,hd,e])
     simp only[Act.put];rw[wB this]
   rw[eL]
   exact hI _ (bZ ho (λd hd=>by rw[inv.size];exact hN i b4 d hd)) (λj X g1=>ba ho (bb i j b4 X (Ne.symm g1))))
  cases iM:xo o (yielded l.toArray a.tmps) with
  |true=>dsimp only;rw[iM,if_pos rfl];exact .inl (hK.1 iM)
  |false=>dsimp only;rw[iM,if_neg Bool.false_ne_true];exact hK.2 iM
theorem Mo{Q:Exit->Act->Ω->Prop}{a0:Act}{l:List Oper}{n:Nat}(hm:P.follows .mixedOrders=true){I:(Nat->Bool)->(Nat->Φ)->Ω->Prop}(hB:fS l n a0.tmps.size)(hI:∀vs,I (λ_=>false) vs {w0 with drawn:=w0.drawn+1})
 (a7:∀i,i<n->∀o,l[i]?=some o->∀a w,a.defers=a0.defers->a.tmps.size=a0.tmps.size->(∀t,(∀i,i<n->Bo l i≠some t)->a.tmps[t]?=a0.tmps[t]?)->
  ∀L:Nat->Bool,L i=false->(∀j,yk .any l.toArray i j=true->L j=true/\j<n)->(∀j j',L j=true->yk .any l.toArray j j'=true->L j'=true)->I L (Ec l a.tmps) w->
  ∀ht:Act->Ω->Prop,(∀v w',(∀cm,cm i=(match o.dst with|some _=>v|none=>Θ)->(∀j,j<n->j≠i->cm j=Ec l a.tmps j)->I (Hz L i) cm w')->ht (a.put o.dst v) w')->AZ P l o a w ht Q)
 (a6:∀a w,a.defers=a0.defers->a.tmps.size=a0.tmps.size->(∀t,(∀i,i<n->Bo l i≠some t)->a.tmps[t]?=a0.tmps[t]?)->∀L:Nat->Bool,(∀i,i<n->L i=true)->I L (Ec l a.tmps) w->wpList P l.toArray Q (l.drop n) a w):
 (vZ id l.toArray true).wp P Q a0 w0:=by
 refine wp_region_any hm ?_;refine fQ.wpAny (a0:=a0) (I:=I) hB a7 a6 _ _ _ _ ?_ ⟨⟨χ,λj oj _ hl=>(by rw[uk] at hl;cases hl),λt _ K=>by simp at K ⊢;simp[K]⟩,rfl,rfl,λ_ _=>rfl,?_⟩
 .have:((yL n).filter λi=>!(sk l.toArray.size false).getD i false)=yL n:=by
   rw[uu];intro i _;rw[uk];rfl
  rw[this];have il:n<=l.length:=by rcases hB.tail with h|h<;>omega
  simp;omega
 have e:(λj=>(sk l.toArray.size false).getD j false)=λ_=>false:=funext λj=>uk _ _
 rw[e];exact hI _
theorem Ud(l:List Oper):∀(is:List Nat)(b c:Array Φ),c.size=b.size->(∀t,(∀i,i∈is->Ae l i≠t)->c[t]?=b[t]?)->
 c=Ai l is (λi=>c.getD (Ae l i) Θ) b:=by
 intro is
 induction is with
 |nil=>intro b c V h;exact sU λt=>h t (λi A=>by cases A)
 |cons i is ih=>
  intro b c V h
  show c=Ai l is _ (b.setIfInBounds (Ae l i) (c.getD (Ae l i) Θ))
  refine ih _ c (by simpa using V) λt K=>?_
  by_cases fy:Ae l i=t
  .subst fy
   rcases tj (Ae l i) c.size with h'|h'
   .have:Ae l i<b.size:=ω
    simp[h',this]
   have:b.size<=Ae l i:=ω;simp[h',this]
  rw[wB fy]
  exact h t λj X=>by
   rcases xF.1 X with rfl|X
   .exact fy
   exact K j X
def Wg(l:List Oper)(n hc:Nat):Bool:=(yL n).all λi=>decide (Ae l i<hc)
theorem LH{l:List Oper}{n i:Nat}(hB:Iu l n=true)(A:i<n):Bo l i=some (Ae l i):=by
 simp only[Iu,yD] at hB;have:=yr.1 hB.1.1.1.2 i (yi.2 A);unfold Bo Ae;cases ho:l[i]? with
 |none=>rw[ho] at this;cases this
 |some o=>rw[ho] at this;obtain⟨d,hd⟩:=ve.1 this;simp[hd]
theorem LL{l:List Oper}{n i:Nat}{b:Array Φ}(hB:Iu l n=true)(A:i<n):Ec l b i=b[Ae l i]?.getD Θ:=by unfold Ec;rw[LH hB A]
theorem YC{l:List Oper}{n i:Nat}{o:Oper}(hB:Iu l n=true)(A:i<n)(ho:l[i]?=some o):o.dst=some (Ae l i):=by
 have h:=LH hB A;unfold Bo at h
 rwa [ho,vH] at h
theorem Uz{l:List Oper}{n hc:Nat}(hB:Iu l n=true)(hD:Wg l n hc=true):fS l n hc:=by
 have iy:=hB;simp only[Iu,yD,decide_eq_true_eq] at iy;obtain⟨⟨⟨⟨⟨⟨hn,V⟩,N⟩,Z⟩,gm⟩,f4⟩,bP⟩:=iy;refine⟨.inl ⟨hn,V,N,f4⟩,λi j A X eD=> .inr ?_,bP,λi A d hd=>?_⟩
 .have:=yr.1 (yr.1 gm i (yi.2 A)) j (yi.2 X)
  rw[LH hB A,LH hB X];intro e;simp[eD,yP e] at this
 have:=yr.1 hD i (yi.2 A)
 rw[LH hB A] at hd;cases hd;simpa using this
theorem KX{l:List Oper}{n:Nat}{b c:Array Φ}(hB:Iu l n=true)(h:∀t,(∀i,i<n->Bo l i≠some t)->c[t]?=b[t]?):∀t,(∀i,i<n->Ae l i≠t)->c[t]?=b[t]? :=
 λt K=>h t λi A e=>K i A (by rw[LH hB A] at e;exact yP e)
theorem Fj{Q:Exit->Act->Ω->Prop}{a0:Act}{l:List Oper}(n:Nat)(hm:P.follows .mixedOrders=true)(hB:Iu l n=true)
 (hc:Nat)(hN:a0.tmps.size=hc)(hD:Wg l n hc=true)(R:Nat->Φ->Ω->Prop)(G:(Nat->Bool)->Ω->Prop)(hG:G (λ_=>false) {w0 with drawn:=w0.drawn+1})
 (a7:∀i,i<n->∀o,l[i]?=some o->∀a w,eh (a.defers=a0.defers/\a.tmps.size=a0.tmps.size/\∀t,(∀i,i<n->Ae l i≠t)->a.tmps[t]?=a0.tmps[t]?)->
  eh (∀j,yk .any l.toArray i j=true->R j (a.tmps[Ae l j]?.getD Θ) w)->∀L:Nat->Bool,eh (L i=false/\(∀j,yk .any l.toArray i j=true->L j=true)/\∀j j',L j=true->yk .any l.toArray j j'=true->L j'=true)->G L w->
  ∀ht:Act->Ω->Prop,eh (∀v w',R i v w'->G (Hz L i) w'->(∀j u,j≠i->j<n->L j=true->R j u w->R j u w')->ht (a.put o.dst v) w')->AZ P l o a w ht Q)
 (a6:∀(vs:Nat->Φ) w,(∀i,i<n->R i (vs i) w)->∀L:Nat->Bool,(∀i,i<n->L i=true)->G L w->wpList P l.toArray Q (l.drop n) {a0 with tmps:=Ai l (yL n) vs a0.tmps} w):
 (vZ id l.toArray true).wp P Q a0 w0:=by
 subst hN;refine Mo hm (I:=λL vs w=>(∀i,i<n->L i=true->R i (vs i) w)/\G L w) (Uz hB hD) (λvs=>⟨λi _ h=>(by cases h),hG⟩) (λi A o ho a w J O h3 L h6 h7 h8 hI ht hK=>?_) (λa w J O h3 L hL hI=>?_)
 .refine a7 i A o ho a w (AA ⟨J,O,KX hB h3⟩) (AA λj X=>by rw[<-LL hB (h7 j X).2];exact hI.1 j (h7 j X).2 (h7 j X).1) L (AA ⟨h6,λj X=>(h7 j X).1,h8⟩) hI.2 ht (AA λv w' hR ju cu=>hK v w' λcm hv d9=>⟨λj X hl=>?_,ju⟩)
  by_cases e:j=i
  .subst e
   rw[hv];simp only[YC hB A ho];exact hR
  have bA:L j=true:=by unfold Hz at hl;rwa [if_neg e] at hl
  rw[d9 j X e];exact cu j _ e X bA (hI.1 j X bA)
 have e:=Ud l (yL n) a0.tmps a.tmps O (λt K=>KX hB h3 t λi A=>K i (yi.2 A))
 have:=a6 (λi=>a.tmps.getD (Ae l i) Θ) w (λi A=>by rw[tS,<-LL hB A];exact hI.1 i A (hL i A)) L hL hI.2;rw[<-e] at this;obtain⟨tm,df⟩:=a;dsimp only at J this;subst J;exact this
end
section
variable {P:Program} {l:List Oper} {i:Nat} {o o':Oper} {a a0:Act} {w:Ω} {ht:Act->Ω->Prop} {Q:Exit->Act->Ω->Prop} {R:Φ->Ω->Prop} {x y ai:Operand} {v u:Φ}
def gR(l:List Oper)(o:Oper)(a:Act):Prop:=xo o (yielded l.toArray a.tmps)=true
theorem gn(h:o.guard=none):gR l o a:=by simp[gR,xo,h]
theorem et(h:a.tmps[t]?.getD Θ=v):a.eval (.tmp t)=v:=Br h
theorem eb(h:a.tmps[t]?=a0.tmps[t]?):a.eval (.tmp t)=a0.tmps[t]?.getD Θ:=Br (by rw[h])
theorem eg(h:a.tmps[t]?=a0.tmps[t]?):a.tmps[t]?.getD Θ=a0.tmps[t]?.getD Θ:=by rw[h]
theorem bc{b D:Nat}(hG:Γ B w0 w)(aq:b<B)(h:w0.cell? (b,D)=some v):w.cell? (b,D)=some v:=(hG.cell (p:=⟨b,D,none⟩) aq).trans h
theorem dV(ho:l[i]?=some o)(e:l[i]?=some o')(hw:gR l o' a)(HK:eh (∀v w',R v w'->Γ w w w'->ht (a.put o.dst v) w'))(hr:(execOp a.eval o').run P w=.ok (.value v) w)(hR:R v w):AZ P l o a w ht Q:=by
 obtain rfl:=yP (ho.symm.trans e);exact⟨λ_=>by unfold uZ;rw[hr];exact HK _ _ hR (yN _ _),λh=>by rw[show xo o (yielded l.toArray a.tmps)=true from hw] at h;cases h⟩
theorem dM(ho:l[i]?=some o)(e:l[i]?=some o')(hw:gR l o' a)(HK:eh (∀v w',R v w'->Γ w w w'->ht (a.put o.dst v) w'))(d6:o'.op=.move x)(H:a.eval x=v)(hR:R v w):AZ P l o a w ht Q:=
 dV ho e hw HK (by unfold execOp;rw[d6,<-H];rfl) hR
theorem dF{s b D k:Nat}(ho:l[i]?=some o)(e:l[i]?=some o')(hw:gR l o' a)(HK:eh (∀v w',R v w'->Γ w.heap.size w w'->ht (a.put o.dst v) w'))(d6:o'.op=.fieldAddr s x f)(hf:∀b D w,(uY s (.pointer (some ⟨b,D,none⟩)) f).run P w=.ok (.pointer (some ⟨b,D+k,none⟩)) w)(H:a.eval x=.pointer (some ⟨b,D,none⟩))(hR:R (.pointer (some ⟨b,D+k,none⟩)) w):AZ P l o a w ht Q:=
 dV ho e hw HK (by unfold execOp;rw[d6];simp only[H,vo,hf,wk];rfl) hR
theorem dL{p:Addr}(ho:l[i]?=some o)(e:l[i]?=some o')(hw:gR l o' a)(HK:eh (∀v w',R v w'->Γ w w w'->ht (a.put o.dst v) w'))(d6:o'.op=.load t x)(H:a.eval x=.pointer (some p))(hl:(xL t (.pointer (some p))).run P w=.ok v w)(hR:R v w):AZ P l o a w ht Q:=
 dV ho e hw HK (by unfold execOp;rw[d6];simp only[H,vo,hl,wk];rfl) hR
end
section
variable {b D:Nat} {w:Ω} {v0 v1 v2 v3 v4 v5 v6 v7 v8 v9:Φ}
theorem cV:∀b D w,(uY 32 (.pointer (some ⟨b,D,none⟩)) 0).run prog w=.ok (.pointer (some ⟨b,D+0,none⟩)) w:=λb D w=>by go_simp
theorem fh:∀b D w,(uY 32 (.pointer (some ⟨b,D,none⟩)) 1).run prog w=.ok (.pointer (some ⟨b,D+4,none⟩)) w:=λb D w=>by go_simp
theorem fi:∀b D w,(uY 32 (.pointer (some ⟨b,D,none⟩)) 2).run prog w=.ok (.pointer (some ⟨b,D+5,none⟩)) w:=λb D w=>by go_simp
theorem fj:∀b D w,(uY 32 (.pointer (some ⟨b,D,none⟩)) 3).run prog w=.ok (.pointer (some ⟨b,D+6,none⟩)) w:=λb D w=>by go_simp
theorem GO(h:w.cell? (b,D)=some v0):(xL 3 (.pointer (some ⟨b,D,none⟩))).run prog w=.ok v0 w:=by go_simp
theorem iI(h:w.cell? (b,D)=some v0):(xL 4 (.pointer (some ⟨b,D,none⟩))).run prog w=.ok v0 w:=by go_simp
theorem aM(h:w.cell? (b,D)=some v0):(xL 9 (.pointer (some ⟨b,D,none⟩))).run prog w=.ok v0 w:=by go_simp
theorem GZ(h:w.cell? (b,D)=some v0):(xL 23 (.pointer (some ⟨b,D,none⟩))).run prog w=.ok v0 w:=by go_simp
theorem Gt(h:w.cell? (b,D)=some v0):(xL 24 (.pointer (some ⟨b,D,none⟩))).run prog w=.ok v0 w:=by go_simp
theorem P6(h:w.cell? (b,D)=some v0):(xL 25 (.pointer (some ⟨b,D,none⟩))).run prog w=.ok v0 w:=by go_simp
theorem Yb(h:w.cell? (b,D)=some v0):(xL 26 (.pointer (some ⟨b,D,none⟩))).run prog w=.ok v0 w:=by go_simp
theorem P7(h0:w.cell? (b,D)=some v0)(J:w.cell? (b,D+1)=some v1)(O:w.cell? (b,D+2)=some v2)(h3:w.cell? (b,D+3)=some v3):(xL 28 (.pointer (some ⟨b,D,none⟩))).run prog w=.ok (.agg #[v0,v1,v2,v3]) w:=by go_simp
theorem K5(h:w.cell? (b,D)=some v0):(xL 29 (.pointer (some ⟨b,D,none⟩))).run prog w=.ok v0 w:=by go_simp
theorem eU(h:w.cell? (b,D)=some v0):(xL 30 (.pointer (some ⟨b,D,none⟩))).run prog w=.ok v0 w:=by go_simp
theorem Vr(h0:w.cell? (b,D)=some v0)(J:w.cell? (b,D+1)=some v1)(O:w.cell? (b,D+2)=some v2)(h3:w.cell? (b,D+3)=some v3)(h4:w.cell? (b,D+4)=some v4)(h5:w.cell? (b,D+5)=some v5)(h6:w.cell? (b,D+6)=some v6)(h7:w.cell? (b,D+7)=some v7)(h8:w.cell? (b,D+8)=some v8):(xL 32 (.pointer (some ⟨b,D,none⟩))).run prog w=.ok (.agg #[v0,v1,v2,v3,v4,v5,v6,v7,v8]) w:=by go_simp
theorem f9(h0:w.cell? (b,D)=some v0)(J:w.cell? (b,D+1)=some v1)(O:w.cell? (b,D+2)=some v2)(h3:w.cell? (b,D+3)=some v3)(h4:w.cell? (b,D+4)=some v4)(h5:w.cell? (b,D+5)=some v5):(xL 34 (.pointer (some ⟨b,D,none⟩))).run prog w=.ok (.agg #[v0,v1,v2,v3,v4,v5]) w:=by go_simp
theorem Kt(h:w.cell? (b,D)=some v0):(xL 79 (.pointer (some ⟨b,D,none⟩))).run prog w=.ok v0 w:=by go_simp
theorem iD(h0:w.cell? (b,D)=some v0)(J:w.cell? (b,D+1)=some v1)(O:w.cell? (b,D+2)=some v2):(xL 87 (.pointer (some ⟨b,D,none⟩))).run prog w=.ok (.agg #[v0,v1,v2]) w:=by go_simp
theorem Oo(h:w.cell? (b,D)=some v0):(xL 95 (.pointer (some ⟨b,D,none⟩))).run prog w=.ok v0 w:=by go_simp
theorem gZ(h0:w.cell? (b,D)=some v0)(J:w.cell? (b,D+1)=some v1)(O:w.cell? (b,D+2)=some v2)(h3:w.cell? (b,D+3)=some v3)(h4:w.cell? (b,D+4)=some v4)(h5:w.cell? (b,D+5)=some v5)(h6:w.cell? (b,D+6)=some v6):(xL 97 (.pointer (some ⟨b,D,none⟩))).run prog w=.ok (.agg #[v0,v1,v2,v3,v4,v5,v6]) w:=by go_simp
theorem XG(h0:w.cell? (b,D)=some v0)(J:w.cell? (b,D+1)=some v1)(O:w.cell? (b,D+2)=some v2)(h3:w.cell? (b,D+3)=some v3):(xL 125 (.pointer (some ⟨b,D,none⟩))).run prog w=.ok (.agg #[v0,v1,v2,v3]) w:=by go_simp
end
section
variable {P:Program}
theorem Mp{Q:Exit->Act->Ω->Prop}{a0:Act}{l:List Oper}(n:Nat)(hm:P.follows .mixedOrders=true)(hB:Iu l n=true)
 (hc:Nat)(hN:a0.tmps.size=hc)(hD:Wg l n hc=true)(R:Nat->Φ->Ω->Prop)(br:∀i,i<n->∀v w w',Γ w.heap.size w w'->R i v w->R i v w')
 (a7:∀i,i<n->∀o,l[i]?=some o->∀a w,eh (a.defers=a0.defers/\a.tmps.size=a0.tmps.size/\∀t,(∀i,i<n->Ae l i≠t)->a.tmps[t]?=a0.tmps[t]?)->
  eh (∀j,yk .any l.toArray i j=true->R j (a.tmps[Ae l j]?.getD Θ) w)->Γ w0 w0 w->
  ∀ht:Act->Ω->Prop,eh (∀v w',R i v w'->Γ w w w'->ht (a.put o.dst v) w')->AZ P l o a w ht Q)
 (a6:∀(vs:Nat->Φ) w,(∀i,i<n->R i (vs i) w)->Γ w0 w0 w->wpList P l.toArray Q (l.drop n) {a0 with tmps:=Ai l (yL n) vs a0.tmps} w):
 (vZ id l.toArray true).wp P Q a0 w0:=by
 refine Fj n hm hB hc hN hD R (λ_ w=>Γ w0 w0 w) ⟨rfl,rfl,rfl,yF _,λ_ _=>rfl⟩ ?_ (λvs w J _ _ O=>a6 vs w J O);intro i A o ho a w Hb Hd L HL hG ht HK;exact a7 i A o ho a w Hb Hd hG ht (AA λv w' J O=>HK v w' J (hG.trans ⟨O.os,O.tape,O.output,O.size,λk E=>O.block k (yu E hG.size)⟩) (λj u _ X _ h=>br j X u w w' O h))
end
def Av(x:AX):List Φ:=[.int .i64 x.k,.string x.g,.int .i64 x.r]
theorem Az (x:AX):(Av x).length=3:=rfl
def AX.val(x:AX):Φ:=.agg #[x.k,x.g,x.r]
def AY(x:Ag):List Φ:=[.int .i64 x.e,.int .i64 x.p,.int .i64 x.f,.bool x.w]
theorem Cj (x:Ag):(AY x).length=4:=rfl
def Ag.val(x:Ag):Φ:=.agg #[x.e,x.p,x.f,x.w]
def A0(s:ByteArray):List Φ:=[.string s]
theorem Fi (s:ByteArray):(A0 s).length=1:=rfl
def HJ(v:Φ):List Φ:=[v]
theorem Eh (v:Φ):(HJ v).length=1:=rfl
def FM(p:Φ×Int):List Φ:=[p.1,.int .i64 p.2]
theorem Gb (p:Φ×Int):(FM p).length=2:=rfl
def BK{α:Type}(sz:Nat)(cs:α->List Φ)(w:Ω)(v:Φ)(xs:List α):Prop:=Rd w v sz xs.length (Ce cs xs)
def AQ{α:Type}(lo e sz:Nat)(cs:α->List Φ)(w:Ω)(v:Φ)(xs:List α):Prop:=w.ownsRow lo e sz v xs.length (Ce cs xs)
section
variable {α:Type} {sz lo e:Nat} {cs:α->List Φ} {w w':Ω} {v:Φ} {xs:List α}
theorem BK.below(h:BK sz cs w v xs)(Y:Γ w w w'):BK sz cs w' v xs:=Rd.below h Y
theorem AQ.rd(h:AQ lo e sz cs w v xs):BK sz cs w v xs:=Rd.of_owns h
theorem AQ.below(h:AQ lo e sz cs w v xs)(Y:Γ w w w'):AQ lo e sz cs w' v xs:=A8 h Y
theorem AQ.grown{row:Option Nat}(h:AQ lo e sz cs w v xs)(Z:w.grownBy w' row)(bb:v.ownBlock=none∨v.ownBlock≠row):AQ lo e sz cs w' v xs:=Au h Z bb
theorem AQ.lower(h:AQ lo e sz cs w v xs)(hl:lo'<=lo):AQ lo' e sz cs w v xs:=Bb h hl
theorem BK.shape(h:BK sz cs w v xs):∃a z,v=.slice a xs.length z/\xs.length<=z/\z<=maxLen:=Rd.shape h
theorem BK.open(V:∀x,(cs x).length=sz)(cT:0<sz)(h:BK sz cs w v xs):∃a z,v=.slice a xs.length z/\xs.length<=z/\z<=maxLen/\VE sz cs w a xs:=by obtain⟨a,z,rfl,J,O⟩:=Rd.shape h;exact⟨a,z,rfl,J,O,VE.of V cT h⟩
end
abbrev Bf(w:Ω)(v:Φ)(xs:List AX):Prop:=BK 3 Av w v xs
abbrev Do(w:Ω)(v:Φ)(xs:List Ag):Prop:=BK 4 AY w v xs
abbrev BY(w:Ω)(v:Φ)(xs:List ByteArray):Prop:=BK 1 A0 w v xs
def Gj{α β:Type}(R:α->β->Prop)(xs:List α)(ys:List β):Prop:=xs.length=ys.length/\∀(i:Nat) x y,xs[i]?=some x->ys[i]?=some y->R x y
theorem Gj.mono{α β:Type}{R S:α->β->Prop}{xs:List α}{ys:List β}(h:Gj R xs ys)(kD:∀x y,R x y->S x y):Gj S xs ys:=⟨h.1,λi x y H hy=>kD _ _ (h.2 i x y H hy)⟩
theorem Gj.nil{α β:Type}{R:α->β->Prop}:Gj R [] []:=⟨rfl,λi x y h=>by simp at h⟩
theorem Gj.snoc{α β:Type}{R:α->β->Prop}{xs:List α}{ys:List β}{x:α}{y:β}(h:Gj R xs ys)(kh:R x y):Gj R (xs++[x]) (ys++[y]):=by
 refine⟨by simp[h.1],λi a b ha Y=>?_⟩
 by_cases A:i<xs.length
 .rw[xl A] at ha
  rw[xl (by rw[<-h.1];exact A)] at Y;exact h.2 i a b ha Y
 have J:=(yA.1 ha).1
 simp at J;obtain rfl:i=xs.length:=ω;simp at ha;rw[h.1] at Y;simp at Y;subst ha Y;exact kh
def Bl(w:Ω)(v:Φ)(cx:List (List Int)):Prop:=∃vs,BK 1 HJ w v vs/\Gj (A1 w) vs cx
def Mu(w:Ω)(v:Φ)(kb:List (List ByteArray)):Prop:=∃vs,BK 1 HJ w v vs/\Gj (BY w) vs kb
def Gr(w:Ω)(v:Φ)(es:List Ez):Prop:=∃ps,BK 2 FM w v ps/\Gj (λp e=>BY w p.1 e.Pj/\p.2=e.root) ps es
def Ns(w:Ω)(m i e c:Φ)(k:AR):Prop:=Bl w m k.mem/\Bf w i k.Zh/\Gr w e k.Xr/\Do w c k.Xo
section
variable {w w':Ω} {v:Φ}
theorem Bl.below(h:Bl w v cx)(Y:Γ w w w'):Bl w' v cx:=by
 obtain⟨vs,J,O⟩:=h;exact⟨vs,J.below Y,O.mono λ_ _ h=>A1.below h Y⟩
theorem Gr.below{es:List Ez}(h:Gr w v es)(Y:Γ w w w'):Gr w' v es:=by
 obtain⟨ps,J,O⟩:=h;exact⟨ps,J.below Y,O.mono λ_ _ h=>⟨BK.below h.1 Y,h.2⟩⟩
theorem Ns.below{m i e:Φ}{k:AR}(h:Ns w m i e c k)(Y:Γ w w w'):Ns w' m i e c k:=⟨h.1.below Y,h.2.1.below Y,h.2.2.1.below Y,h.2.2.2.below Y⟩
end
def Dh(vs:List Φ):Prop:=∀(i j:Nat) u u',i≠j->vs[i]?=some u->vs[j]?=some u'->GP u u'
theorem Dh.nil:Dh []:=λi j u u' _ h=>by simp at h
theorem Dh.snoc{vs:List Φ}(h:Dh vs)(hv:∀u∈vs,GP u v):Dh (vs++[v]):=by
 intro i j u u' eD A X;have J:=(yA.1 A).1;have O:=(yA.1 X).1;simp at J O
 by_cases iP:i<vs.length
 .rw[xl iP] at A
  by_cases ek:j<vs.length
  .rw[xl ek] at X
   exact h i j u u' eD A X
  obtain rfl:j=vs.length:=ω;simp at X;subst X;exact hv u (yv A)
 obtain rfl:i=vs.length:=ω;simp at A;subst A;rw[xl ω] at X;exact(hv u' (yv X)).symm
def Ay(lo:Nat)(w:Ω)(v:Φ)(vs:List Φ)(cx:List (List Int)):Prop:=AQ lo 29 1 HJ w v vs/\Gj (AE lo w) vs cx/\Dh vs
def Da(lo:Nat)(w:Ω)(v:Φ)(ps:List (Φ×Int))(es:List Ez):Prop:=AQ lo 81 2 FM w v ps/\Gj (λp e=>AQ lo 9 1 A0 w p.1 e.Pj/\p.2=e.root) ps es/\Dh (ps.map (·.1))
theorem Ay.rd (h:Ay lo w v vs cx):Bl w v cx:=⟨vs,h.1.rd,h.2.1.mono λ_ _ h=>AE.rd h⟩
variable{Xr es:List Ez}
theorem Da.rd{ps:List (Φ×Int)}(h:Da lo w v ps es):Gr w v es:=⟨ps,h.1.rd,h.2.1.mono λ_ _ h=>⟨h.1.rd,h.2⟩⟩
theorem Ay.below (h:Ay lo w v vs cx)(Y:Γ w w w'):Ay lo w' v vs cx:=⟨h.1.below Y,h.2.1.mono λ_ _ h=>AE.below h Y,h.2.2⟩
theorem Da.below{ps:List (Φ×Int)}(h:Da lo w v ps es)(Y:Γ w w w'):Da lo w' v ps es:=⟨h.1.below Y,h.2.1.mono λ_ _ h=>⟨h.1.below Y,h.2⟩,h.2.2⟩
theorem Ay.lower (h:Ay lo w v vs cx)(hl:lo'<=lo):Ay lo' w v vs cx:=⟨h.1.lower hl,h.2.1.mono λ_ _ h=>Bb h hl,h.2.2⟩
theorem Da.lower{ps:List (Φ×Int)}(h:Da lo w v ps es)(hl:lo'<=lo):Da lo' w v ps es:=⟨h.1.lower hl,h.2.1.mono λ_ _ h=>⟨h.1.lower hl,h.2⟩,h.2.2⟩
theorem Ci{α:Type}(cs:α->List Φ)(w:Ω)(e sz:Nat):AQ w e sz cs (w.alloc (.cells #[] e)) (.slice w 0 0) []:=Co w e sz
def Du(lo:Nat)(w:Ω)(m i e c:Φ)(k:AR):Prop:=
 (∃vs,Ay lo w m vs k.mem)/\AQ lo 115 3 Av w i k.Zh/\(∃ps,Da lo w e ps k.Xr)/\AQ lo 125 4 AY w c k.Xo
theorem Du.rd{m i e:Φ}{k:AR}(h:Du lo w m i e c k):Ns w m i e c k:=⟨h.1.choose_spec.rd,h.2.1.rd,h.2.2.1.choose_spec.rd,h.2.2.2.rd⟩
theorem Du.below{m i e:Φ}{k:AR}(h:Du lo w m i e c k)(Y:Γ w w w'):Du lo w' m i e c k:=
 ⟨⟨_,h.1.choose_spec.below Y⟩,h.2.1.below Y,⟨_,h.2.2.1.choose_spec.below Y⟩,h.2.2.2.below Y⟩
theorem A7{xs:List Φ}(h:w.ownsRow lo e sz v n xs):∀g,v.ownBlock=some g->∃bn,w.heap[g]?=some (.cells bn e (0,0)):=by
 intro g Z
 rcases h.2 with⟨rfl,_⟩|⟨g',z,bn,rfl,_,hh,_⟩
 .simp[vh] at Z
 simp[vh] at Z
 subst Z;exact⟨bn,hh⟩
theorem BI{e' kc n':Nat}{xs ka:List Φ}(h:w.ownsRow lo e sz v n xs)(h':w.ownsRow lo' e' kc v' n' ka)(bb:e≠e'):GP v v':=by intro g Z cy;obtain⟨c1,J⟩:=A7 h g Z;obtain⟨c2,O⟩:=A7 h' g cy;rw[J] at O;simp at O;exact bb O.2
theorem AG{m i e:Φ}(h:w.heap[g]?=some (.cells #[m,i,e,c] t (0,0))):w.cell? g=some m/\w.cell? (g,1)=some i/\w.cell? (g,2)=some e/\w.cell? (g,3)=some c:=
 ⟨yy w g 0 _ _ _ h,yy w g 1 _ _ _ h,yy w g 2 _ _ _ h,yy w g 3 _ _ _ h⟩
theorem AI{cs:Array Φ}(h:w.heap[g]?=some (.cells cs t (0,0))):∀j,w.frozen? ⟨g,j,none⟩=false:=λj=>frozen_of_row w g j _ _ h
theorem AU{o:Obj}(h:w.heap[g]?=some o):g<w.heap.size:=(we.1 h).1
theorem AB{o:Obj}(h:w.heap[g]?=some o)(Y:Γ w w w'):w'.heap[g]?=some o:=(Y.block g (AU h)).trans h
theorem DF{m i e m' i' e' c':Φ}(h:w.heap[g]?=some (.cells #[m,i,e,c] t (0,0))):
 ((((w.setCell g m').setCell (g,1) i').setCell (g,2) e').setCell (g,3) c').heap[g]?=some (.cells #[m',i',e',c'] t (0,0)):=by
 have h0:=yE w g 0 _ t m' h;have J:=yE _ g 1 _ t i' h0;have O:=yE _ g 2 _ t e' J;have h3:=yE _ g 3 _ t c' O;simpa using h3
theorem Eu{T:Nat}{xs:List Φ}{bn:Array Φ}{fr:Nat×Nat}(h:w.ownsRow lo e sz v n xs)(Z:w.grownBy w' (some g))(Y:w.heap[g]?=some (.cells bn T fr))(bb:e≠T:=by decide):w'.ownsRow lo e sz v n xs:=by
 refine Au h Z ?_;cases hv:v.ownBlock with
 |none=>exact .inl rfl
 |some k=>
  refine .inr λhe=>?_
  simp only[Option.some.injEq] at he;subst he;obtain⟨c1,J⟩:=A7 h k hv;rw[J] at Y;simp at Y;exact bb Y.2.1
section
variable {w w':Ω} {lo g T:Nat} {v:Φ} {bn:Array Φ} {fr:Nat×Nat}
theorem AQ.yV{α:Type}{e sz:Nat}{cs:α->List Φ}{xs:List α}(h:AQ lo e sz cs w v xs)(Z:w.grownBy w' (some g))(Y:w.heap[g]?=some (.cells bn T fr))(bb:e≠T:=by decide):AQ lo e sz cs w' v xs:=Eu h Z Y bb
theorem Ay.yV(h:Ay lo w v vs cx)(Z:w.grownBy w' (some g))(Y:w.heap[g]?=some (.cells bn T fr))(J:29≠T:=by decide)(O:3≠T:=by decide):Ay lo w' v vs cx:=
 ⟨h.1.yV Z Y J,h.2.1.mono λ_ _ h=>Eu h Z Y O,h.2.2⟩
theorem Da.yV{ps:List (Φ×Int)}{es:List Ez}(h:Da lo w v ps es)(Z:w.grownBy w' (some g))(Y:w.heap[g]?=some (.cells bn T fr))(J:81≠T:=by decide)(O:9≠T:=by decide):Da lo w' v ps es:=
 ⟨h.1.yV Z Y J,h.2.1.mono λ_ _ h=>⟨h.1.yV Z Y O,h.2⟩,h.2.2⟩
end
theorem Ay.kept{u:Φ}{xs:List Φ}(h:Ay lo w v vs cx)(Z:w.grownBy w' u.ownBlock)(hu:w.ownsRow lo' e sz u n xs)(J:29≠e)(O:3≠e):Ay lo w' v vs cx:=
 ⟨Au h.1 Z (BI h.1 hu J).ne,h.2.1.mono λ_ _ h=>Au h Z (BI h hu O).ne,h.2.2⟩
theorem Ak (w:Ω)(g j:Nat)(u:Φ):w.grownBy (w.setCell (g,j) u) (some g):=⟨rfl,rfl,rfl,χ,λk _ E=>heap_setCell_other w ⟨g,j,none⟩ k u (λe=>E (by simp[e]))⟩
theorem As (h:w0.grownBy w (some g))(j:Nat)(u:Φ):w0.grownBy (w.setCell (g,j) u) (some g):=AO h (Ak w g j u)
section
variable {P:Program}
theorem Nl{Q:Exit->Act->Ω->Prop}{a0:Act}{l:List Oper}(n:Nat)(hm:P.follows .mixedOrders=true)(hB:Iu l n=true)
 (hc:Nat)(hN:a0.tmps.size=hc)(hD:Wg l n hc=true)(s:Nat)(row:Option Nat)(R:Nat->Φ->Ω->Prop)
 (br:∀i,i<n->i≠s->∀v w w',w0.grownBy w row->w.grownBy w' row->R i v w->R i v w')(f7:∀v w w',Γ w.heap.size w w'->R s v w->R s v w')
 (a7:∀i,i<n->i≠s->∀o,l[i]?=some o->∀a w,eh (a.defers=a0.defers/\a.tmps.size=a0.tmps.size/\∀t,(∀i,i<n->Ae l i≠t)->a.tmps[t]?=a0.tmps[t]?)->
  eh (∀j,yk .any l.toArray i j=true->R j (a.tmps[Ae l j]?.getD Θ) w)->w0.grownBy w row->
  ∀ht:Act->Ω->Prop,eh (∀v w',R i v w'->Γ w w w'->ht (a.put o.dst v) w')->AZ P l o a w ht Q)
 (fz:∀o,l[s]?=some o->∀a w,eh (a.defers=a0.defers/\a.tmps.size=a0.tmps.size/\∀t,(∀i,i<n->Ae l i≠t)->a.tmps[t]?=a0.tmps[t]?)->
  eh (∀j,yk .any l.toArray s j=true->R j (a.tmps[Ae l j]?.getD Θ) w)->Γ w0 w0 w->
  ∀ht:Act->Ω->Prop,eh (∀v w',R s v w'->w.grownBy w' row->ht (a.put o.dst v) w')->AZ P l o a w ht Q)
 (a6:∀(vs:Nat->Φ) w,(∀i,i<n->R i (vs i) w)->w0.grownBy w row->wpList P l.toArray Q (l.drop n) {a0 with tmps:=Ai l (yL n) vs a0.tmps} w):
 (vZ id l.toArray true).wp P Q a0 w0:=by
 refine Fj n hm hB hc hN hD R (λL w=>w0.grownBy w row/\(L s=false->Γ w0 w0 w)) ⟨AW (Ap (yN _ _) 1) _,λ_=>Ap (yN _ _) 1⟩ ?_ (λvs w J _ _ O=>a6 vs w J O.1);intro i A o ho a w Hb Hd L HL hG ht HK
 by_cases jU:i=s
 .subst jU
  exact fz o ho a w Hb Hd (hG.2 HL.1) ht (AA λv w' J O=>HK v w' J ⟨AO hG.1 O,λh=>by simp[Hz] at h⟩ (λj u X fc _ h=>br j fc X u w w' hG.1 O h))
 exact a7 i A jU o ho a w Hb Hd hG.1 ht (AA λv w' J O=>HK v w' J ⟨AO hG.1 (AW O _),λh=>(hG.2 (Dm h)).trans (O.mono hG.1.size)⟩ (λj u X fc _ h=>by
  by_cases jT:j=s
  .subst jT;exact f7 u w w' O h
  exact br j fc jT u w w' hG.1 (AW O _) h))
end
theorem dw{l:List Oper}{tmps:Array Φ}(hd:(l[g]?).bind (·.dst)=some d)(hv:tmps[d]?.getD Θ=Θ):yielded l.toArray tmps g=none:=by
 have h:(l.toArray[g]?).bind (·.dst)=some d:=by simpa using hd
 unfold yielded;rw[h,vH];cases H:tmps[d]? with
 |none=>rfl
 |some x=>rw[H] at hv;simp at hv;subst hv;rfl
variable{P:Program}
theorem AZ.un{l:List Oper}{a:Act}{ht:Act->Ω->Prop}{Q:Exit->Act->Ω->Prop}{b:Bool}(Z:o.guard=some (g,b))(hd:(l[g]?).bind (·.dst)=some d)(hv:a.tmps[d]?.getD Θ=Θ)(h:ht (a.put o.dst Θ) w):AZ P l o a w ht Q:=
 ⟨λhw=>by rw[xo,Z] at hw;simp only[dw hd hv] at hw;cases b<;>simp at hw,λ_=>h⟩
theorem Bt{row:Option Nat}{o:Nat}(h:w.grownBy w' row)(Y:b<w.heap.size)(bb:row≠some b):w'.cell? (b,o)=w.cell? (b,o):=vY (h.block b Y (λe=>bb e.symm))
def DV(l:List Oper)(is:List Nat)(vs:Nat->Φ)(b:Array Φ):Array Φ:=is.foldl (λb i=>match Bo l i with|some d=>b.setIfInBounds d (vs i)|none=>b) b
def ZI(l:List Oper)(hc:Nat):Bool:=
 ((yL l.length).all λi=>(yL l.length).all λj=>i==j||(Bo l i).isNone||Bo l i !=Bo l j)&&
 ((yL l.length).all λj=>match l[j]? with|some o=>o.after.all λe=>!um .any e||decide (e.on<j)|none=>false)&&
 ((yL l.length).all λi=>match Bo l i with|some d=>decide (d<hc)|none=>true)
section
variable {P:Program}
theorem Wk(l:List Oper):∀(is:List Nat)(b c:Array Φ),c.size=b.size->(∀t,(∀i,i∈is->Bo l i≠some t)->c[t]?=b[t]?)->c=DV l is (λi=>Ec l c i) b:=by
 intro is
 induction is with
 |nil=>intro b c V h;exact sU λt=>h t (λi A=>by cases A)
 |cons i is ih=>
  intro b c V h
  show c=DV l is _ (match Bo l i with|some d=>b.setIfInBounds d (Ec l c i)|none=>b)
  cases hd:Bo l i with
  |none=>
   exact ih b c V λt K=>h t λj X=>by
    rcases xF.1 X with rfl|X
    .rw[hd];exact(λe=>by cases e)
    exact K j X
  |some d=>
   refine ih _ c (by simpa using V) λt K=>?_
   by_cases fy:d=t
   .subst fy
    have hv:Ec l c i=c[d]?.getD Θ:=by unfold Ec;rw[hd]
    show c[d]?=(b.setIfInBounds d (Ec l c i))[d]?
    rw[hv]
    rcases tj d c.size with h'|h'
    .have:d<b.size:=ω
     simp[h',this]
    have:b.size<=d:=ω;simp[h',this]
   show c[t]?=(b.setIfInBounds d (Ec l c i))[t]?
   rw[wB fy];exact h t λj X=>by
    rcases xF.1 X with rfl|X
    .rw[hd];exact λe=>fy (yP e)
    exact K j X
theorem Tl{Q:Exit->Act->Ω->Prop}{a0:Act}{l:List Oper}(n:Nat)(hm:P.follows .mixedOrders=true)
 (hc:Nat)(hN:a0.tmps.size=hc)(hB:ZI l hc=true)(hn:l.length=n)(S:Nat->Bool)(R:(Nat->Bool)->Nat->Φ->Ω->Prop)(G:(Nat->Bool)->Ω->Prop)
 (hG:G (λ_=>false) {w0 with drawn:=w0.drawn+1})
 (br:∀j,j<n->∀L i v w w',i<n->S i=false->L i=false->L j=true->Γ w.heap.size w w'->R L j v w->R (Hz L i) j v w')
 (em:∀L i w w',i<n->S i=false->L i=false->Γ w.heap.size w w'->G L w->G (Hz L i) w')
 (a7:∀i,i<n->S i=false->∀o,l[i]?=some o->∀a w,eh (a.defers=a0.defers/\a.tmps.size=a0.tmps.size/\∀t,(∀i,i<n->Bo l i≠some t)->a.tmps[t]?=a0.tmps[t]?)->
  ∀L:Nat->Bool,eh (∀j,L j=true->j<n->R L j (Ec l a.tmps j) w)->eh (L i=false/\(∀j,yk .any l.toArray i j=true->L j=true)/\∀j j',L j=true->yk .any l.toArray j j'=true->L j'=true)->G L w->
  ∀ht:Act->Ω->Prop,eh (∀v w',R (Hz L i) i (match o.dst with|some _=>v|none=>Θ) w'->Γ w w w'->ht (a.put o.dst v) w')->AZ P l o a w ht Q)
 (ef:∀i,i<n->S i=true->∀o,l[i]?=some o->∀a w,eh (a.defers=a0.defers/\a.tmps.size=a0.tmps.size/\∀t,(∀i,i<n->Bo l i≠some t)->a.tmps[t]?=a0.tmps[t]?)->
  ∀L:Nat->Bool,eh (∀j,L j=true->j<n->R L j (Ec l a.tmps j) w)->eh (L i=false/\(∀j,yk .any l.toArray i j=true->L j=true)/\∀j j',L j=true->yk .any l.toArray j j'=true->L j'=true)->G L w->
  ∀ht:Act->Ω->Prop,eh (∀v w',R (Hz L i) i (match o.dst with|some _=>v|none=>Θ) w'->G (Hz L i) w'->(∀j,j≠i->j<n->L j=true->R L j (Ec l a.tmps j) w->R (Hz L i) j (Ec l a.tmps j) w')->ht (a.put o.dst v) w')->AZ P l o a w ht Q)
 (a6:∀(vs:Nat->Φ) w,∀L:Nat->Bool,(∀i,i<n->L i=true)->(∀i,i<n->R L i (vs i) w)->G L w->wpList P l.toArray Q [] {a0 with tmps:=DV l (yL n) vs a0.tmps} w):
 (vZ id l.toArray true).wp P Q a0 w0:=by
 subst hn;subst hN;have iy:=hB;simp only[ZI,yD] at iy;obtain⟨⟨gm,bP⟩,b4⟩:=iy;refine Mo hm (n:=l.length) (I:=λL vs w=>(∀i,i<l.length->L i=true->R L i (vs i) w)/\G L w) ⟨.inr rfl,λi j A X eD=>?_,bP,λi A d hd=>?_⟩ (λvs=>⟨λi _ h=>(by cases h),hG⟩) (λi A o ho a w J O h3 L h6 h7 h8 hI ht hK=>?_) (λa w J O h3 L hL hI=>?_)
 .have:=yr.1 (yr.1 gm i (yi.2 A)) j (yi.2 X)
  simp only[xM,beq_iff_eq,eD,false_or,bne_iff_ne,Option.isNone_iff_eq_none] at this;exact this
 .have:=yr.1 b4 i (yi.2 A)
  rw[hd] at this;simpa using this
 .have g9:∀{v w'},R (Hz L i) i (match o.dst with|some _=>v|none=>Θ) w'->(∀j,j≠i->j<l.length->L j=true->R L j (Ec l a.tmps j) w->R (Hz L i) j (Ec l a.tmps j) w')->∀cm:Nat->Φ,cm i=(match o.dst with|some _=>v|none=>Θ)->(∀j,j<l.length->j≠i->cm j=Ec l a.tmps j)->∀j,j<l.length->Hz L i j=true->R (Hz L i) j (cm j) w':=by
   intro v w' hR E cm hv d9 j X hl
   by_cases e:j=i
   .subst e
    rw[hv];exact hR
   have bA:L j=true:=by unfold Hz at hl;rwa [if_neg e] at hl
   rw[d9 j X e];exact E j e X bA (hI.1 j X bA)
  cases hS:S i with
  |false=>exact a7 i A hS o ho a w (AA ⟨J,O,h3⟩) L (AA λj X fc=>hI.1 j fc X) (AA ⟨h6,λj X=>(h7 j X).1,h8⟩) hI.2 ht (AA λv w' hR Y=>hK v w' λcm hv d9=>⟨g9 hR (λj g1 fc iO hu=>br j fc L i _ w w' A hS h6 iO Y hu) cm hv d9,em L i w w' A hS h6 Y hI.2⟩)
  |true=>exact ef i A hS o ho a w (AA ⟨J,O,h3⟩) L (AA λj X fc=>hI.1 j fc X) (AA ⟨h6,λj X=>(h7 j X).1,h8⟩) hI.2 ht (AA λv w' hR ju E=>hK v w' λcm hv d9=>⟨g9 hR E cm hv d9,ju⟩)
 have e:=Wk l (yL l.length) a0.tmps a.tmps O (λt K=>h3 t λi A=>K i (yi.2 A))
 have:=a6 (λi=>Ec l a.tmps i) w L hL (λi A=>hI.1 i A (hL i A)) hI.2;rw[<-e] at this;rw[List.drop_length];obtain⟨tm,df⟩:=a;dsimp only at J this;subst J;exact this
end
inductive Vx where
 |p (b o:Nat)
 |i (x:Int)
 |s (b n c:Nat)
 |b (x:Bool)
 |t (x:ByteArray)
 |v (x:Φ)
 |a (x:Array Φ)
 |u
 |z
def Vx.val:Vx->Option Φ
 | .p x y=>some (.pointer (some ⟨x,y,none⟩))
 | .i x=>some (.int .i64 x)
 | .s x y k=>some (.slice x y k)
 | .b x=>some (.bool x)
 | .t x=>some (.string x)
 | .v x=>some x
 | .a x=>some (.agg x)
 | .u=>some Θ
 | .z=>none
def Ej(L:List Vx)(i:Nat):Option Φ:=(L[i]?).bind Vx.val
def RV(L:List Vx)(R:Nat->Φ->Ω->Prop)(i:Nat)(v:Φ)(w:Ω):Prop:=
 match Ej L i with
 |some x=>v=x
 |none=>R i v w
variable{L:List Vx}
theorem RV.of{R:Nat->Φ->Ω->Prop}(h:Ej L i=some v):RV L R i v w:=by unfold RV;rw[h]
theorem RV.eq{R:Nat->Φ->Ω->Prop}{x:Φ}(h:RV L R i v w)(e:Ej L i=some x):v=x:=by unfold RV at h;rw[e] at h;exact h
theorem RV.mono{R:Nat->Φ->Ω->Prop}(hR:R i v w->R i v w')(h:RV L R i v w):RV L R i v w':=by
 unfold RV at h ⊢;cases e:Ej L i with
 |some x=>rw[e] at h;exact h
 |none=>rw[e] at h;exact hR h
def WF(l:List Oper)(n t:Nat):Option Nat:=(yL n).find? λj=>Ae l j==t
def dd(l:List Oper)(n i:Nat)(L:List Vx)(a0 a:Act):Operand->Φ
 | .tmp t=>
  match WF l n t with
  |some j=>
   match yk .any l.toArray i j with
   |true=>match Ej L j with
    |some x=>x
    |none=>a.eval (.tmp t)
   |false=>a.eval (.tmp t)
  |none=>a0.tmps[t]?.getD Θ
 |x=>a.eval x
def aw(l:List Oper)(n:Nat)(L:List Vx)(a0:Act):Operand->Φ
 | .tmp t=>
  match WF l n t with
  |some j=>(Ej L j).getD Θ
  |none=>a0.tmps[t]?.getD Θ
 |_=>Θ
def L0(l:List Oper)(i:Nat)(L:List Vx)(o:Oper):Option Bool:=
 match o.guard with
 |none=>some true
 |some (g,b)=>
  match yk .any l.toArray i g with
  |true=>
   match(l[g]?).bind (·.dst) with
   |some _=>
    match Ej L g with
    |some (.bool c)=>some (c==b)
    |some (.tuple _)=>some false
    |_=>none
   |none=>none
  |false=>none
section
variable {P:Program} {l:List Oper} {n i:Nat} {o o':Oper} {a a0:Act} {w:Ω} {ht:Act->Ω->Prop} {Q:Exit->Act->Ω->Prop} {L:List Vx} {R:Nat->Φ->Ω->Prop} {v:Φ}
theorem TM(Hb:eh (a.defers=a0.defers/\a.tmps.size=a0.tmps.size/\∀t,(∀i,i<n->Ae l i≠t)->a.tmps[t]?=a0.tmps[t]?))(Hd:eh (∀j,yk .any l.toArray i j=true->RV L R j (a.tmps[Ae l j]?.getD Θ) w)):dd l n i L a0 a=a.eval:=by
 funext x
 cases x with
 |tmp t=>
  show(match WF l n t with|some j=>_|none=>_)=_
  cases e:WF l n t with
  |none=>
   simp only;have h:∀j,j<n->Ae l j≠t:=by intro j X O;have:=sM.1 e j (yi.2 X);simp[O] at this
   exact(Br (by rw[Hb.2.2 t h])).symm
  |some j=>
   simp only;have O:Ae l j=t:=by have:=r9 e;simpa using this
   cases e3:yk .any l.toArray i j with
   |false=>rfl
   |true=>
    simp only;cases e4:Ej L j with
    |none=>rfl
    |some y=>simp only;have:=(Hd j e3).eq e4;rw[O] at this;exact(Br this).symm
 |const v=>rfl
 |global g=>rfl
 |func f=>rfl
theorem LM{c:Bool}(Hd:eh (∀j,yk .any l.toArray i j=true->RV L R j (a.tmps[Ae l j]?.getD Θ) w))(h:L0 l i L o=some c):xo o (yielded l.toArray a.tmps)=c:=by
 unfold L0 at h;unfold xo;cases e:o.guard with
 |none=>rw[e] at h;simp only at h ⊢;exact yP h
 |some gb=>
  obtain⟨g,b⟩:=gb;rw[e] at h;simp only at h ⊢;cases e1:yk .any l.toArray i g with
  |false=>rw[e1] at h;cases h
  |true=>
   rw[e1] at h;simp only at h;cases e2:(l[g]?).bind (·.dst) with
   |none=>rw[e2] at h;cases h
   |some d=>
    rw[e2] at h;simp only at h;have hd:Ae l g=d:=by unfold Ae;rw[e2];rfl
    have O:(l.toArray[g]?).bind (·.dst)=some d:=by simpa using e2
    cases e3:Ej L g with
    |none=>rw[e3] at h;cases h
    |some x=>
     have h3:=(Hd g e1).eq e3;rw[hd] at h3;rw[e3] at h;cases x with
     |bool c9=>have hv:=yP h;rw[Pa e2 h3,<-hv];cases c9<;>cases b<;>rfl
     |tuple y=>
      have hv:=yP h;rw[<-hv];unfold yielded;rw[O,vH];cases H:a.tmps[d]? with
      |none=>rfl
      |some y=>rw[H] at h3;simp only[sK] at h3;subst h3;rfl
     |_=>cases h
theorem sP(ho:l[i]?=some o)(HK:eh (∀v w',RV L R i v w'->Γ w w w'->ht (a.put o.dst v) w'))(Hb:eh (a.defers=a0.defers/\a.tmps.size=a0.tmps.size/\∀t,(∀i,i<n->Ae l i≠t)->a.tmps[t]?=a0.tmps[t]?))(Hd:eh (∀j,yk .any l.toArray i j=true->RV L R j (a.tmps[Ae l j]?.getD Θ) w))
 (e:l[i]?=some o':=by rfl)(hv:Ej L i=some v:=by rfl)(hw:L0 l i L o'=some true:=by kernel_rfl)(hr:(execOp (dd l n i L a0 a) o').run P w=.ok (.value v) w:=by kernel_rfl):AZ P l o a w ht Q:=
 dV ho e (LM Hd hw) HK (by rw[<-TM Hb Hd];exact hr) (RV.of hv)
theorem sL{t:Nat}{x:Operand}{p:Φ}(ho:l[i]?=some o)(HK:eh (∀v w',RV L R i v w'->Γ w w w'->ht (a.put o.dst v) w'))(Hb:eh (a.defers=a0.defers/\a.tmps.size=a0.tmps.size/\∀t,(∀i,i<n->Ae l i≠t)->a.tmps[t]?=a0.tmps[t]?))(Hd:eh (∀j,yk .any l.toArray i j=true->RV L R j (a.tmps[Ae l j]?.getD Θ) w))
 (e:l[i]?=some o':=by rfl)(d6:o'.op=.load t x:=by rfl)(hp:aw l n L a0 x=p:=by rfl)(hq:dd l n i L a0 a x=aw l n L a0 x:=by kernel_rfl)(hv:Ej L i=some v:=by rfl)(hw:L0 l i L o'=some true:=by kernel_rfl)(hl:(xL t p).run P w=.ok v w):AZ P l o a w ht Q:=
 dV ho e (LM Hd hw) HK (by rw[<-TM Hb Hd];unfold execOp;rw[d6];simp only[hq.trans hp,vo,hl,wk];rfl) (RV.of hv)
theorem sB(ho:l[i]?=some o)(HK:eh (∀v w',RV L R i v w'->Γ w w w'->ht (a.put o.dst v) w'))(Hd:eh (∀j,yk .any l.toArray i j=true->RV L R j (a.tmps[Ae l j]?.getD Θ) w))
 (e:l[i]?=some o':=by rfl)(hv:Ej L i=some Θ:=by rfl)(hw:L0 l i L o'=some false:=by kernel_rfl):AZ P l o a w ht Q:=by
 obtain rfl:=yP (ho.symm.trans e);exact⟨λh=>absurd ((LM Hd hw).symm.trans h) ψ,λ_=>HK _ _ (RV.of hv) (yN _ _)⟩
theorem sC{F:FuncId}{vs:Array Φ}{Qc:Ending->Ω->Prop}(ho:l[i]?=some o)(HK:eh (∀v w',RV L R i v w'->Γ w w w'->ht (a.put o.dst v) w'))(Hb:eh (a.defers=a0.defers/\a.tmps.size=a0.tmps.size/\∀t,(∀i,i<n->Ae l i≠t)->a.tmps[t]?=a0.tmps[t]?))(Hd:eh (∀j,yk .any l.toArray i j=true->RV L R j (a.tmps[Ae l j]?.getD Θ) w))
 (N:Ξ P F vs w Qc)(hq:∀e w',Qc e w'->∃v,e=.returned v/\RV L R i v w'/\Γ w w w')
 (e:l[i]?=some o':=by rfl)(hw:L0 l i L o'=some true:=by kernel_rfl)(hr:(execOp (dd l n i L a0 a) o').run P w=.ok (.enter F vs) w:=by kernel_rfl):AZ P l o a w ht Q:=by
 obtain rfl:=yP (ho.symm.trans e);refine⟨λ_=>?_,λh=>absurd ((LM Hd hw).symm.trans h) ψ⟩;unfold uZ;rw[<-TM Hb Hd,hr,tH];refine N.mono ?_;intro x w' h;obtain⟨v,rfl,J,O⟩:=hq x w' h;exact HK v w' J O
theorem sD{F:FuncId}{vs:Array Φ}(ho:l[i]?=some o)(HK:eh (∀v w',RV L R i v w'->Γ w w w'->ht (a.put o.dst v) w'))(Hb:eh (a.defers=a0.defers/\a.tmps.size=a0.tmps.size/\∀t,(∀i,i<n->Ae l i≠t)->a.tmps[t]?=a0.tmps[t]?))(Hd:eh (∀j,yk .any l.toArray i j=true->RV L R j (a.tmps[Ae l j]?.getD Θ) w))
 (N:Ξ P F vs w λe w'=>e=.returned v/\Γ w w w')(e:l[i]?=some o':=by rfl)(hv:Ej L i=some v:=by rfl)(hw:L0 l i L o'=some true:=by kernel_rfl)(hr:(execOp (dd l n i L a0 a) o').run P w=.ok (.enter F vs) w:=by kernel_rfl):AZ P l o a w ht Q:=
 sC ho HK Hb Hd N (λ_ _ h=>⟨v,h.1,RV.of hv,h.2⟩) e hw hr
theorem sE{F:FuncId}{vs:Array Φ}(ho:l[i]?=some o)(HK:eh (∀v w',RV L R i v w'->Γ w w w'->ht (a.put o.dst v) w'))(Hb:eh (a.defers=a0.defers/\a.tmps.size=a0.tmps.size/\∀t,(∀i,i<n->Ae l i≠t)->a.tmps[t]?=a0.tmps[t]?))(Hd:eh (∀j,yk .any l.toArray i j=true->RV L R j (a.tmps[Ae l j]?.getD Θ) w))
 (N:Ξ P F vs w λe w'=>e=.returned v/\w=w')(e:l[i]?=some o':=by rfl)(hv:Ej L i=some v:=by rfl)(hw:L0 l i L o'=some true:=by kernel_rfl)(hr:(execOp (dd l n i L a0 a) o').run P w=.ok (.enter F vs) w:=by kernel_rfl):AZ P l o a w ht Q:=
 sC ho HK Hb Hd N (λ_ _ h=>⟨v,h.1,RV.of hv,h.2▸yN _ _⟩) e hw hr
theorem sI{t b D ln cp:Nat}{x y:Operand}{j:Int}(ho:l[i]?=some o)(HK:eh (∀v w',RV L R i v w'->Γ w w w'->ht (a.put o.dst v) w'))(Hb:eh (a.defers=a0.defers/\a.tmps.size=a0.tmps.size/\∀t,(∀i,i<n->Ae l i≠t)->a.tmps[t]?=a0.tmps[t]?))(Hd:eh (∀j,yk .any l.toArray i j=true->RV L R j (a.tmps[Ae l j]?.getD Θ) w))
 (e:l[i]?=some o':=by rfl)(d6:o'.op=.indexAddr t x y:=by rfl)(hp:aw l n L a0 x=.slice (some ⟨b,D,none⟩) ln cp:=by rfl)(hy:aw l n L a0 y=.int .i64 j:=by rfl)(kl:dd l n i L a0 a x=aw l n L a0 x:=by kernel_rfl)(ke:dd l n i L a0 a y=aw l n L a0 y:=by kernel_rfl)(hv:Ej L i=some v:=by rfl)(hw:L0 l i L o'=some true:=by kernel_rfl)(hr:(Instr.indexAt t (.slice (some ⟨b,D,none⟩) ln cp) (.int .i64 j)).run P w=.ok v w):AZ P l o a w ht Q:=
 dV ho e (LM Hd hw) HK (by rw[<-TM Hb Hd];unfold execOp;rw[d6];simp only[kl.trans hp,ke.trans hy,vo,hr,wk];rfl) (RV.of hv)
theorem Ac(n hc:Nat)(L:List Vx)(R:Nat->Φ->Ω->Prop)
 (a7:∀i,i<n->∀o,l[i]?=some o->∀a w,eh (a.defers=a0.defers/\a.tmps.size=a0.tmps.size/\∀t,(∀i,i<n->Ae l i≠t)->a.tmps[t]?=a0.tmps[t]?)->
  eh (∀j,yk .any l.toArray i j=true->RV L R j (a.tmps[Ae l j]?.getD Θ) w)->Γ w0 w0 w->
  ∀ht:Act->Ω->Prop,eh (∀v w',RV L R i v w'->Γ w w w'->ht (a.put o.dst v) w')->AZ P l o a w ht Q)
 (a6:∀(vs:Nat->Φ) w,(∀i,i<n->RV L R i (vs i) w)->Γ w0 w0 w->wpList P l.toArray Q (l.drop n) {a0 with tmps:=Ai l (yL n) vs a0.tmps} w)
 (hm:P.follows .mixedOrders=true:=by kernel_rfl)(hB:Iu l n=true:=by kernel_rfl)(hN:a0.tmps.size=hc:=by rfl)(hD:Wg l n hc=true:=by kernel_rfl)
 (br:∀i,i<n->∀v w w',Γ w.heap.size w w'->R i v w->R i v w':=by exact λ_ _ _ _ _ _ h=>h):(vZ id l.toArray true).wp P Q a0 w0:=
 Mp n hm hB hc hN hD (RV L R) (λi A v w w' Y h=>RV.mono (br i A v w w' Y) h) a7 a6
theorem A9(n hc:Nat)(L:List Vx)(R:Nat->Φ->Ω->Prop)
 (a7:∀i,i<n->∀o,l[i]?=some o->∀a w,eh (a.defers=a0.defers/\a.tmps.size=a0.tmps.size/\∀t,(∀i,i<n->Ae l i≠t)->a.tmps[t]?=a0.tmps[t]?)->
  eh (∀j,yk .any l.toArray i j=true->RV L R j (a.tmps[Ae l j]?.getD Θ) w)->Γ w0 w0 w->
  ∀ht:Act->Ω->Prop,eh (∀v w',RV L R i v w'->Γ w w w'->ht (a.put o.dst v) w')->AZ P l o a w ht Q)
 (br:∀i,i<n->∀v w w',Γ w.heap.size w w'->R i v w->R i v w')
 (a6:∀(vs:Nat->Φ) w,(∀i,i<n->RV L R i (vs i) w)->Γ w0 w0 w->wpList P l.toArray Q (l.drop n) {a0 with tmps:=Ai l (yL n) vs a0.tmps} w)
 (hm:P.follows .mixedOrders=true:=by kernel_rfl)(hB:Iu l n=true:=by kernel_rfl)(hN:a0.tmps.size=hc:=by rfl)(hD:Wg l n hc=true:=by kernel_rfl):(vZ id l.toArray true).wp P Q a0 w0:=
 Mp n hm hB hc hN hD (RV L R) (λi A v w w' Y h=>RV.mono (br i A v w w' Y) h) a7 a6
end
def RF(hs:List Vx)(R:(Nat->Bool)->Nat->Φ->Ω->Prop)(L:Nat->Bool)(i:Nat)(v:Φ)(w:Ω):Prop:=
 match Ej hs i with
 |some x=>v=x
 |none=>R L i v w
section
variable {P:Program} {l:List Oper} {n i:Nat} {o o':Oper} {a a0:Act} {w:Ω} {ht:Act->Ω->Prop} {Q:Exit->Act->Ω->Prop} {hs:List Vx} {R:(Nat->Bool)->Nat->Φ->Ω->Prop} {L:Nat->Bool} {v:Φ}
theorem RF.of(h:Ej hs i=some v):RF hs R L i v w:=by unfold RF;rw[h]
theorem RF.eq{x:Φ}(h:RF hs R L i v w)(e:Ej hs i=some x):v=x:=by unfold RF at h;rw[e] at h;exact h
theorem RF.mono{L':Nat->Bool}{w':Ω}(hR:R L i v w->R L' i v w')(h:RF hs R L i v w):RF hs R L' i v w':=by
 unfold RF at h ⊢;cases e:Ej hs i with
 |some x=>rw[e] at h;exact h
 |none=>rw[e] at h;exact hR h
def ZX(l:List Oper)(n t:Nat):Option Nat:=(yL n).find? λj=>Bo l j==some t
def Ys(l:List Oper)(n i:Nat)(hs:List Vx)(a0 a:Act):Operand->Φ
 | .tmp t=>
  match ZX l n t with
  |some j=>
   match yk .any l.toArray i j with
   |true=>match Ej hs j with
    |some x=>x
    |none=>a.eval (.tmp t)
   |false=>a.eval (.tmp t)
  |none=>a0.tmps[t]?.getD Θ
 |x=>a.eval x
def gg(l:List Oper)(n:Nat)(hs:List Vx)(a0:Act):Operand->Φ
 | .tmp t=>
  match ZX l n t with
  |some j=>(Ej hs j).getD Θ
  |none=>a0.tmps[t]?.getD Θ
 |_=>Θ
def Qp(l:List Oper)(n i:Nat)(hs:List Vx)(o:Oper):Option Bool:=
 match o.guard with
 |none=>some true
 |some (g,b)=>
  match yk .any l.toArray i g&&decide (g<n) with
  |true=>
   match(l[g]?).bind (·.dst) with
   |some _=>
    match Ej hs g with
    |some (.bool c)=>some (c==b)
    |some (.tuple _)=>some false
    |_=>none
   |none=>none
  |false=>none
abbrev bd(l:List Oper)(n:Nat)(a0 a:Act):Prop:=a.defers=a0.defers/\a.tmps.size=a0.tmps.size/\∀t,(∀i,i<n->Bo l i≠some t)->a.tmps[t]?=a0.tmps[t]?
abbrev Zg(l:List Oper)(n:Nat)(hs:List Vx)(R:(Nat->Bool)->Nat->Φ->Ω->Prop)(L:Nat->Bool)(a:Act)(w:Ω):Prop:=∀j,L j=true->j<n->RF hs R L j (Ec l a.tmps j) w
abbrev ZG(l:List Oper)(i:Nat)(L:Nat->Bool):Prop:=L i=false/\(∀j,yk .any l.toArray i j=true->L j=true)/\∀j j',L j=true->yk .any l.toArray j j'=true->L j'=true
abbrev fT(hs:List Vx)(R:(Nat->Bool)->Nat->Φ->Ω->Prop)(L:Nat->Bool)(i:Nat)(o:Oper)(a:Act)(w:Ω)(ht:Act->Ω->Prop):Prop:=∀v w',RF hs R (Hz L i) i (match o.dst with|some _=>v|none=>Θ) w'->Γ w w w'->ht (a.put o.dst v) w'
theorem RD(Hb:eh (bd l n a0 a))(Hd:eh (Zg l n hs R L a w))(HL:eh (ZG l i L)):Ys l n i hs a0 a=a.eval:=by
 funext x
 cases x with
 |tmp t=>
  show(match ZX l n t with|some j=>_|none=>_)=_
  cases e:ZX l n t with
  |none=>
   simp only;have h:∀j,j<n->Bo l j≠some t:=by intro j X O;have:=sM.1 e j (yi.2 X);simp[O] at this
   exact(Br (by rw[Hb.2.2 t h])).symm
  |some j=>
   simp only;have O:Bo l j=some t:=by have:=r9 e;simpa using this
   have X:j<n:=yi.1 (List.mem_of_find?_eq_some e);cases e3:yk .any l.toArray i j with
   |false=>rfl
   |true=>
    simp only;cases e4:Ej hs j with
    |none=>rfl
    |some y=>simp only;have:=(Hd j (HL.2.1 j e3) X).eq e4;unfold Ec at this;rw[O] at this;exact(Br this).symm
 |const v=>rfl
 |global g=>rfl
 |func f=>rfl
theorem PX{c:Bool}(Hd:eh (Zg l n hs R L a w))(HL:eh (ZG l i L))(h:Qp l n i hs o=some c):xo o (yielded l.toArray a.tmps)=c:=by
 unfold Qp at h;unfold xo;cases e:o.guard with
 |none=>rw[e] at h;simp only at h ⊢;exact yP h
 |some gb=>
  obtain⟨g,b⟩:=gb;rw[e] at h;simp only at h ⊢;cases e1:(yk .any l.toArray i g&&decide (g<n)) with
  |false=>rw[e1] at h;cases h
  |true=>
   rw[e1] at h;simp only at h;obtain⟨e5,e6⟩:=Bool.and_eq_true_iff.1 e1;have e6:=of_decide_eq_true e6;cases e2:(l[g]?).bind (·.dst) with
   |none=>rw[e2] at h;cases h
   |some d=>
    rw[e2] at h;simp only at h;have O:(l.toArray[g]?).bind (·.dst)=some d:=by simpa using e2
    cases e3:Ej hs g with
    |none=>rw[e3] at h;cases h
    |some x=>
     have h3:=(Hd g (HL.2.1 g e5) e6).eq e3;unfold Ec at h3;rw[show Bo l g=some d from e2] at h3;simp only at h3;rw[e3] at h;cases x with
     |bool c9=>have hv:=yP h;rw[Pa e2 h3,<-hv];cases c9<;>cases b<;>rfl
     |tuple y=>
      have hv:=yP h;rw[<-hv];unfold yielded;rw[O,vH];cases H:a.tmps[d]? with
      |none=>rfl
      |some y=>rw[H] at h3;simp only[sK] at h3;subst h3;rfl
     |_=>cases h
theorem iG(ho:l[i]?=some o)(e:l[i]?=some o')(hw:xo o' (yielded l.toArray a.tmps)=true)(HK:eh (fT hs R L i o a w ht))(hv:Ej hs i=some v)(hd:o'.dst.isSome=true)(hr:(execOp a.eval o').run P w=.ok (.value v) w):AZ P l o a w ht Q:=by
 obtain rfl:=yP (ho.symm.trans e);refine⟨λ_=>?_,λh=>by rw[hw] at h;cases h⟩;unfold uZ;rw[hr,Oper.upon_value];obtain⟨d,O⟩:=ve.1 hd;exact HK _ _ (by rw[O];exact RF.of hv) (yN _ _)
theorem Xn(ho:l[i]?=some o)(HK:eh (fT hs R L i o a w ht))(Hb:eh (bd l n a0 a))(Hd:eh (Zg l n hs R L a w))(HL:eh (ZG l i L))
 (e:l[i]?=some o':=by rfl)(hd:o'.dst.isSome=true:=by rfl)(hv:Ej hs i=some v:=by rfl)(hw:Qp l n i hs o'=some true:=by kernel_rfl)(hr:(execOp (Ys l n i hs a0 a) o').run P w=.ok (.value v) w:=by kernel_rfl):AZ P l o a w ht Q:=
 iG ho e (PX Hd HL hw) HK hv hd (by rw[<-RD Hb Hd HL];exact hr)
theorem Lb{x:Operand}{p:Φ}(ho:l[i]?=some o)(HK:eh (fT hs R L i o a w ht))(Hb:eh (bd l n a0 a))(Hd:eh (Zg l n hs R L a w))(HL:eh (ZG l i L))
 (e:l[i]?=some o':=by rfl)(hd:o'.dst.isSome=true:=by rfl)(d6:o'.op=.load t x:=by rfl)(hp:gg l n hs a0 x=p:=by rfl)(hq:Ys l n i hs a0 a x=gg l n hs a0 x:=by kernel_rfl)(hv:Ej hs i=some v:=by rfl)(hw:Qp l n i hs o'=some true:=by kernel_rfl)(hl:(xL t p).run P w=.ok v w):AZ P l o a w ht Q:=
 iG ho e (PX Hd HL hw) HK hv hd (by rw[<-RD Hb Hd HL];unfold execOp;rw[d6];simp only[hq.trans hp,vo,hl,wk];rfl)
theorem gy{F:FuncId}{vs:Array Φ}{Qc:Ending->Ω->Prop}(ho:l[i]?=some o)(HK:eh (fT hs R L i o a w ht))(Hb:eh (bd l n a0 a))(Hd:eh (Zg l n hs R L a w))(HL:eh (ZG l i L))
 (N:Ξ P F vs w Qc)(hq:∀e w',Qc e w'->∃v,e=.returned v/\RF hs R (Hz L i) i v w'/\Γ w w w')
 (e:l[i]?=some o':=by rfl)(hd:o'.dst.isSome=true:=by rfl)(hw:Qp l n i hs o'=some true:=by kernel_rfl)(hr:(execOp (Ys l n i hs a0 a) o').run P w=.ok (.enter F vs) w:=by kernel_rfl):AZ P l o a w ht Q:=by
 obtain rfl:=yP (ho.symm.trans e);refine⟨λ_=>?_,λh=>absurd ((PX Hd HL hw).symm.trans h) ψ⟩;unfold uZ;rw[<-RD Hb Hd HL,hr,tH];refine N.mono ?_;intro x w' h;obtain⟨v,rfl,J,O⟩:=hq x w' h;obtain⟨d,h3⟩:=ve.1 hd;exact HK v w' (by rw[h3];exact J) O
theorem iF{F:FuncId}{vs:Array Φ}(ho:l[i]?=some o)(HK:eh (fT hs R L i o a w ht))(Hb:eh (bd l n a0 a))(Hd:eh (Zg l n hs R L a w))(HL:eh (ZG l i L))
 (N:Ξ P F vs w λe w'=>e=.returned v/\Γ w w w')(e:l[i]?=some o':=by rfl)(hd:o'.dst.isSome=true:=by rfl)(hv:Ej hs i=some v:=by rfl)(hw:Qp l n i hs o'=some true:=by kernel_rfl)(hr:(execOp (Ys l n i hs a0 a) o').run P w=.ok (.enter F vs) w:=by kernel_rfl):AZ P l o a w ht Q:=
 gy ho HK Hb Hd HL N (λ_ _ h=>⟨v,h.1,RF.of hv,h.2⟩) e hd hw hr
theorem Be(hx:eh (ZG l i L))(k:Nat)(h:yk .any l.toArray k i=true:=by kernel_rfl):L k=false:=by
 cases H:L k with
 |false=>rfl
 |true=>exact absurd (hx.2.2 k i H h) (by rw[hx.1];decide)
theorem Db(n hc:Nat)(S:Nat->Bool)(hs:List Vx)(R:(Nat->Bool)->Nat->Φ->Ω->Prop)(G:(Nat->Bool)->Ω->Prop)
 (hG:G (λ_=>false) {w0 with drawn:=w0.drawn+1})
 (br:∀j,j<n->∀L i v w w',i<n->S i=false->L i=false->L j=true->Γ w.heap.size w w'->R L j v w->R (Hz L i) j v w')
 (em:∀L i w w',i<n->S i=false->L i=false->Γ w.heap.size w w'->G L w->G (Hz L i) w')
 (a7:∀i,i<n->S i=false->∀o,l[i]?=some o->∀a w,eh (bd l n a0 a)->∀L:Nat->Bool,eh (Zg l n hs R L a w)->eh (ZG l i L)->G L w->∀ht:Act->Ω->Prop,eh (fT hs R L i o a w ht)->AZ P l o a w ht Q)
 (ef:∀i,i<n->S i=true->∀o,l[i]?=some o->∀a w,eh (bd l n a0 a)->∀L:Nat->Bool,eh (Zg l n hs R L a w)->eh (ZG l i L)->G L w->
  ∀ht:Act->Ω->Prop,eh (∀v w',RF hs R (Hz L i) i (match o.dst with|some _=>v|none=>Θ) w'->G (Hz L i) w'->(∀j,j≠i->j<n->L j=true->RF hs R L j (Ec l a.tmps j) w->RF hs R (Hz L i) j (Ec l a.tmps j) w')->ht (a.put o.dst v) w')->AZ P l o a w ht Q)
 (a6:∀(vs:Nat->Φ) w,∀L:Nat->Bool,(∀i,i<n->L i=true)->(∀i,i<n->RF hs R L i (vs i) w)->G L w->wpList P l.toArray Q [] {a0 with tmps:=DV l (yL n) vs a0.tmps} w)
 (hm:P.follows .mixedOrders=true:=by kernel_rfl)(hN:a0.tmps.size=hc:=by rfl)(hB:ZI l hc=true:=by kernel_rfl)(hn:l.length=n:=by rfl):(vZ id l.toArray true).wp P Q a0 w0:=
 Tl n hm hc hN hB hn S (RF hs R) G hG (λj X L i v w w' J O h3 h4 Y h=>RF.mono (br j X L i v w w' J O h3 h4 Y) h) em a7 ef a6
end
section
variable {α:Type}
theorem A6{l:List α}{i:Nat}{d:α}(h:i<l.length):l[i]?=some (l.getD i d):=by simp[h]
theorem Di{l:List α}{i:Nat}{d:α}(h:i<l.length):l.getD i d∈l:=yv (A6 h)
theorem It{l:List α}{x d:α}(h:x∈l):∃i,i<l.length/\l.getD i d=x:=by obtain⟨i,A,rfl⟩:=wY h;exact⟨i,A,by simp[A]⟩
theorem KR{l:List α}{i j:Nat}{x d:α}:(l.set i x).getD j d=if j=i/\i<l.length then x else l.getD j d:=by
 simp only[yg,vW]
 by_cases h:i=j
 .subst h
  by_cases O:i<l.length
  .simp[O]
  simp[O]
 have h':¬j=i:=λe=>h e.symm
 simp[h,h']
theorem DI{l:List α}{i:Nat}{f:α->α}:(Ao l i f).length=l.length:=by
 unfold Ao
 split<;>simp
theorem OE{l:List α}{i j:Nat}{f:α->α}{d:α}:(Ao l i f).getD j d=if j=i/\i<l.length then f (l.getD i d) else l.getD j d:=by
 unfold Ao
 split
 .rename_i x H
  have A:=(yA.1 H).1;rw[KR];have:l.getD i d=x:=by simp[H]
  rw[this]
 rename_i H
 have A:¬i<l.length:=by simpa using H
 simp[A]
theorem KF{l:List α}{i:Nat}{f:α->α}{d:α}:Ao l i f=l.set i (f (l.getD i d)):=by
 unfold Ao
 split
 .rename_i x H
  simp[H]
 rename_i H
 have A:l.length<=i:=by simpa using H
 rw[List.set_eq_of_length_le A]
theorem NF{n:Nat}{p:Nat->Bool}:(yL n).all p=true↔∀i,i<n->p i=true:=by simp[yr]
theorem LW{l:List α}{p:α->Bool}:l.any p=true↔∃x∈l,p x=true:=χ
end
theorem LI{G:Nat->Nat}(h:∀t,t<n->F t=G t):((yL n).map F).sum=((yL n).map G).sum:=by
 induction n with
 |zero=>rfl
 |succ n ih=>rw[xH,xK,xK,wQ,wQ,ih (λt K=>h t ω)];simp[h n ω]
theorem NJ{G:Nat->Nat}(hf:f<n)(h:∀t,t<n->t≠f->F t=G t):((yL n).map F).sum+G f=((yL n).map G).sum+F f:=by
 induction n with
 |zero=>omega
 |succ n ih=>
  rw[xH,xK,xK,wQ,wQ];simp only[vD,uR,uo,uh,xT]
  by_cases hn:f=n
  .subst hn
   rw[LI (λt K=>h t ω ω)];omega
  have:=ih ω (λt K bb=>h t ω bb)
  have:=h n ω ω;omega
theorem Mj:((yL n).map F).sum=0↔∀t,t<n->F t=0:=by
 induction n with
 |zero=>simp
 |succ n ih=>
  rw[xH,xK,wQ];simp only[vD,uR,uo,uh,xT];constructor
  .intro h t K
   by_cases e:t=n
   .subst e;omega
   exact ih.1 ω t ω
  intro h
  rw[ih.2 (λt K=>h t ω),h n ω]
theorem gM{c:Nat}(h:∀t,t<n->F t<=c):((yL n).map F).sum<=c*n:=by
 induction n with
 |zero=>simp
 |succ n ih=>rw[xH,xK,wQ,Nat.mul_succ];simp only[vD,uR,uo,uh,xT];have:=ih (λt K=>h t ω);have:=h n ω;omega
theorem Y7{c:Nat}(Z:g<n)(h:∀t,t<n->F t<=c)(h0:F g=0):((yL n).map F).sum+c<=c*n:=by
 have J:=NJ (F:=F) (G:=λt=>if t=g then c else F t) Z (λt K bb=>by simp[bb]);have O:=gM (F:=λt=>if t=g then c else F t) (n:=n) (c:=c) (λt K=>by
  by_cases e:t=g
  .simp[e]
  simp only[e,if_false];exact h t K)
 simp only[if_true,h0] at J;omega
theorem Ef{w:Int}(h:Bv w=true):BP w<12:=by simp only[Bv,yD,decide_eq_true_eq] at h;unfold BP;omega
theorem GJ{r:List Int}:g∈named r↔∃w∈r,Bv w=true/\BP w=g:=by simp[named,and_assoc]
theorem GI (h:g∈named r):g<12:=by obtain⟨w,_,hw,rfl⟩:=GJ.1 h;exact Ef hw
def EG(g:Nat)(w:Int):Bool:=Bv w&&decide (BP w=g)
theorem Kj:(named r).count g=r.countP (EG g):=by
 unfold named
 induction r with
 |nil=>rfl
 |cons w r ih=>
  rw[List.filter_cons];cases hw:Bv w
  .rw[if_neg χ,ih,xt]
   simp[EG,hw]
  rw[if_pos rfl,vD,rZ,ih,xt]
  by_cases h:BP w=g<;>simp[EG,hw,h]
theorem Fh:(named r).length<=r.length:=by unfold named;rw[vm];exact xv _ _
def Ee(b:Bool):Nat:=if b then 1 else 0
theorem Wb{p:Int->Bool}{w:Int}(Y:b<r.length):(r.set b w).countP p+Ee (p (r.getD b 0))=r.countP p+Ee (p w):=by
 induction r generalizing b with
 |nil=>simp at Y
 |cons x r ih=>
  cases b with
  |zero=>simp only[sJ,xt,sT,Ee];omega
  |succ b=>simp only[sH,xt,sS];have:=ih (b:=b) (by simpa using Y);omega
theorem aU{w:Int}(Y:b<r.length):(named (r.set b w)).count g+Ee (EG g (r.getD b 0))=(named r).count g+Ee (EG g w):=by rw[Kj,Kj];exact Wb Y
theorem UH{w:Int}(h:g∈named (r.set b w)):g∈named r∨(Bv w=true/\BP w=g):=by
 obtain⟨x,H,J,O⟩:=GJ.1 h
 rcases vd H with H|rfl
 .exact .inl (GJ.2 ⟨x,H,J,O⟩)
 exact .inr ⟨J,O⟩
theorem Dz:f∈Bg m root↔0<=root/\(f=root.toNat∨f∈named (AK m root.toNat)∨∃t,t∈named (AK m root.toNat)/\f∈named (AK m t)):=by
 unfold Bg
 split
 .simp;omega
 simp;omega
variable{m':List (List Int)}
theorem Qi (h0:0<=root->AK m' root.toNat=AK m root.toNat)(J:0<=root->∀t,t∈named (AK m root.toNat)->AK m' t=AK m t)(f:Nat):f∈Bg m' root↔f∈Bg m root:=by
 rw[Dz,Dz]
 by_cases hr:0<=root
 .rw[h0 hr]
  simp only[hr,true_and];refine or_congr Iff.rfl (or_congr Iff.rfl (exists_congr λt=>?_));constructor
  .rintro⟨a,b⟩;exact⟨a,by rw[<-J hr t a];exact b⟩
  rintro⟨a,b⟩;exact⟨a,by rw[J hr t a];exact b⟩
 simp[hr]
variable{Zh:List AX}
variable{Pj:List ByteArray}
variable{fs ns:List Nat}
theorem Gv:BM Zh fs Pj=true↔∀f,f∈fs->Cd Pj (JR Zh f).g=true:=by simp[BM,yr]
theorem Tk{root a:Nat}(h0:AK m' root=AK m root)(J:∀t,t∈named (AK m root)->AK m' t=AK m t):CU m' root a=CU m root a:=by
 have e0:Aw m' root (a/16)=Aw m root (a/16):=by unfold Aw;rw[h0]
 unfold CU;rw[e0]
 split
 .rename_i Z
  have hm:BP (Aw m root (a/16))∈named (AK m root):=by
   refine GJ.2 ⟨_,?_,Z,rfl⟩;unfold Aw at Z ⊢
   by_cases hl:a/16<(AK m root).length
   .exact Di hl
   have:(AK m root).getD (a/16) 0=0:=by simp at hl;simp[hl]
   rw[this] at Z;simp[Bv] at Z
  have e1:Aw m' (BP (Aw m root (a/16))) (a/4%4)=Aw m (BP (Aw m root (a/16))) (a/4%4):=by unfold Aw;unfold Aw at hm;rw[J _ hm]
  rw[e1]
 rfl
theorem Kc (Z:Bv (Aw m f i)=true):BP (Aw m f i)∈named (AK m f):=by
 refine GJ.2 ⟨_,?_,Z,rfl⟩;unfold Aw at Z ⊢
 by_cases hl:i<(AK m f).length
 .exact Di hl
 have:(AK m f).getD i 0=0:=by simp at hl;simp[hl]
 rw[this] at Z;simp[Bv] at Z
theorem BB{r:List Int}:EP r=true↔r.length=4/\∀w∈r,0<=w/\w<=9999:=by simp only[EP,yD,yr,decide_eq_true_eq,Dx,Aa];exact And.comm
theorem Aj:By m=true↔m.length=12/\∀f,f<12->EP (AK m f)=true:=by
 simp only[By,yD,yr,decide_eq_true_eq];constructor
 .rintro⟨J,O⟩
  exact⟨O,λf hf=>J _ (Di ω)⟩
 rintro⟨J,O⟩
 refine⟨λr hr=>?_,J⟩;obtain⟨i,A,rfl⟩:=It (d:=[]) hr;exact O i ω
theorem Un (h:By m=true)(hr:EP r=true):By (m.set f r)=true:=by
 rw[Aj] at h ⊢;refine⟨by rw[yh];exact h.1,λg Z=>?_⟩;unfold AK;rw[KR]
 split
 .exact hr
 exact h.2 g Z
theorem QG:AK (m.set f r) g=if g=f/\f<m.length then r else AK m g:=by unfold AK;exact KR
theorem Ih{w:Int}:AK (Cn m f i w) g=if g=f/\f<m.length then(AK m f).set i w else AK m g:=by unfold Cn AK;exact OE
theorem PJ{w:Int}:Cn m f i w=m.set f ((AK m f).set i w):=KF
theorem U5{w:Int}(h:EP r=true)(hw:Dx w=true):EP (r.set i w)=true:=by
 rw[BB] at h ⊢;refine⟨by rw[yh];exact h.1,λx H=>?_⟩
 rcases vd H with H|rfl
 .exact h.2 x H
 exact Aa.1 hw
theorem ZL:∀(x y:List UInt8),wH x y=decide (x<y)
 | [],[]=>by simp[wH]
 |_::_,[]=>by simp[wH]
 | [],_::_=>by simp[wH]
 |a::x,b::y=>by
  rw[wH,ZL x y]
  by_cases J:a<b
  .simp[J,uI]
  by_cases O:a=b
  .subst O;simp[uI]
  simp[J,O,uI]
def OP(a b:ByteArray):Bool:=wH a.toList b.toList
theorem Lj{a b:ByteArray}:OP a b=true↔a.toList<b.toList:=by simp[OP,ZL]
theorem Ny{a b:ByteArray}:OM a b=!OP a b:=rfl
theorem P8{a b c:ByteArray}(J:OP a b=true)(O:OP b c=true):OP a c=true:=Lj.2 (List.lt_trans (Lj.1 J) (Lj.1 O))
theorem toList_inj{a b:ByteArray}(h:a.toList=b.toList):a=b:=by have ha:a.toList=a.data.toList:=xA a;have Y:b.toList=b.data.toList:=xA b;rw[ha,Y] at h;cases a;cases b;simp at h;rw[h]
theorem Yd{a b:ByteArray}(h:OP a b=false)(bb:a≠b):OP b a=true:=by
 rw[Lj];have J:¬a.toList<b.toList:=by rw[<-Lj];simp[h]
 have O:a.toList≠b.toList:=λe=>bb (toList_inj e)
 have h3:b.toList<=a.toList:=List.not_lt.1 J
 rcases List.le_iff_lt_or_eq.1 h3 with h|h
 .exact h
 exact absurd h.symm O
theorem Ev{ss:List ByteArray}:BW ss=true↔(∀s∈ss,BR s=true)/\ss.Pairwise (λa b=>OP a b=true)/\ss.length<=6:=by
 unfold BW;simp only[yD,decide_eq_true_eq,NF,DB,xM,Ny,Bool.not_not];constructor
 .rintro⟨h,hl⟩
  refine⟨λs V=>?_,?_,hl⟩
  .obtain⟨i,A,rfl⟩:=It (d:=⟨#[]⟩) V
   exact(h i A).1
  rw[wL]
  have ex:∀d i,i+1+d<ss.length->OP (Cw ss i) (Cw ss (i+1+d))=true:=by
   intro d
   induction d with
   |zero=>
    intro i A
    rcases(h (i+1) ω).2 with h'|h'
    .omega
    simpa using h'
   |succ d ih=>
    intro i A;have J:=ih i ω
    rcases(h (i+1+(d+1)) ω).2 with h'|h'
    .omega
    refine P8 J ?_
    have e:i+1+(d+1) - 1=i+1+d:=ω;rw[e] at h';exact h'
  intro i j A X eD;have:=ex (j - i - 1) i ω;have e:i+1+(j - i - 1)=j:=ω
  rw[e] at this;simpa[Cw,A,X] using this
 rintro⟨J,O,h3⟩
 refine⟨λi A=>⟨J _ (Di A),?_⟩,h3⟩
 by_cases h0:i=0
 .exact .inl h0
 right
 rw[wL] at O;have:=O (i - 1) i ω A ω;simpa[Cw,A,(ω:i - 1<ss.length)] using this
theorem Oa{x:ByteArray}:x∈Rn ss s↔x=s∨x∈ss:=by
 unfold Rn;have e:=xB (p:=λx=>!OM x s) (l:=ss);constructor
 .intro h
  rcases wJ.1 h with h|h
  .right;rw[<-e];exact sZ _ h
  rcases xF.1 h with h|h
  .exact .inl h
  right;rw[<-e];exact uH _ h
 rintro(rfl|h)
 .simp
 rw[<-e] at h
 rcases wJ.1 h with h|h
 .exact sZ _ h
 exact uH _ (vV _ h)
theorem MW{p:ByteArray->Bool}{l:List ByteArray}{x:ByteArray}(h:x∈l.takeWhile p):p x=true:=by
 induction l with
 |nil=>simp at h
 |cons y l ih=>
  rw[List.takeWhile_cons] at h
  split at h
  .rename_i hy
   rcases xF.1 h with rfl|h
   .exact hy
   exact ih h
  simp at h
theorem eH (h:BW ss=true)(V:BR s=true)(hn:s∉ss)(hl:ss.length≠6):BW (Rn ss s)=true:=by
 rw[Ev] at h ⊢;obtain⟨J,O,h3⟩:=h;have e:=xB (p:=λx=>!OM x s) (l:=ss);refine⟨λx H=>?_,?_,?_⟩
 .rcases Oa.1 H with rfl|H
  .exact V
  exact J x H
 .unfold Rn
  rw[<-e] at O;rw[sY] at O ⊢;obtain⟨p1,p2,p3⟩:=O;have c7:∀y∈ss.dropWhile (λx=>!OM x s),OP s y=true:=by
   generalize hd:ss.dropWhile (λx=>!OM x s)=l at p2;cases l with
   |nil=>simp
   |cons y l=>
    have kg:(!OM y s)=false:=by
     have:=List.head?_dropWhile_not (λx=>!OM x s) ss;rw[hd] at this;simpa using this
    have kf:y∈ss:=by rw[<-e,hd];exact uH _ (wF ..)
    have hy:OP s y=true:=Yd (by simpa[Ny] using kg) (λe=>hn (e▸kf));intro ai hz
    rcases xF.1 hz with rfl|hz
    .exact hy
    exact P8 hy ((sG.1 p2).1 ai hz)
  refine⟨p1,sG.2 ⟨c7,p2⟩,λa ha b Y=>?_⟩;have kB:OP a s=true:=by simpa[Ny] using MW ha
  rcases xF.1 Y with rfl|Y
  .exact kB
  exact p3 a ha b Y
 have:(Rn ss s).length=ss.length+1:=by
  unfold Rn;rw[yz,vT];have:=congrArg List.length e;rw[yz] at this;omega
 omega
theorem Zu{p:ByteArray->Bool}(h:BW ss=true):BW (ss.filter p)=true:=by
 rw[Ev] at h ⊢;exact⟨λs V=>h.1 s (wK.1 V).1,h.2.1.filter _,yM (xv _ _) h.2.2⟩
theorem Is{g:ByteArray}:Cd Pj g=true↔∃s∈Pj,L8 s g=true:=by simp[Cd]
theorem aS{r r':List ByteArray}{g:ByteArray}(h:∀s∈r,s∈r')(hm:Cd r g=true):Cd r' g=true:=by obtain⟨s,V,N⟩:=Is.1 hm;exact Is.2 ⟨s,h s V,N⟩
theorem dO (g:ByteArray):Cd [⟨#[]⟩] g=true:=by refine Is.2 ⟨_,wF ..,?_⟩;simp[L8]
theorem cH (h:BW ss=true)(V:BR s=true):BW (BV ss s).1=true:=by
 unfold BV
 split
 .exact h
 rename_i hn
 split
 .exact h
 rename_i hl
 exact eH h V (λhm=>hn (LW.2 ⟨s,hm,χ⟩)) hl
theorem cG{x:ByteArray}(H:x∈ss):x∈(BV ss s).1:=by
 unfold BV
 split
 .exact H
 split
 .exact H
 exact Oa.2 (.inr H)
theorem Ey{c:List Ag}:Bk c=true↔(∀x∈c,CQ x=true)/\c.Pairwise (λx y=>BQ y.e y.p x=false)/\c.length<=4:=by
 unfold Bk;simp only[yD,decide_eq_true_eq,NF,DJ,ug,uj];constructor
 .rintro⟨h,hl⟩
  refine⟨λx H=>?_,?_,hl⟩
  .obtain⟨i,A,rfl⟩:=It (d:=⟨0,0,0,false⟩) H
   exact(h i A).1
  rw[wL]
  intro i j A X eD;have O:=(h j X).2 c[i] (tG.2 ⟨i,ω,rfl⟩);have e:AV c j=c[j]:=by simp[AV,X]
  rw[e] at O;simpa using O
 rintro⟨J,O,h3⟩
 refine⟨λi A=>⟨J _ (Di A),λx H=>?_⟩,h3⟩;obtain⟨j,X,rfl⟩:=tG.1 H;rw[wL] at O;have:=O j i ω A ω;have e:AV c i=c[i]:=by simp[AV,A]
 rw[e];simp[this]
theorem We{c:List Ag}{e:Int}(h:Bk c=true):Bk (Gm c e)=true:=by
 rw[Ey] at h ⊢;unfold Gm;exact⟨λs V=>h.1 s (wK.1 V).1,h.2.1.filter _,yM (xv _ _) h.2.2⟩
theorem Ua{c:List Ag}{e:Int}{x:Ag}:x∈Gm c e↔x∈c/\x.e≠e:=by simp[Gm]
theorem Wf{c:List Ag}{es:List Nat}(h:Bk c=true):Bk (es.foldl (λc e=>Gm c (e:Nat)) c)=true:=by
 induction es generalizing c with
 |nil=>exact h
 |cons e es ih=>exact ih (We h)
theorem Zt{c:List Ag}{es:List Nat}{x:Ag}:x∈es.foldl (λc e=>Gm c (e:Nat)) c↔x∈c/\∀e∈es,x.e≠(e:Int):=by
 induction es generalizing c with
 |nil=>simp
 |cons e es ih=>rw[yJ,ih,Ua];simp[and_assoc]
theorem XS{c:List Ag}{x y:Ag}(h:y∈Ju c x):y=x∨y∈c:=by
 unfold Ju at h
 rcases wJ.1 h with h|h
 .right
  split at h
  .exact(wK.1 (uD h)).1
  exact(wK.1 h).1
 left;simpa using h
theorem ZS{c:List Ag}{x:Ag}(h:Bk c=true)(H:CQ x=true):Bk (Ju c x)=true:=by
 have hm:=λy=>XS (c:=c) (x:=x) (y:=y)
 rw[Ey] at h ⊢;obtain⟨J,O,h3⟩:=h;refine⟨λy hy=>?_,?_,?_⟩
 .rcases hm y hy with rfl|hy
  .exact H
  exact J y hy
 .unfold Ju
  rw[sY];refine⟨?_,χ,λa ha b Y=>?_⟩
  .split
   .exact(O.filter _).drop
   exact O.filter _
  obtain rfl:b=x:=by simpa using Y
  have jt:a∈c.filter λy=>!BQ b.e b.p y:=by
   split at ha
   .exact uD ha
   exact ha
  simpa using(wK.1 jt).2
 unfold Ju
 have hl:=xv (λy=>!BQ x.e x.p y) c
 split
 .rw[yz,xh];simp;omega
 rw[yz];simp;omega
theorem YD{c:List Ag}{e p:Int}(h:¬IG c e p<0):∃i,i<c.length/\IG c e p=(i:Int)/\BQ e p (AV c i)=true:=by
 unfold IG at h ⊢
 split
 .rename_i ha
  obtain⟨x,H,V⟩:=LW.1 ha;have hl:c.findIdx (BQ e p)<c.length:=vM.2 ⟨x,H,V⟩;refine⟨_,hl,rfl,?_⟩;have:=vC (w:=hl);simpa[AV,hl] using this
 rename_i ha
 rw[if_neg ha] at h;omega
def Ab(k:AR)(e:Nat):Int:=(AH k.Xr e).root
def BJ(k:AR)(e:Nat):List ByteArray:=(AH k.Xr e).Pj
def A3(k:AR)(f:Nat):Int:=(JR k.Zh f).k
def VI(x:AX):Prop:=(x.k=0/\x.g=⟨#[]⟩)∨(1<=x.k/\x.k<=3/\BR x.g=true)
def Mv(m:List (List Int))(Zh:List AX)(g t:Nat):Nat:=if Bp (JR Zh t).k then(named (AK m t)).count g else 0
theorem E9:countP m Zh g=((yL 12).map (Mv m Zh g)).sum:=rfl
theorem Ix{k:Int}:Bp k=true↔k=2∨k=3:=by simp[Bp]
structure DZ(k:AR):Prop where
 mem:By k.mem=true
 len:k.Zh.length=12
 inf:∀f,f<12->VI (JR k.Zh f)
 Xo:Bk k.Xo=true
 zX:k.Xr.length=3
 Pj:∀e,e<3->BW (BJ k e)=true
 roots:∀e,e<3->Ab k e= -1∨(0<=Ab k e/\Ab k e<=11/\A3 k (Ab k e).toNat=3)
 allow:∀e,e<3->∀f,f∈Bg k.mem (Ab k e)->Cd (BJ k e) (JR k.Zh f).g=true
 tabs:∀f,f<12->Bp (A3 k f)=true->∀w∈AK k.mem f,(Bv w=true/\BP w≠f/\A3 k (BP w)=A3 k f - 1)∨w=0
 refs:∀f,f<12->(JR k.Zh f).r=(countP k.mem k.Zh f:Int)+(Ew k.Xr f:Int)
 trans:∀x∈k.Xo,Cz k x=true
theorem Ig (h:Xr.length=3)(g:Nat):Ew Xr g=Ee (decide ((AH Xr 0).root=(g:Int)))+Ee (decide ((AH Xr 1).root=(g:Int)))+Ee (decide ((AH Xr 2).root=(g:Int))):=by
 match Xr,h with
 | [a,b,c],_=>simp only[Ew,xt,List.countP_nil,AH,Ee];simp;omega
section
variable {k:AR} (h:DZ k)
include h
theorem DZ.row(hf:f<12):(AK k.mem f).length=4:=(BB.1 ((Aj.1 h.mem).2 f hf)).1
theorem DZ.word{i:Nat}(hf:f<12)(A:i<4):0<=Aw k.mem f i/\Aw k.mem f i<=9999:=(BB.1 ((Aj.1 h.mem).2 f hf)).2 _ (Di (by rw[h.row hf];exact A))
theorem DZ.named{g:Nat}(hf:f<12)(K:Bp (A3 k f)=true)(Z:g∈named (AK k.mem f)):g<12/\g≠f/\A3 k g=A3 k f - 1:=by
 obtain⟨w,hw,J,rfl⟩:=GJ.1 Z
 rcases h.tabs f hf K w hw with⟨_,a,b⟩|rfl
 .exact⟨Ef J,a,b⟩
 simp[Bv] at J
theorem DZ.zI{e:Nat}(he:e<3)(hr:0<=Ab k e):(Ab k e).toNat<12/\A3 k (Ab k e).toNat=3:=by
 rcases h.roots e he with a|⟨a,b,c⟩
 .omega
 exact⟨ω,c⟩
theorem DZ.zU{e:Nat}(he:e<3)(hr:0<=Ab k e)(K:t∈Go.Proofs.YtlcnbkkcplllhaaGreatDoor.named (AK k.mem (Ab k e).toNat)):t<12/\A3 k t=2:=by obtain⟨a,b⟩:=h.zI he hr;have:=h.named a (by rw[b];rfl) K;exact⟨this.1,ω⟩
theorem DZ.zu{e:Nat}(he:e<3)(hr:0<=Ab k e)(K:t∈Go.Proofs.YtlcnbkkcplllhaaGreatDoor.named (AK k.mem (Ab k e).toNat))(hf:f∈Go.Proofs.YtlcnbkkcplllhaaGreatDoor.named (AK k.mem t)):f<12/\A3 k f=1:=by obtain⟨a,b⟩:=h.zU he hr K;have:=h.named a (by rw[b];rfl) hf;exact⟨this.1,ω⟩
theorem DZ.zG{e:Nat}(he:e<3)(hf:f∈Bg k.mem (Ab k e)):f<12/\1<=A3 k f:=by
 obtain⟨hr,J⟩:=Dz.1 hf
 rcases J with rfl|J|⟨t,K,J⟩
 .have:=h.zI he hr;exact⟨this.1,ω⟩
 .have:=h.zU he hr J;exact⟨this.1,ω⟩
 have:=h.zu he hr K J;exact⟨this.1,ω⟩
theorem DZ.cnt_zero{g:Nat}(Z:g<12):Mv k.mem k.Zh g g=0:=by
 unfold Mv
 split
 .rename_i K
  rw[ul];intro hm;exact(h.named Z K hm).2.1 rfl
 rfl
theorem DZ.yY{g:Nat}(K:t<12):Mv k.mem k.Zh g t<=4:=by
 unfold Mv
 split
 .have J:(Go.Proofs.YtlcnbkkcplllhaaGreatDoor.named (AK k.mem t)).count g<=_:=List.count_le_length
  have O:=Fh (r:=AK k.mem t);rw[h.row K] at O;omega
 omega
theorem DZ.count_le{g:Nat}(Z:g<12):countP k.mem k.Zh g<=44:=by
 have:((yL 12).map (Mv k.mem k.Zh g)).sum+4<=4*12:=Y7 Z (λt K=>h.yY (g:=g) K) (h.cnt_zero Z);rw[E9];omega
theorem DZ.yZ(hf:f<12):0<=(JR k.Zh f).r/\(JR k.Zh f).r<=47:=by
 have J:=h.count_le hf;have O:Ew k.Xr f<=3:=by
  have:=vX (p:=λe:Ez=>decide (e.root=(f:Int))) (l:=k.Xr);rw[h.zX] at this;exact this
 rw[h.refs f hf];omega
theorem DZ.unused(hf:f<12)(h0:(JR k.Zh f).r=0):(∀t,t<12->Bp (A3 k t)=true->f∉Go.Proofs.YtlcnbkkcplllhaaGreatDoor.named (AK k.mem t))/\∀e,e<3->Ab k e≠(f:Int):=by
 have J:=h.refs f hf;have O:countP k.mem k.Zh f=0:=ω;have h3:Ew k.Xr f=0:=ω;rw[E9,Mj] at O;constructor
 .intro t K d5 hm
  have:=O t K;unfold Mv A3 at*;rw[if_pos d5,ul] at this;exact this hm
 intro e he
 rw[Ig h.zX] at h3;unfold Ee at h3;have:e=0∨e=1∨e=2:=ω;intro hr;unfold Ab at hr
 rcases this with rfl|rfl|rfl<;>simp[hr] at h3
theorem DZ.zC(hf:f<12)(h0:A3 k f=0):(JR k.Zh f).r=0:=by
 rw[h.refs f hf];have O:countP k.mem k.Zh f=0:=by
  rw[E9,Mj];intro t K;unfold Mv
  split
  .rename_i d5
   rw[ul];intro hm;have:=(h.named K d5 hm).2.2;have:A3 k t=2∨A3 k t=3:=Ix.1 d5;omega
  rfl
 have h3:Ew k.Xr f=0:=by
  rw[Ig h.zX];have ex:∀e,e<3->Ee (decide ((AH k.Xr e).root=(f:Int)))=0:=by
   intro e he;unfold Ee
   by_cases hr:(AH k.Xr e).root=(f:Int)
   .exfalso
    have:Ab k e=(f:Int):=hr;have:=h.zI he ω;rw[‹Ab k e=(f:Int)›] at this;simp at this;omega
   simp[hr]
  rw[ex 0 ω,ex 1 ω,ex 2 ω]
 omega
theorem DZ.zb{e a:Nat}(he:e<3)(hr:0<=Ab k e)(hw:(CU k.mem (Ab k e).toNat a).1=0):(CU k.mem (Ab k e).toNat a).2.1<12/\A3 k (CU k.mem (Ab k e).toNat a).2.1=1/\(CU k.mem (Ab k e).toNat a).2.1∈Bg k.mem (Ab k e):=by
 unfold CU at hw ⊢
 split at hw
 .rename_i J
  split at hw
  .rename_i O
   rw[if_pos J,if_pos O];have m1:=Kc J;have m2:=Kc O;have:=h.zu he hr m1 m2;exact⟨this.1,this.2,Dz.2 ⟨hr,.inr (.inr ⟨_,m1,m2⟩)⟩⟩
  simp at hw
 simp at hw
end
theorem aE{x:AX}(h:VI x)(h0:0<=x.r)(J:x.r<=50)(hz:x.k=0->x.r=0):Dk x=true:=by
 rcases h with⟨a,b⟩|⟨a,b,c⟩
 .have:x=AX.zero:=by
   obtain⟨k,g,r⟩:=x;simp at a b hz;subst a b;simp[AX.zero,hz rfl]
  simp[Dk,this]
 simp[Dk,Bj,a,b,c,h0,J]
theorem aD{x:AX}(h:Dk x=true):VI x:=by
 unfold Dk at h;simp only[xM,decide_eq_true_eq,yD,Aa] at h
 rcases h with rfl|⟨⟨⟨a,b⟩,c⟩,_⟩
 .exact .inl ⟨rfl,rfl⟩
 exact .inr ⟨a,b,c⟩
theorem A2{l:List AX}:BG l=true↔l.length=12/\∀f,f<12->Dk (JR l f)=true:=by
 simp only[BG,yD,yr,decide_eq_true_eq];constructor
 .rintro⟨J,O⟩
  exact⟨O,λf hf=>J _ (Di ω)⟩
 rintro⟨J,O⟩
 refine⟨λr hr=>?_,J⟩;obtain⟨i,A,rfl⟩:=It (d:=AX.zero) hr;exact O i ω
theorem Mz{w:Int}:GQ Zh f kind Pj w=true↔(Bv w=true/\BP w≠f/\(JR Zh (BP w)).k=kind - 1/\Cd Pj (JR Zh (BP w)).g=true)∨(Bv w=false/\w=0):=by unfold GQ;cases h:Bv w<;>simp[and_assoc]
theorem My{m:List (List Int)}{f:Nat}:JB m Zh f kind Pj=true↔∀w∈AK m f,GQ Zh f kind Pj w=true:=by simp[JB,yr]
theorem Uc (h:Xr.length=3){p:Ez->Bool}:Xr.all p=true↔∀e,e<3->p (AH Xr e)=true:=by
 rw[yr];constructor
 .intro hp e he
  exact hp _ (Di ω)
 intro hp x H
 obtain⟨i,A,rfl⟩:=It (d:=⟨[],0⟩) H;exact hp i ω
theorem FI{k:AR}:Cx k=true↔DZ k:=by
 unfold Cx;simp only[yD,NF];constructor
 .rintro⟨⟨⟨⟨⟨⟨J,O⟩,h3⟩,h4⟩,h5⟩,h6⟩,h7⟩
  unfold Js at h4;simp only[yD,decide_eq_true_eq] at h4;obtain⟨h4,hl⟩:=h4;rw[Uc hl] at h4;rw[A2] at O;have hE:∀e,e<3->BW (BJ k e)=true/\(Ab k e= -1∨(0<=Ab k e/\Ab k e<=11)/\A3 k (Ab k e).toNat=3)/\BM k.Zh (Bg k.mem (Ab k e)) (BJ k e)=true:=by intro e he;have:=h4 e he;unfold EW at this;simp only[yD,xM,decide_eq_true_eq,Aa] at this;exact⟨this.1.1,this.1.2,this.2⟩
  refine⟨J,O.1,λf hf=>aD (O.2 f hf),h3,hl,λe he=>(hE e he).1,λe he=>?_,λe he=>Gv.1 (hE e he).2.2,λf hf K w hw=>?_,λf hf=>?_,λx H=>yr.1 h7 x H⟩
  .rcases(hE e he).2.1 with a|⟨⟨a,b⟩,c⟩
   .exact .inl a
   exact .inr ⟨a,b,c⟩
  .have:=h5 f hf
   unfold EC at this;unfold A3 at K;rw[K,Bool.not_true,Bool.false_or,My] at this
   rcases Mz.1 (this w hw) with⟨a,b,c,_⟩|⟨_,a⟩
   .exact .inl ⟨a,b,c⟩
   exact .inr a
  have:=h6 f hf
  simpa[If] using this
 intro h
 refine⟨⟨⟨⟨⟨⟨h.mem,?_⟩,h.Xo⟩,?_⟩,λf hf=>?_⟩,λf hf=>?_⟩,yr.2 h.trans⟩
 .rw[A2]
  refine⟨h.len,λf hf=>aE (h.inf f hf) (h.yZ hf).1 (by have:=(h.yZ hf).2;omega) (λh0=>h.zC hf h0)⟩
 .unfold Js
  simp only[yD,decide_eq_true_eq];refine⟨?_,h.zX⟩;rw[Uc h.zX];intro e he;unfold EW;simp only[yD,xM,decide_eq_true_eq,Aa];refine⟨⟨h.Pj e he,?_⟩,Gv.2 (h.allow e he)⟩
  rcases h.roots e he with a|⟨a,b,c⟩
  .exact .inl a
  exact .inr ⟨⟨a,b⟩,c⟩
 .unfold EC
  simp only[xM,ug];cases K:Bp (JR k.Zh f).k
  .exact .inl rfl
  right
  rw[My];intro w hw;rw[Mz]
  rcases h.tabs f hf K w hw with⟨a,b,c⟩|rfl
  .exact .inl ⟨a,b,c,dO _⟩
  exact .inr ⟨rfl,rfl⟩
 simp[If,h.refs f hf]
theorem IW{l:List AX}{x:AX}:JR (l.set f x) g=if g=f/\f<l.length then x else JR l g:=KR
theorem Fy{l:List AX}{u:AX->AX}:JR (Ao l f u) g=if g=f/\f<l.length then u (JR l f) else JR l g:=OE
theorem IA{l:List Ez}{u:Ez->Ez}:AH (Ao l f u) g=if g=f/\f<l.length then u (AH l f) else AH l g:=OE
variable{Xo:List Ag}
theorem DZ.data{k:AR}(h:DZ k){f:Nat}(hf:f<12)(E:A3 k f=0∨A3 k f=1){row:List Int}(c5:EP row=true){x:AX}(H:VI x)(kK:x.k=0∨x.k=1)(hr:x.r=(JR k.Zh f).r)
 (ia:(x.k=A3 k f/\x.g=(JR k.Zh f).g)∨(JR k.Zh f).r=0)(N:Bk Xo=true)(K:∀y∈Xo,Cz k y=true):DZ ⟨k.mem.set f row,k.Zh.set f x,k.Xr,Xo⟩:=by
 have kr:=(Aj.1 h.mem).1;have b5:∀g,g≠f->AK (k.mem.set f row) g=AK k.mem g:=λg Z=>by rw[QG,if_neg (by rintro⟨a,_⟩;exact Z a)]
 have bL:∀g,g≠f->JR (k.Zh.set f x) g=JR k.Zh g:=λg Z=>by rw[IW,if_neg (by rintro⟨a,_⟩;exact Z a)]
 have cv:JR (k.Zh.set f x) f=x:=by rw[IW,if_pos ⟨rfl,by rw[h.len];exact hf⟩]
 have d5:∀t,Bp (JR (k.Zh.set f x) t).k=true->t≠f/\Bp (A3 k t)=true:=by
  intro t K
  by_cases e:t=f
  .subst e
   rw[cv,Ix] at K;omega
  rw[bL t e] at K
  exact⟨e,K⟩
 have jO:∀t,Bp (A3 k t)=true->t≠f:=by intro t K e;subst e;rw[Ix] at K;omega
 have cu:∀t g,t<12->Bp (A3 k t)=true->g∈Go.Proofs.YtlcnbkkcplllhaaGreatDoor.named (AK k.mem t)->(JR (k.Zh.set f x) g).k=A3 k g/\(JR (k.Zh.set f x) g).g=(JR k.Zh g).g:=by
  intro t g K cl Z
  by_cases e:g=f
  .subst e
   rw[cv]
   rcases ia with V|h0
   .exact V
   exact absurd Z ((h.unused hf h0).1 t K cl)
  rw[bL g e];exact⟨rfl,rfl⟩
 have bK:∀e,e<3->0<=Ab k e->(Ab k e).toNat≠f:=λe he h0=>jO _ (by rw[(h.zI he h0).2];rfl)
 have ik:∀e,e<3->0<=Ab k e->∀t,t∈Go.Proofs.YtlcnbkkcplllhaaGreatDoor.named (AK k.mem (Ab k e).toNat)->t≠f:=λe he h0 t K=>jO _ (by rw[(h.zU he h0 K).2];rfl)
 have f5:∀e,e<3->∀g,g∈Bg (k.mem.set f row) (Ab k e)↔g∈Bg k.mem (Ab k e):=λe he=>Qi (λh0=>b5 _ (bK e he h0)) (λh0 t K=>b5 _ (ik e he h0 t K))
 refine⟨Un h.mem c5,by simp[h.len],λg Z=>?_,N,h.zX,h.Pj,λe he=>?_,λe he g Z=>?_,λt K cl w hw=>?_,λg Z=>?_,λy hy=>?_⟩
 .by_cases e:g=f
  .subst e;rw[cv];exact H
  rw[bL g e];exact h.inf g Z
 .rcases h.roots e he with a|⟨a,b,c⟩
  .exact .inl a
  refine .inr ⟨a,b,?_⟩
  show(JR (k.Zh.set f x) (Ab k e).toNat).k=3
  rw[bL _ (bK e he a)];exact c
 .have cy:=(f5 e he g).1 Z
  have hm:=h.allow e he g cy
  show Cd (BJ k e) (JR (k.Zh.set f x) g).g=true
  obtain⟨h0,J⟩:=Dz.1 cy;have ic:=h.zI he h0;have e:(JR (k.Zh.set f x) g).g=(JR k.Zh g).g:=by
   rcases J with rfl|J|⟨t,J,O⟩
   .rw[bL _ (bK e he h0)]
   .exact(cu _ g ic.1 (by rw[ic.2];rfl) J).2
   have iN:=h.zU he h0 J
   exact(cu _ g iN.1 (by rw[iN.2];rfl) O).2
  rw[e];exact hm
 .obtain⟨bb,fa⟩:=d5 t cl
  rw[show AK (k.mem.set f row) t=AK k.mem t from b5 t bb] at hw
  rcases h.tabs t K fa w hw with⟨a,b,c⟩|rfl
  .refine .inl ⟨a,b,?_⟩
   have:=(cu t (BP w) K fa (GJ.2 ⟨w,hw,a,rfl⟩)).1
   show(JR (k.Zh.set f x) (BP w)).k=(JR (k.Zh.set f x) t).k - 1
   rw[this,bL t bb];exact c
  exact .inr rfl
 .have c8:countP (k.mem.set f row) (k.Zh.set f x) g=countP k.mem k.Zh g:=by
   rw[E9,E9];refine LI λt K=>?_
   unfold Mv
   by_cases e:t=f
   .subst e
    rw[cv,if_neg (by rw[Ix];omega),if_neg (by rw[Ix];unfold A3 at E;omega)]
   rw[bL t e,b5 t e]
  show(JR (k.Zh.set f x) g).r=(countP (k.mem.set f row) (k.Zh.set f x) g:Int)+(Ew k.Xr g:Int)
  rw[c8,<-h.refs g Z]
  by_cases e:g=f
  .subst e;rw[cv,hr]
  rw[bL g e]
 have J:=K y hy
 have fp:=(Ey.1 N).1 y hy;unfold CQ at fp;simp only[yD,Aa] at fp;have he:y.e.toNat<3:=ω;unfold Cz at J ⊢;simp only[yD,decide_eq_true_eq] at J ⊢;refine⟨J.1,?_⟩;have hw:=Tk (m:=k.mem) (m':=k.mem.set f row) (root:=(Ab k y.e.toNat).toNat) (a:=4*y.p.toNat) (b5 _ (bK _ he J.1)) (λt K=>b5 _ (ik _ he J.1 t K));exact hw.trans J.2
theorem KH{n:Int}:(BO Zh fs n).length=Zh.length:=by
 unfold BO
 induction fs generalizing Zh with
 |nil=>rfl
 |cons f fs ih=>rw[yJ,ih,DI]
theorem PF{n:Int}(Z:g<Zh.length):JR (BO Zh fs n) g= {JR Zh g with r:=(JR Zh g).r+n*(fs.count g:Int)}:=by
 unfold BO
 induction fs generalizing Zh with
 |nil=>simp
 |cons f fs ih=>
  rw[yJ,ih (by rw[DI];exact Z),Fy,rZ]
  by_cases e:g=f
  .subst e
   rw[if_pos ⟨rfl,Z⟩];simp[JI];rw[Int.mul_add];omega
  rw[if_neg (by rintro⟨a,_⟩;exact e a)]
  have e':¬f=g:=λa=>e a.symm
  simp[e']
theorem DZ.retype{k:AR}(h:DZ k){f:Nat}(hf:f<12)(h0:(JR k.Zh f).r=0){n:Int}(jc:1<=kind)(kv:kind<=3)(kx:A3 k f≠0)
 (hn:(n=1/\Bp (A3 k f)=false/\Bp kind=true)∨(n= -1/\Bp (A3 k f)=true/\Bp kind=false))
 (fq:Bp kind=true->∀w∈AK k.mem f,(Bv w=true/\BP w≠f/\A3 k (BP w)=kind - 1)∨w=0):
 DZ {k with Zh:=Ao (BO k.Zh (Go.Proofs.YtlcnbkkcplllhaaGreatDoor.named (AK k.mem f)) n) f (Dl kind)}:=by
 obtain⟨u1,u2⟩:=h.unused hf h0;have hl:(BO k.Zh (Go.Proofs.YtlcnbkkcplllhaaGreatDoor.named (AK k.mem f)) n).length=12:=by rw[KH,h.len]
 have bB:∀g,g<12->JR (Ao (BO k.Zh (Go.Proofs.YtlcnbkkcplllhaaGreatDoor.named (AK k.mem f)) n) f (Dl kind)) g= {(JR k.Zh g) with k:=if g=f then kind else A3 k g,r:=(JR k.Zh g).r+n*((Go.Proofs.YtlcnbkkcplllhaaGreatDoor.named (AK k.mem f)).count g:Int)}:=by
  intro g Z;rw[Fy,hl]
  by_cases e:g=f
  .subst e
   rw[if_pos ⟨rfl,hf⟩,PF (by rw[h.len];exact Z)];simp[Dl]
  rw[if_neg (by rintro⟨a,_⟩;exact e a),PF (by rw[h.len];exact Z)]
  simp[e,A3]
 have jL:f∉Go.Proofs.YtlcnbkkcplllhaaGreatDoor.named (AK k.mem f):=by
  intro hm
  rcases hn with⟨_,_,c⟩|⟨_,b,_⟩
  .obtain⟨w,hw,J,O⟩:=GJ.1 hm
   rcases fq c w hw with⟨_,a,_⟩|rfl
   .exact a O
   simp[Bv] at J
  exact u1 f hf b hm
 refine⟨h.mem,by rw[DI];exact hl,λg Z=>?_,h.Xo,h.zX,h.Pj,λe he=>?_,λe he g Z=>?_,λt K cl w hw=>?_,λg Z=>?_,h.trans⟩
 .show VI (JR (Ao _ f (Dl kind)) g)
  rw[bB g Z]
  by_cases e:g=f
  .subst e
   rcases h.inf g Z with⟨a,b⟩|⟨a,b,c⟩
   .exact absurd a kx
   right;simp;exact⟨jc,kv,c⟩
  simp only[e,if_false]
  exact h.inf g Z
 .rcases h.roots e he with a|⟨a,b,c⟩
  .exact .inl a
  refine .inr ⟨a,b,?_⟩
  show(JR (Ao _ f (Dl kind)) (Ab k e).toNat).k=3
  rw[bB _ ω];have:(Ab k e).toNat≠f:=λe'=>u2 e he ω
  simp only[this,if_false];exact c
 .show Cd (BJ k e) (JR (Ao _ f (Dl kind)) g).g=true
  have:=h.allow e he g Z;rw[bB _ (h.zG he Z).1];exact this
 .have bE:Bp (JR (Ao (BO k.Zh (Go.Proofs.YtlcnbkkcplllhaaGreatDoor.named (AK k.mem f)) n) f (Dl kind)) t).k=true:=cl
  rw[bB t K] at bE
  show(Bv w=true/\BP w≠t/\(JR (Ao (BO k.Zh (Go.Proofs.YtlcnbkkcplllhaaGreatDoor.named (AK k.mem f)) n) f (Dl kind)) (BP w)).k=(JR (Ao (BO k.Zh (Go.Proofs.YtlcnbkkcplllhaaGreatDoor.named (AK k.mem f)) n) f (Dl kind)) t).k - 1)∨w=0
  rw[bB t K]
  by_cases e:t=f
  .subst e
   simp only[if_true] at bE
   rcases fq bE w hw with⟨a,b,c⟩|rfl
   .refine .inl ⟨a,b,?_⟩
    rw[bB _ (Ef a)];simp only[if_true,b,if_false];exact c
   exact .inr rfl
  simp only[e,if_false] at bE
  rcases h.tabs t K bE w hw with⟨a,b,c⟩|rfl
  .refine .inl ⟨a,b,?_⟩
   rw[bB _ (Ef a)];have:BP w≠f:=λe'=>u1 t K bE (GJ.2 ⟨w,hw,a,e'⟩)
   simp only[this,if_false,e];exact c
  exact .inr rfl
 show(JR (Ao (BO k.Zh (Go.Proofs.YtlcnbkkcplllhaaGreatDoor.named (AK k.mem f)) n) f (Dl kind)) g).r=(countP k.mem (Ao (BO k.Zh (Go.Proofs.YtlcnbkkcplllhaaGreatDoor.named (AK k.mem f)) n) f (Dl kind)) g:Int)+(Ew k.Xr g:Int)
 rw[bB g Z];have b9:=NJ (F:=Mv k.mem (Ao (BO k.Zh (Go.Proofs.YtlcnbkkcplllhaaGreatDoor.named (AK k.mem f)) n) f (Dl kind)) g) (G:=Mv k.mem k.Zh g) hf (λt K bb=>by unfold Mv;rw[bB t K];simp only[bb,if_false];rfl)
 rw[<-E9,<-E9] at b9;have c1:Mv k.mem (Ao (BO k.Zh (Go.Proofs.YtlcnbkkcplllhaaGreatDoor.named (AK k.mem f)) n) f (Dl kind)) g f=if Bp kind then(Go.Proofs.YtlcnbkkcplllhaaGreatDoor.named (AK k.mem f)).count g else 0:=by unfold Mv;rw[bB f hf];simp
 have c2:Mv k.mem k.Zh g f=if Bp (A3 k f) then(Go.Proofs.YtlcnbkkcplllhaaGreatDoor.named (AK k.mem f)).count g else 0:=rfl
 rw[c1,c2] at b9;have:=h.refs g Z
 rcases hn with⟨rfl,a,b⟩|⟨rfl,a,b⟩
 .rw[a,b] at b9
  simp at b9 ⊢;omega
 rw[a,b] at b9
 simp at b9 ⊢;omega
theorem GW (h:¬An Zh<0):(An Zh).toNat<Zh.length/\(JR Zh (An Zh).toNat).k=0/\0<=An Zh:=by
 unfold An at h ⊢
 split
 .rename_i ha
  obtain⟨x,H,V⟩:=LW.1 ha;have hl:Zh.findIdx (λx=>decide (x.k=0))<Zh.length:=vM.2 ⟨x,H,V⟩;refine⟨by simpa using hl,?_,ω⟩;have:=vC (w:=hl);simpa[JR,hl] using this
 rename_i ha
 rw[if_neg ha] at h;omega
theorem PK{α:Type}{l:List α}{d:α}:l.set i (l.getD i d)=l:=by
 apply su;intro j;rw[vW]
 by_cases h:i=j
 .subst h
  by_cases O:i<l.length
  .simp[O]
  simp[O]
 simp[h]
theorem dq{k:AR}(h:DZ k){c:AT}:DZ (J0 k c).1:=by
 unfold J0
 split
 .exact h
 rename_i hn
 split
 .exact h
 split
 .exact h
 rename_i hf
 obtain⟨a,b,_⟩:=GW hf;rw[h.len] at a;have hr:=h.zC a b;refine h.data (x:=⟨1,c.nm,0⟩) a (.inl b) ψ (.inr ⟨by show(1:Int)<=1;omega,by show(1:Int)<=3;omega,by simpa using hn⟩) (.inr rfl) hr.symm (.inr hr) h.Xo h.trans
theorem cZ{k:AR}(h:DZ k){c:AT}(ha:c.a.toNat<12):DZ (K4 k c).1:=by
 unfold K4
 split
 .exact h
 rename_i E
 split
 .exact h
 rename_i hr
 have hr:(JR k.Zh c.a.toNat).r=0:=ω
 have:=h.data (x:=AX.zero) ha (.inr (by unfold A3;omega)) ((Aj.1 h.mem).2 _ ha) (.inl ⟨rfl,rfl⟩) (.inl rfl) hr.symm (.inr hr) h.Xo h.trans;rw[show k.mem.set c.a.toNat (AK k.mem c.a.toNat)=k.mem from PK] at this;exact this
theorem ZQ{k:AR}(h:DZ k){f:Nat}{w:Int}(hf:f<12)(E:A3 k f=1)(hw:Dx w=true)(N:Bk Xo=true)(K:∀y∈Xo,Cz k y=true):DZ {k with mem:=Cn k.mem f i w,Xo:=Xo}:=by have:=h.data (x:=JR k.Zh f) hf (.inr E) (U5 (i:=i) (w:=w) ((Aj.1 h.mem).2 _ hf) hw) (h.inf f hf) (.inr E) rfl (.inl ⟨rfl,rfl⟩) N K;rw[show k.Zh.set f (JR k.Zh f)=k.Zh from PK] at this;rw[PJ];exact this
theorem da{k:AR}(h:DZ k){c:AT}(ha:c.a.toNat<12):DZ (LE k c).1:=by
 unfold LE
 split
 .exact h
 rename_i hn
 simp only[not_or] at hn;obtain⟨J,O,h3⟩:=hn;exact ZQ h ha (by unfold A3;omega) (by simpa using h3) h.Xo h.trans
theorem Uv{k:AR}(h:DZ k){r:List AX×Int}(hr:r.2=0->DZ {k with Zh:=r.1}):DZ (EB k r).1:=by
 unfold EB
 split
 .exact hr ‹_›
 exact h
theorem ep{k:AR}(h:DZ k){f:Nat}(hf:f<12)(E:Bp kind=true):(Gc k.mem k.Zh f kind Pj).2=0->DZ {k with Zh:=(Gc k.mem k.Zh f kind Pj).1}:=by
 unfold Gc
 split
 .intro h;simp at h
 rename_i hn
 simp only[not_or,uy] at hn
 split
 .intro h;simp at h
 rename_i Z
 have Z:JB k.mem k.Zh f kind Pj=true:=by simpa using Z
 split
 .intro _
  have ku:=Ix.1 E;refine h.retype hf hn.2 ω ω (by unfold A3;omega) (.inl ⟨rfl,?_,E⟩) (λ_ w hw=>?_)
  .unfold A3;rw[hn.1];rfl
  rcases Mz.1 (My.1 Z w hw) with⟨a,b,c,_⟩|⟨_,a⟩
  .exact .inl ⟨a,b,c⟩
  exact .inr a
 intro h;simp at h
theorem bT{k:AR}(h:DZ k){f:Nat}(hf:f<12):(DH k.mem k.Zh f).2=0->DZ {k with Zh:=(DH k.mem k.Zh f).1}:=by
 unfold DH
 split
 .intro h;simp at h
 rename_i hn
 simp only[not_or,uy,wS] at hn
 split
 .intro _
  have ku:=Ix.1 hn.1;exact h.retype hf hn.2 ω ω (by unfold A3;omega) (.inr ⟨rfl,hn.1,rfl⟩) (λhh=>by simp[Bp] at hh)
 intro h;simp at h
theorem Cv{w n:Int}:(BD Zh w n).length=Zh.length:=by
 unfold BD
 split
 .exact DI
 rfl
theorem GL{w n:Int}(hl:Zh.length=12):JR (BD Zh w n) g= {JR Zh g with r:=(JR Zh g).r+n*(Ee (EG g w):Int)}:=by
 unfold BD
 split
 .rename_i Z
  rw[Fy]
  by_cases e:g=BP w
  .subst e
   rw[if_pos ⟨rfl,by rw[hl];exact Ef Z⟩];simp[JI,EG,Z,Ee]
  have e':¬BP w=g:=λx=>e x.symm
  rw[if_neg (by rintro⟨a,_⟩;exact e a)];simp[EG,Z,Ee,e']
 rename_i Z
 simp[EG,Z,Ee]
theorem QI{k:AR}{a:Nat}:e∈Gi k a↔e<3/\a∈Bg k.mem (Ab k e):=by simp[Gi,Ab]
theorem fA{k:AR}(h:DZ k){c:AT}(ha:c.a.toNat<12)(kL:0<=c.c->c.c<=9999∨Bv c.c=true∨c.c=0->Dx c.c=true):DZ (Ik k c).1:=by
 unfold Ik
 split
 .exact h
 rename_i hn
 simp only[not_or,wS] at hn;obtain⟨J,O,h3⟩:=hn;unfold EN at h3
 split
 .exact h
 rename_i bD
 have bD:((Gi k c.a.toNat).all λe=>BM k.Zh (Ds k c.c) (AH k.Xr e).Pj)=true:=by simpa using bD
 split
 .exact h
 rename_i hmay
 generalize hfd:c.a.toNat=f at*;have Y:c.b.toNat<4:=by have:=Aa.1 O;omega
 generalize en:c.b.toNat=b at*;generalize hwd:c.c=w at*;have hl:=h.len;have kr:=(Aj.1 h.mem).1;have kN:=h.row ha;have iX:Bv w=true->A3 k (BP w)=A3 k f - 1:=by intro Z;rw[if_pos Z] at h3;simpa[A3] using h3
 have jG:Bv w=false->w=0:=by intro Z;rw[if_neg (by simp[Z])] at h3;simpa using h3
 have kP:=Ix.1 J;have hU:Dx w=true:=by
  cases Z:Bv w
  .rw[jG Z];rfl
  have cy:=Z
  simp only[Bv,yD,decide_eq_true_eq] at cy;refine Aa.2 ⟨ω,ω⟩
 have iW:Bv w=true->BP w≠f:=by intro Z e;have:=iX Z;rw[e] at this;omega
 have bB:∀g,JR (BD (BD k.Zh (Aw k.mem f b) (-1)) w 1) g= {JR k.Zh g with r:=(JR k.Zh g).r+(-1)*(Ee (EG g (Aw k.mem f b)):Int)+1*(Ee (EG g w):Int)}:=by intro g;rw[GL (by rw[Cv];exact hl),GL hl]
 have b7:∀g,(JR (BD (BD k.Zh (Aw k.mem f b) (-1)) w 1) g).k=A3 k g:=λg=>by rw[bB];rfl
 have ge:∀g,(JR (BD (BD k.Zh (Aw k.mem f b) (-1)) w 1) g).g=(JR k.Zh g).g:=λg=>by rw[bB]
 have ei:AK (Cn k.mem f b w) f=(AK k.mem f).set b w:=by rw[Ih,if_pos ⟨rfl,ω⟩]
 have c5:∀g,g≠f->AK (Cn k.mem f b w) g=AK k.mem g:=λg Z=>by rw[Ih,if_neg (by rintro⟨a,_⟩;exact Z a)]
 have c6:∀t g,g∈Go.Proofs.YtlcnbkkcplllhaaGreatDoor.named (AK (Cn k.mem f b w) t)->g∈Go.Proofs.YtlcnbkkcplllhaaGreatDoor.named (AK k.mem t)∨(t=f/\Bv w=true/\BP w=g):=by
  intro t g Z
  by_cases e:t=f
  .subst e
   rw[ei] at Z
   rcases UH Z with a|a
   .exact .inl a
   exact .inr ⟨rfl,a⟩
  rw[c5 t e] at Z
  exact .inl Z
 have jN:∀e,e<3->f∉Bg k.mem (Ab k e)->(0<=Ab k e->AK (Cn k.mem f b w) (Ab k e).toNat=AK k.mem (Ab k e).toNat)/\(0<=Ab k e->∀t,t∈Go.Proofs.YtlcnbkkcplllhaaGreatDoor.named (AK k.mem (Ab k e).toNat)->AK (Cn k.mem f b w) t=AK k.mem t):=by
  intro e he f6;rw[Dz] at f6;refine⟨λh0=>c5 _ (λe'=>f6 ⟨h0,.inl e'.symm⟩),λh0 t K=>c5 _ (λe'=>f6 ⟨h0,.inr (.inl (e'▸K))⟩)⟩
 refine⟨?_,by rw[Cv,Cv];exact hl,λg Z=>?_,Wf h.Xo,h.zX,h.Pj,λe he=>?_,λe he g Z=>?_,λt K cl x H=>?_,λg Z=>?_,λy hy=>?_⟩
 .show By (Cn k.mem f b w)=true
  rw[PJ];exact Un h.mem (U5 ((Aj.1 h.mem).2 f ha) hU)
 .show VI (JR (BD (BD k.Zh (Aw k.mem f b) (-1)) w 1) g)
  rw[bB];exact h.inf g Z
 .rcases h.roots e he with x|⟨x,y,ai⟩
  .exact .inl x
  exact .inr ⟨x,y,by show(JR (BD (BD k.Zh (Aw k.mem f b) (-1)) w 1) (Ab k e).toNat).k=3;rw[b7];exact ai⟩
 .show Cd (BJ k e) (JR (BD (BD k.Zh (Aw k.mem f b) (-1)) w 1) g).g=true
  rw[ge]
  by_cases hr:f∈Bg k.mem (Ab k e)
  .have hu:∀g,g∈Ds k w->Cd (BJ k e) (JR k.Zh g).g=true:=Gv.1 (yr.1 bD e (QI.2 ⟨he,hr⟩))
   have b6:∀g,Bv w=true->(BP w=g∨(Bp (A3 k (BP w))=true/\g∈Go.Proofs.YtlcnbkkcplllhaaGreatDoor.named (AK k.mem (BP w))))->g∈Ds k w:=by
    intro g Z hh;unfold Ds;rw[if_pos Z]
    rcases hh with rfl|⟨J,O⟩
    .exact wF ..
    unfold A3 at J
    rw[if_pos J];exact vV _ O
   obtain⟨h0,cy⟩:=Dz.1 Z
   change 0<=Ab k e at h0
   have old:∀g,(g=(Ab k e).toNat∨g∈Go.Proofs.YtlcnbkkcplllhaaGreatDoor.named (AK k.mem (Ab k e).toNat)∨∃t,t∈Go.Proofs.YtlcnbkkcplllhaaGreatDoor.named (AK k.mem (Ab k e).toNat)/\g∈Go.Proofs.YtlcnbkkcplllhaaGreatDoor.named (AK k.mem t))->Cd (BJ k e) (JR k.Zh g).g=true:=λg hh=>h.allow e he g (Dz.2 ⟨h0,hh⟩)
   rcases cy with cy|cy|⟨t,K,cy⟩
   .exact old g (.inl cy)
   .rcases c6 _ _ cy with a|⟨_,a,b⟩
    .exact old g (.inr (.inl a))
    exact hu g (b6 g a (.inl b))
   rcases c6 _ _ cy with a|⟨_,a,b⟩
   .rcases c6 _ _ K with a'|⟨er,a',b'⟩
    .exact old g (.inr (.inr ⟨t,a',a⟩))
    have ic:=(h.zI he h0).2
    change (Ab k e).toNat=f at er
    rw[er] at ic;refine hu g (b6 g a' (.inr ⟨?_,by rw[b'];exact a⟩));rw[iX a',ic];rfl
   exact hu g (b6 g a (.inl b))
  obtain⟨r0,r1⟩:=jN e he hr
  exact h.allow e he g ((Qi r0 r1 g).1 Z)
 .have bE:Bp (JR (BD (BD k.Zh (Aw k.mem f b) (-1)) w 1) t).k=true:=cl
  rw[b7] at bE
  show(Bv x=true/\BP x≠t/\(JR (BD (BD k.Zh (Aw k.mem f b) (-1)) w 1) (BP x)).k=(JR (BD (BD k.Zh (Aw k.mem f b) (-1)) w 1) t).k - 1)∨x=0
  rw[b7,b7];have gw:x∈AK (Cn k.mem f b w) t:=H
  by_cases e:t=f
  .subst e
   rw[ei] at gw
   rcases vd gw with gw|rfl
   .exact h.tabs t K bE x gw
   cases Z:Bv x
   .exact .inr (jG Z)
   exact .inl ⟨rfl,iW Z,iX Z⟩
  rw[c5 t e] at gw
  exact h.tabs t K bE x gw
 .show(JR (BD (BD k.Zh (Aw k.mem f b) (-1)) w 1) g).r=(countP (Cn k.mem f b w) (BD (BD k.Zh (Aw k.mem f b) (-1)) w 1) g:Int)+(Ew k.Xr g:Int)
  have b9:=NJ (F:=Mv (Cn k.mem f b w) (BD (BD k.Zh (Aw k.mem f b) (-1)) w 1) g) (G:=Mv k.mem k.Zh g) ha (λt K bb=>by unfold Mv;rw[b7,c5 t bb];rfl)
  rw[<-E9,<-E9] at b9;have c1:Mv (Cn k.mem f b w) (BD (BD k.Zh (Aw k.mem f b) (-1)) w 1) g f=(Go.Proofs.YtlcnbkkcplllhaaGreatDoor.named ((AK k.mem f).set b w)).count g:=by unfold Mv;rw[b7,ei];exact if_pos J
  have c2:Mv k.mem k.Zh g f=(Go.Proofs.YtlcnbkkcplllhaaGreatDoor.named (AK k.mem f)).count g:=if_pos J;have c3:(Go.Proofs.YtlcnbkkcplllhaaGreatDoor.named ((AK k.mem f).set b w)).count g+Ee (EG g (Aw k.mem f b))=(Go.Proofs.YtlcnbkkcplllhaaGreatDoor.named (AK k.mem f)).count g+Ee (EG g w):=aU (ω:b<(AK k.mem f).length);rw[c1,c2] at b9;have:=h.refs g Z;rw[bB];simp only;omega
 obtain⟨hQ,jF⟩:=Zt.1 hy
 have h4:=h.trans y hQ;have fp:=(Ey.1 h.Xo).1 y hQ;unfold CQ at fp;simp only[yD,Aa] at fp;have he:y.e.toNat<3:=ω;have f6:f∉Bg k.mem (Ab k y.e.toNat):=λhr=>jF y.e.toNat (QI.2 ⟨he,hr⟩) ω
 obtain⟨r0,r1⟩:=jN _ he f6;unfold Cz at h4 ⊢;simp only[yD,decide_eq_true_eq] at h4 ⊢;exact⟨h4.1,(Tk (a:=4*y.p.toNat) (r0 h4.1) (r1 h4.1)).trans h4.2⟩
def Hh(Zh:List AX)(old new:Int):List AX:=
 if 0<=new then Ao (if 0<=old then Ao Zh old.toNat (JI (-1)) else Zh) new.toNat (JI 1) else(if 0<=old then Ao Zh old.toNat (JI (-1)) else Zh)
theorem Yu:(Hh Zh old new).length=Zh.length:=by
 unfold Hh
 split<;>split<;>simp[DI]
theorem U4 (hl:Zh.length=12)(Z:g<12):JR (Hh Zh old new) g= {JR Zh g with r:=(JR Zh g).r - (Ee (decide (old=(g:Int))):Int)+(Ee (decide (new=(g:Int))):Int)}:=by
 have J:JR (if 0<=old then Ao Zh old.toNat (JI (-1)) else Zh) g= {JR Zh g with r:=(JR Zh g).r - (Ee (decide (old=(g:Int))):Int)}:=by
  split
  .rw[Fy]
   by_cases e:g=old.toNat
   .rw[if_pos ⟨e,ω⟩,<-e]
    have:old=(g:Int):=ω;simp[JI,Ee,this];omega
   rw[if_neg (by rintro⟨a,_⟩;exact e a)]
   have:¬old=(g:Int):=ω;simp[Ee,this]
  have:¬old=(g:Int):=ω;simp[Ee,this]
 have O:(if 0<=old then Ao Zh old.toNat (JI (-1)) else Zh).length=12:=by split<;>simp[DI,hl]
 unfold Hh
 split
 .rw[Fy,O]
  by_cases e:g=new.toNat
  .rw[if_pos ⟨e,ω⟩,<-e,J]
   have:new=(g:Int):=ω;simp[JI,Ee,this]
  rw[if_neg (by rintro⟨a,_⟩;exact e a),J]
  have:¬new=(g:Int):=ω;simp[Ee,this]
 rw[J]
 have:¬new=(g:Int):=ω;simp[Ee,this]
theorem bI (hl:Xr.length=3)(he:e<3){n:Int}:Ew (Ao Xr e (EJ n)) g+Ee (decide ((AH Xr e).root=(g:Int)))=Ew Xr g+Ee (decide (n=(g:Int))):=by
 rw[Ig (by rw[DI];exact hl),Ig hl];simp only[IA,hl];have:e=0∨e=1∨e=2:=ω;rcases this with rfl|rfl|rfl<;>simp[EJ]<;>omega
theorem Yv (hl:Xr.length=3){ss:List ByteArray}:Ew (Ao Xr e (BT ss)) g=Ew Xr g:=by
 rw[Ig (by rw[DI];exact hl),Ig hl];simp only[IA]
 by_cases h0:0=e/\e<Xr.length<;>by_cases J:1=e/\e<Xr.length<;>by_cases O:2=e/\e<Xr.length<;>simp only[h0,J,O,if_true,if_false,BT]<;>(try (obtain⟨rfl,_⟩:=h0))<;>(try (obtain⟨rfl,_⟩:=J))<;>(try (obtain⟨rfl,_⟩:=O))<;>simp
theorem de{k:AR}(h:DZ k){c:AT}(he:0<=c.e/\c.e<=2):DZ (Ly k c).1:=by
 unfold Ly
 split
 .exact h
 rename_i J
 split
 .exact h
 rename_i O
 have O:BM k.Zh (Bg k.mem c.a) (BJ k c.e.toNat)=true:=by simpa[BJ] using O
 rw[Gv] at O;have iw:c.e.toNat<3:=ω;generalize hed:c.e.toNat=e at*;generalize c.a=n at*;have J:n= -1∨(0<=n/\n<=11/\A3 k n.toNat=3):=by
  by_cases hn:n= -1
  .exact .inl hn
  right
  have J:¬(Bj n 0 11=false∨(JR k.Zh n.toNat).k≠3):=λhh=>J ⟨hn,hh⟩
  simp only[not_or,wS,uy] at J;have:=Aa.1 J.1;exact⟨this.1,this.2,J.2⟩
 show DZ ⟨k.mem,Hh k.Zh (Ab k e) n,Ao k.Xr e (EJ n),Gm k.Xo c.e⟩
 have bB:=λg (Z:g<12)=>U4 (Zh:=k.Zh) (old:=Ab k e) (new:=n) (g:=g) h.len Z
 have cw:∀j,AH (Ao k.Xr e (EJ n)) j=if j=e then⟨BJ k e,n⟩ else AH k.Xr j:=by
  intro j;rw[IA,h.zX]
  by_cases X:j=e
  .rw[if_pos ⟨X,iw⟩,if_pos X];rfl
  rw[if_neg (by rintro⟨a,_⟩;exact X a),if_neg X]
 refine⟨h.mem,by rw[Yu];exact h.len,λg Z=>?_,We h.Xo,by rw[DI];exact h.zX,λj X=>?_,λj X=>?_,λj X g Z=>?_,λt K cl x H=>?_,λg Z=>?_,λy hy=>?_⟩
 .show VI (JR (Hh _ _ _) g)
  rw[bB g Z];exact h.inf g Z
 .show BW (AH (Ao k.Xr e (EJ n)) j).Pj=true
  rw[cw]
  split
  .exact h.Pj e iw
  exact h.Pj j X
 .show(AH (Ao k.Xr e (EJ n)) j).root= -1∨(0<=(AH (Ao k.Xr e (EJ n)) j).root/\(AH (Ao k.Xr e (EJ n)) j).root<=11/\(JR (Hh k.Zh (Ab k e) n) (AH (Ao k.Xr e (EJ n)) j).root.toNat).k=3)
  rw[cw]
  split
  .rcases J with J|⟨a,b,d⟩
   .exact .inl J
   refine .inr ⟨a,b,?_⟩
   rw[bB _ η];exact d
  rcases h.roots j X with x|⟨x,y,ai⟩
  .exact .inl x
  refine .inr ⟨x,y,?_⟩
  have H:(AH k.Xr j).root=Ab k j:=rfl;rw[H,bB _ ω];exact ai
 .have ec:g∈Bg k.mem (AH (Ao k.Xr e (EJ n)) j).root:=Z
  show Cd (AH (Ao k.Xr e (EJ n)) j).Pj (JR (Hh k.Zh (Ab k e) n) g).g=true
  rw[cw] at ec ⊢
  by_cases ek:j=e
  .simp only[ek,if_true] at ec ⊢
   have ji:g<12:=by
    obtain⟨h0,hh⟩:=Dz.1 ec
    rcases hh with rfl|hh|⟨t,_,hh⟩
    .rcases J with J|J<;>omega
    .exact GI hh
    exact GI hh
   rw[bB g ji];exact O g ec
  simp only[ek,if_false] at ec ⊢
  rw[bB g (h.zG X ec).1];exact h.allow j X g ec
 .have bE:Bp (JR (Hh k.Zh (Ab k e) n) t).k=true:=cl
  rw[bB t K] at bE
  show(Bv x=true/\BP x≠t/\(JR (Hh k.Zh (Ab k e) n) (BP x)).k=(JR (Hh k.Zh (Ab k e) n) t).k - 1)∨x=0
  rcases h.tabs t K bE x H with⟨a,b,d⟩|rfl
  .refine .inl ⟨a,b,?_⟩
   rw[bB t K,bB _ (Ef a)];exact d
  exact .inr rfl
 .show(JR (Hh k.Zh (Ab k e) n) g).r=(countP k.mem (Hh k.Zh (Ab k e) n) g:Int)+(Ew (Ao k.Xr e (EJ n)) g:Int)
  have N:countP k.mem (Hh k.Zh (Ab k e) n) g=countP k.mem k.Zh g:=by
   rw[E9,E9];refine LI λt K=>?_
   unfold Mv;rw[bB t K]
  have hr:=bI (g:=g) h.zX iw (n:=n);have:=h.refs g Z;rw[N,bB g Z];have e':(AH k.Xr e).root=Ab k e:=rfl;rw[e'] at hr;simp only;omega
 obtain⟨hQ,jF⟩:=Ua.1 hy
 have h4:=h.trans y hQ;have fp:=(Ey.1 h.Xo).1 y hQ;unfold CQ at fp;simp only[yD,Aa] at fp;have bb:y.e.toNat≠e:=ω;unfold Cz at h4 ⊢;rw[show AH (AR.Xr ⟨k.mem,Hh k.Zh (Ab k e) n,Ao k.Xr e (EJ n),Gm k.Xo c.e⟩) y.e.toNat=AH k.Xr y.e.toNat from by show AH (Ao k.Xr e (EJ n)) y.e.toNat=_;rw[cw,if_neg bb]];exact h4
theorem DZ.zt{k:AR}(h:DZ k)(he:e<3){ss:List ByteArray}(V:BW ss=true)(ha:∀f,f∈Bg k.mem (Ab k e)->Cd ss (JR k.Zh f).g=true):DZ {k with Xr:=Ao k.Xr e (BT ss)}:=by
 have cw:∀j,AH (Ao k.Xr e (BT ss)) j=if j=e then⟨ss,Ab k e⟩ else AH k.Xr j:=by
  intro j;rw[IA,h.zX]
  by_cases X:j=e
  .rw[if_pos ⟨X,he⟩,if_pos X];rfl
  rw[if_neg (by rintro⟨a,_⟩;exact X a),if_neg X]
 have bK:∀j,(AH (Ao k.Xr e (BT ss)) j).root=Ab k j:=by
  intro j;rw[cw]
  split
  .rename_i X;rw[X]
  rfl
 refine⟨h.mem,h.len,h.inf,h.Xo,by rw[DI];exact h.zX,λj X=>?_,λj X=>?_,λj X g Z=>?_,h.tabs,λg Z=>?_,λy hy=>?_⟩
 .show BW (AH (Ao k.Xr e (BT ss)) j).Pj=true
  rw[cw]
  split
  .exact V
  exact h.Pj j X
 .show(AH (Ao k.Xr e (BT ss)) j).root= -1∨(0<=(AH (Ao k.Xr e (BT ss)) j).root/\(AH (Ao k.Xr e (BT ss)) j).root<=11/\(JR k.Zh (AH (Ao k.Xr e (BT ss)) j).root.toNat).k=3)
  rw[bK];exact h.roots j X
 .have ec:g∈Bg k.mem (AH (Ao k.Xr e (BT ss)) j).root:=Z
  show Cd (AH (Ao k.Xr e (BT ss)) j).Pj (JR k.Zh g).g=true
  rw[bK] at ec;rw[cw]
  split
  .rename_i ek
   rw[ek] at ec;exact ha g ec
  exact h.allow j X g ec
 .show(JR k.Zh g).r=(countP k.mem k.Zh g:Int)+(Ew (Ao k.Xr e (BT ss)) g:Int)
  rw[Yv h.zX];exact h.refs g Z
 have h4:=h.trans y hy
 unfold Cz at h4 ⊢;rw[show(AH (AR.Xr {k with Xr:=Ao k.Xr e (BT ss)}) y.e.toNat).root=(AH k.Xr y.e.toNat).root from bK _];exact h4
theorem aC{k:AR}(h:DZ k){c:AT}:DZ (Fx k c).1:=by
 unfold Fx
 split
 .exact h
 rename_i J
 simp only[not_or,wS] at J;have:=Aa.1 J.1
 split
 .exact h
 split
 .exact h
 exact h.zt ω (cH (h.Pj _ ω) J.2) (λf hf=>aS (λs V=>cG V) (h.allow _ ω f hf))
theorem Yr{k:AR}(h:DZ k){c:AT}:DZ (ER k c).1:=by
 unfold ER
 split
 .exact h
 rename_i J
 simp only[not_or,wS] at J;have:=Aa.1 J.1
 split
 .exact h
 split
 .exact h
 rename_i h3
 have h3:=Gv.1 (show BM k.Zh (Bg k.mem (Ab k c.a.toNat)) (Bi (AH k.Xr c.a.toNat).Pj c.nm)=true by simpa[Ab] using h3);exact h.zt ω (Zu (h.Pj _ ω)) h3
theorem fE{k:AR}(h:DZ k){c:AT}(he:0<=c.e/\c.e<=2):DZ (PV k c).1:=by
 unfold PV;simp only
 split
 .exact h
 rename_i J
 simp only[not_or,wS] at J;obtain⟨ha,hr,Y⟩:=J
 split
 .exact h
 rename_i hw
 split
 .exact h
 have iw:c.e.toNat<3:=ω;have hr:0<=Ab k c.e.toNat:=by unfold Ab;omega
 have hw:(CU k.mem (Ab k c.e.toNat).toNat c.a.toNat).1=0:=by simpa[Ab] using hw
 obtain⟨hf,E,_⟩:=h.zb iw hr hw;have ha:=Aa.1 ha;have hC:Bk (if IG k.Xo c.e (c.a/4)<0 then Ju k.Xo ⟨c.e,c.a/4,((CU k.mem (Ab k c.e.toNat).toNat c.a.toNat).2.1:Nat),(CU k.mem (Ab k c.e.toNat).toNat c.a.toNat).2.2⟩ else k.Xo)=true:=by
  split
  .refine ZS h.Xo ?_
   simp only[CQ,yD,Aa];omega
  exact h.Xo
 have hT:∀y∈(if IG k.Xo c.e (c.a/4)<0 then Ju k.Xo ⟨c.e,c.a/4,((CU k.mem (Ab k c.e.toNat).toNat c.a.toNat).2.1:Nat),(CU k.mem (Ab k c.e.toNat).toNat c.a.toNat).2.2⟩ else k.Xo),Cz k y=true:=by
  intro y hy
  split at hy
  .rcases XS hy with rfl|hy
   .unfold Cz
    simp only[yD,decide_eq_true_eq];refine⟨hr,?_⟩;have e1:4*(c.a/4).toNat/16=c.a.toNat/16:=ω;have e2:4*(c.a/4).toNat/4%4=c.a.toNat/4%4:=ω;have e3:CU k.mem (AH k.Xr c.e.toNat).root.toNat (4*(c.a/4).toNat)=CU k.mem (Ab k c.e.toNat).toNat c.a.toNat:=by unfold CU;rw[e1,e2];rfl
    rw[e3,yq];exact Prod.ext hw rfl
   exact h.trans y hy
  exact h.trans y hy
 split
 .rename_i h11
  refine ZQ h hf E ?_ hC hT;simp only[not_and,wS] at Y;exact Y h11
 have:=h.data (x:=JR k.Zh (CU k.mem (Ab k c.e.toNat).toNat c.a.toNat).2.1) hf (.inr E) ((Aj.1 h.mem).2 _ hf) (h.inf _ hf) (.inr E) rfl (.inl ⟨rfl,rfl⟩) hC hT
 rw[show k.Zh.set _ (JR k.Zh (CU k.mem (Ab k c.e.toNat).toNat c.a.toNat).2.1)=k.Zh from PK,show k.mem.set _ (AK k.mem (CU k.mem (Ab k c.e.toNat).toNat c.a.toNat).2.1)=k.mem from PK] at this;exact this
theorem Z0{k:AR}(h:DZ k){c:AT}:DZ (IV k c).1:=by
 unfold IV
 split
 .exact h
 rename_i J
 simp only[not_or,wS,not_and] at J;have ha:=Aa.1 J.1;have ix:c.a.toNat<12:=ω
 split
 .exact h
 split
 .exact cZ h ix
 split
 .exact da h ix
 split
 .rename_i h4
  exact Uv h (ep h ix (J.2.2 h4))
 split
 .exact Uv h (bT h ix)
 exact fA h ix (λh0 hh=>by
  rcases hh with hh|hh|hh
  .exact Aa.2 ⟨h0,hh⟩
  .simp only[Bv,yD,decide_eq_true_eq] at hh
   exact Aa.2 ⟨ω,ω⟩
  rw[hh];rfl)
theorem Od{k:AR}(h:DZ k){c:AT}(he:0<=c.e/\c.e<=2):DZ (Ad k c).1:=by
 unfold Ad
 split
 .exact dq h
 split
 .exact Z0 h
 split
 .exact de h he
 split
 .exact aC h
 split
 .exact Yr h
 split
 .exact fE h he
 exact h
structure Bx where
 w:Int
 a:Int
 u:Bool
 deriving DecidableEq
structure AP where
 V0:AR
 swap:List (List Int)
 low:List Int
 Xs:List Bx
 FU:Int
 VO:Int
 deriving DecidableEq
def gA:ByteArray:=⟨#[97]⟩
def AD(l:List Bx)(n:Nat):Bx:=l.getD n ⟨0,0,false⟩
def Bd(l:List Int)(n:Nat):Int:=l.getD n 0
def F9(s:List (List Int)):Bool:=s.all (λr=>r.isEmpty||EP r)&&decide (s.length=16)
def Ip(f:Int):Int:=4*f+3
def Gp(Zh:List AX)(f:Nat):Bool:=decide ((JR Zh f).g=gA)&&decide ((JR Zh f).r=1)
def Ga(p:AP)(i:Nat):Bool:=Bj (Bd p.low i) 0 11&&decide (Aw p.V0.mem (Ab p.V0 0).toNat i=Ip (Bd p.low i))&&Gp p.V0.Zh (Bd p.low i).toNat
def Cb(p:AP):Bool:=decide (0<=Ab p.V0 0)&&decide (p.low.length=4)&&Gp p.V0.Zh (Ab p.V0 0).toNat&&(yL 4).all (Ga p)
def CZ(p:AP)(n:Nat):Int:=Aw p.V0.mem (Bd p.low (n/4)).toNat (n%4)
def IC(p:AP)(n:Nat):Bool:=
 if(AD p.Xs n).w=0 then decide ((AD p.Xs n).a=0)&&!(AD p.Xs n).u&&decide (CZ p n=0)
 else if(AD p.Xs n).w=1 then Bj (AD p.Xs n).a 0 11&&decide (CZ p n=Ip (AD p.Xs n).a)&&Gp p.V0.Zh (AD p.Xs n).a.toNat
 else if(AD p.Xs n).w=2 then Bj (AD p.Xs n).a 0 15&&!(AK p.swap (AD p.Xs n).a.toNat).isEmpty&&!(AD p.Xs n).u&&decide (CZ p n=0)
 else false
def DK(s:Nat)(x:Bx):Bool:=decide (x.w=2)&&decide (x.a=(s:Int))
def Cm(Xs:List Bx)(s:Nat):Nat:=Xs.countP (DK s)
def ET(p:AP)(s:Nat):Bool:=decide (Cm p.Xs s=if(AK p.swap s).isEmpty then 0 else 1)
def IN(k:AR):Bool:=Cd (BJ k 0) gA&&!Cd (BJ k 1) gA&&!Cd (BJ k 2) gA
def Pz(w:Int)(x:Bx):Bool:=decide (x.w=w)
def Al(Xs:List Bx)(w:Int):Nat:=Xs.countP (Pz w)
def BN(p:AP):Bool:=
 Cx p.V0&&F9 p.swap&&IN p.V0&&Cb p&&decide (p.Xs.length=16)&&(yL 16).all (ET p)&&(yL 16).all (IC p)&&Bj p.FU 0 15&&Bj p.VO 1 6&&decide ((Al p.Xs 1:Int)<=p.VO)
def Ah(kind a b c:Int):AT:=⟨kind,0,a,b,c,gA⟩
def JU(p:AP)(n:Nat)(w:Int):AT:=Ah 6 (Bd p.low (n/4)) ((n%4:Nat):Int) w
def FJ(h:Int):Int:=(h+1)%16
def PT(x:Bx):Bx:= {x with u:=false}
def Cq:Nat->List Bx->Int->List Bx×Int×Option Nat
 |0,Xs,FU=>(Xs,FU,none)
 |n+1,Xs,FU=>
  if(AD Xs FU.toNat).w=1/\(AD Xs FU.toNat).u=false then(Xs,FJ FU,some FU.toNat)
  else Cq n (Xs.set FU.toNat (PT (AD Xs FU.toNat))) (FJ FU)
def Bs(s:List (List Int)):Int:=if s.any uf then(s.findIdx uf:Nat) else -1
def Er(p:AP)(n:Nat):AP:=
 {p with V0:=(Ad (Ad p.V0 (JU p n 0)).1 (Ah 2 (AD p.Xs n).a 0 0)).1,swap:=p.swap.set (Bs p.swap).toNat (AK p.V0.mem (AD p.Xs n).a.toNat),Xs:=p.Xs.set n ⟨2,Bs p.swap,false⟩}
def XR(k:AR)(f:Int)(ws:List Int):AR:=(yL 4).foldl (λk i=>(Ad k (Ah 3 f (i:Nat) (ws.getD i 0))).1) k
def Qv(p:AP)(n:Nat):AP×Bool:=
 let r:=Ad p.V0 (Ah 1 0 0 0)
 if r.2.2≠0 then(p,false)
 else
  let x:=AD p.Xs n
  let k2:=if x.w=2 then XR r.1 r.2.1 (AK p.swap x.a.toNat) else r.1
  ({p with V0:=(Ad k2 (JU p n (Ip r.2.1))).1,swap:=if x.w=2 then p.swap.set x.a.toNat [] else p.swap,Xs:=p.Xs.set n ⟨1,r.2.1,true⟩},true)
def GD(Xs:List Bx)(n:Nat):List Bx:=Xs.set n {AD Xs n with u:=true}
def Jf(p:AP):Bool:=decide (An p.V0.Zh<0)||decide ((Al p.Xs 1:Int)=p.VO)
def Bm(p:AP)(n:Nat):AP×Bool:=
 if(AD p.Xs n).w=1 then({p with Xs:=GD p.Xs n},true)
 else if An p.V0.Zh<0/\Al p.Xs 1=0 then(p,false)
 else if Jf p then
  match Cq 32 p.Xs p.FU with
  |(Xs,FU,some m)=>Qv (Er {p with Xs:=Xs,FU:=FU} m) n
  |(_,_,none)=>(p,false)
 else Qv p n
def GC(p:AP)(a:Nat):AP×Int×Bool:=
 let t:=Bm p (a/4)
 if t.2 then({t.1 with V0:=(Ad t.1.V0 (Ah 10 (a:Int) 0 0)).1},(Ad t.1.V0 (Ah 10 (a:Int) 0 0)).2.1,true) else(t.1,0,false)
def Gf(p:AP)(a:Nat)(w:Int):AP×Bool:=
 let t:=Bm p (a/4)
 if t.2 then({t.1 with V0:=(Ad t.1.V0 (Ah 11 (a:Int) w 0)).1},true) else(t.1,false)
def HY(p:AP)(c:AT):AP×Int:=({p with V0:=(Ad p.V0 c).1},(Ad p.V0 c).2.2)
def Fu(p:AP)(a:Nat):Int:=
 if(AD p.Xs (a/4)).w=1 then Aw p.V0.mem (AD p.Xs (a/4)).a.toNat (a%4)
 else if(AD p.Xs (a/4)).w=2 then Aw p.swap (AD p.Xs (a/4)).a.toNat (a%4) else 0
def L5(Zh:List AX)(f:Nat):Prop:=(JR Zh f).g=gA/\(JR Zh f).r=1
theorem Uo:Gp Zh f=true↔L5 Zh f:=by simp[Gp,L5]
def LV(p:AP)(n:Nat):Prop:=
 ((AD p.Xs n).w=0/\(AD p.Xs n).a=0/\(AD p.Xs n).u=false/\CZ p n=0)∨
 ((AD p.Xs n).w=1/\(0<=(AD p.Xs n).a/\(AD p.Xs n).a<=11)/\CZ p n=Ip (AD p.Xs n).a/\L5 p.V0.Zh (AD p.Xs n).a.toNat)∨
 ((AD p.Xs n).w=2/\(0<=(AD p.Xs n).a/\(AD p.Xs n).a<=15)/\AK p.swap (AD p.Xs n).a.toNat≠[]/\(AD p.Xs n).u=false/\CZ p n=0)
theorem J5{α:Type}{l:List α}:l.isEmpty=true↔l=[]:=si
variable{p:AP}
theorem Ym:IC p n=true↔LV p n:=by
 unfold IC LV
 by_cases h0:(AD p.Xs n).w=0
 .simp[h0,and_assoc]
 by_cases J:(AD p.Xs n).w=1
 .simp[J,and_assoc,Aa,Uo]
 by_cases O:(AD p.Xs n).w=2
 .simp[O,and_assoc,Aa]
 simp[h0,J,O]
structure Dd(p:AP):Prop where
 k:DZ p.V0
 zN:p.swap.length=16
 zF:∀s,s<16->AK p.swap s=[]∨EP (AK p.swap s)=true
 may:Cd (BJ p.V0 0) gA=true
 alone:∀e,1<=e->e<3->Cd (BJ p.V0 e) gA=false
 root:0<=Ab p.V0 0
 zD:p.low.length=4
 yW:L5 p.V0.Zh (Ab p.V0 0).toNat
 lows:∀i,i<4->0<=Bd p.low i/\Bd p.low i<=11/\Aw p.V0.mem (Ab p.V0 0).toNat i=Ip (Bd p.low i)/\L5 p.V0.Zh (Bd p.low i).toNat
 zY:p.Xs.length=16
 slots:∀s,s<16->Cm p.Xs s=if(AK p.swap s).isEmpty then 0 else 1
 Xs:∀n,n<16->LV p n
 FU:0<=p.FU/\p.FU<=15
 VO:1<=p.VO/\p.VO<=6
 count:(Al p.Xs 1:Int)<=p.VO
theorem Hv{s:List (List Int)}:F9 s=true↔s.length=16/\∀i,i<16->AK s i=[]∨EP (AK s i)=true:=by
 simp only[F9,yD,yr,decide_eq_true_eq,xM,J5];constructor
 .rintro⟨J,O⟩
  exact⟨O,λf hf=>J _ (Di ω)⟩
 rintro⟨J,O⟩
 refine⟨λr hr=>?_,J⟩;obtain⟨i,A,rfl⟩:=It (d:=[]) hr;exact O i ω
theorem Ct:BN p=true↔Dd p:=by
 unfold BN Cb IN;simp only[yD,NF,Ym,Aa,decide_eq_true_eq,FI,Hv,ET,Ga,Uo,ug];constructor
 .rintro⟨⟨⟨⟨⟨⟨⟨⟨⟨J,O⟩,h3⟩,h4⟩,h5⟩,h6⟩,h7⟩,h8⟩,h9⟩,h10⟩
  obtain⟨⟨⟨a,b⟩,c⟩,d⟩:=h4;refine⟨J,O.1,O.2,h3.1.1,λe he jX=>?_,a,b,c,λi A=>?_,h5,h6,h7,h8,h9,h10⟩
  .have:e=1∨e=2:=ω
   rcases this with rfl|rfl
   .exact h3.1.2
   exact h3.2
  obtain⟨⟨x,y⟩,ai⟩:=d i A
  exact⟨x.1,x.2,y,ai⟩
 intro h
 exact⟨⟨⟨⟨⟨⟨⟨⟨⟨h.k,h.zN,h.zF⟩,⟨h.may,h.alone 1 ω ω⟩,h.alone 2 ω ω⟩,⟨⟨h.root,h.zD⟩,h.yW⟩,λi A=>by obtain⟨x,y,ai,u⟩:=h.lows i A;exact⟨⟨⟨x,y⟩,ai⟩,u⟩⟩,h.zY⟩,h.slots⟩,h.Xs⟩,h.FU⟩,h.VO⟩,h.count⟩
theorem IZ{f:Int}(h0:0<=f)(J:f<=11):Bv (Ip f)=true/\BP (Ip f)=f.toNat/\LZ (Ip f)=true:=by unfold Bv BP LZ Ip;simp only[yD,decide_eq_true_eq];refine⟨⟨⟨?_,?_⟩,?_⟩,?_,?_⟩<;>omega
theorem Y9{a:Nat}(ha:a<n)(Y:b<n)(bb:a≠b)(J:1<=F a)(O:1<=F b):2<=((yL n).map F).sum:=by
 have e1:=NJ (F:=F) (G:=λt=>if t=a then 0 else F t) ha (λt _ bb=>by simp[bb]);have e2:=NJ (F:=λt=>if t=a then 0 else F t) (G:=λt=>if t=b then 0 else if t=a then 0 else F t) Y (λt _ bb=>by simp[bb]);have fm:¬b=a:=λe=>bb e.symm
 simp only[if_true,fm,if_false] at e1 e2;omega
theorem Sr{a:Nat}(ha:a<n):F a<=((yL n).map F).sum:=by
 have e1:=NJ (F:=F) (G:=λt=>if t=a then 0 else F t) ha (λt _ bb=>by simp[bb]);simp only[if_true] at e1;omega
theorem Zs{p:Int->Bool}(A:i<r.length)(X:j<r.length)(bb:i≠j)(J:p (r.getD i 0)=true)(O:p (r.getD j 0)=true):2<=r.countP p:=by
 induction r generalizing i j with
 |nil=>simp at A
 |cons x r ih=>
  rw[xt];cases i with
  |zero=>
   cases j with
   |zero=>omega
   |succ j=>simp at J O X;have:0<r.countP p:=ut.2 ⟨_,Di (d:=0) X,by simpa using O⟩;rw[if_pos (by simpa using J)];omega
  |succ i=>
   cases j with
   |zero=>simp at J O A;have:0<r.countP p:=ut.2 ⟨_,Di (d:=0) A,by simpa using J⟩;rw[if_pos (by simpa using O)];omega
   |succ j=>have:=ih (i:=i) (j:=j) (by simpa using A) (by simpa using X) ω (by simpa using J) (by simpa using O);omega
section
variable {k:AR} (h:DZ k)
include h
theorem DZ.yX{i:Nat}(K:t<12)(cl:Bp (A3 k t)=true)(A:i<4)(hn:EG f (Aw k.mem t i)=true):1<=Mv k.mem k.Zh f t:=by unfold Mv;unfold A3 at cl;rw[if_pos cl,Kj];exact ut.2 ⟨_,Di (d:=0) (by rw[h.row K];exact A),hn⟩
theorem DZ.once{i t' i':Nat}(hf:f<12)(J:(JR k.Zh f).r=1)(K:t<12)(cl:Bp (A3 k t)=true)(A:i<4)(hn:EG f (Aw k.mem t i)=true)
 (jJ:t'<12)(fa:Bp (A3 k t')=true)(iP:i'<4)(jP:EG f (Aw k.mem t' i')=true):t=t'/\i=i':=by
 have hr:=h.refs f hf;have N:countP k.mem k.Zh f<=1:=ω;rw[E9] at N
 by_cases e:t=t'
 .subst e
  refine⟨rfl,?_⟩
  by_cases e:i=i'
  .exact e
  exfalso
  have O:2<=Mv k.mem k.Zh f t:=by unfold Mv;unfold A3 at cl;rw[if_pos cl,Kj];exact Zs (by rw[h.row K];exact A) (by rw[h.row K];exact iP) e hn jP
  have:=Sr (F:=Mv k.mem k.Zh f) K;omega
 exfalso
 have:=Y9 (F:=Mv k.mem k.Zh f) K jJ e (h.yX K cl A hn) (h.yX jJ fa iP jP);omega
theorem DZ.zm{i e:Nat}(hf:f<12)(J:(JR k.Zh f).r=1)(K:t<12)(cl:Bp (A3 k t)=true)(A:i<4)(hn:EG f (Aw k.mem t i)=true)(he:e<3):Ab k e≠(f:Int):=by
 intro hr;have ie:=h.refs f hf;have O:=Sr (F:=Mv k.mem k.Zh f) K;have h3:=h.yX K cl A hn;rw[<-E9] at O;rw[Ig h.zX] at ie;unfold Ab at hr;have:e=0∨e=1∨e=2:=ω
 unfold Ee at ie
 rcases this with rfl|rfl|rfl<;>simp[hr] at ie<;>split at ie<;>(try split at ie)<;>omega
theorem DZ.named_at{g:Nat}(K:t<12)(Z:g∈Go.Proofs.YtlcnbkkcplllhaaGreatDoor.named (AK k.mem t)):∃i,i<4/\EG g (Aw k.mem t i)=true:=by obtain⟨w,hw,J,O⟩:=GJ.1 Z;obtain⟨i,A,rfl⟩:=It (d:=0) hw;rw[h.row K] at A;exact⟨i,A,by simp only[EG,Aw,yD];exact⟨J,decide_eq_true O⟩⟩
end
section
variable {p:AP} (h:Dd p)
include h
theorem Dd.zK:(Ab p.V0 0).toNat<12/\A3 p.V0 (Ab p.V0 0).toNat=3:=h.k.zI ω h.root
theorem Dd.zw{i:Nat}(A:i<4):EG (Bd p.low i).toNat (Aw p.V0.mem (Ab p.V0 0).toNat i)=true:=by obtain⟨a,b,c,_⟩:=h.lows i A;obtain⟨x,y,_⟩:=IZ a b;rw[c];simp[EG,x,y]
theorem Dd.zU{i:Nat}(A:i<4):(Bd p.low i).toNat<12/\A3 p.V0 (Bd p.low i).toNat=2:=by obtain⟨a,b,c,_⟩:=h.lows i A;obtain⟨x,y,_⟩:=IZ a b;have hm:=Kc (m:=p.V0.mem) (f:=(Ab p.V0 0).toNat) (i:=i) (by rw[c];exact x);rw[c,y] at hm;exact h.k.zU ω h.root hm
theorem Dd.ze{i j:Nat}(A:i<4)(X:j<4)(e:(Bd p.low i).toNat=(Bd p.low j).toNat):i=j:=by have hr:=h.zK;have hl:=h.zU A;have J:=h.zw A;have O:=h.zw X;rw[<-e] at O;exact(h.k.once hl.1 (h.lows i A).2.2.2.2 hr.1 (by rw[hr.2];rfl) A J hr.1 (by rw[hr.2];rfl) X O).2
theorem Dd.zQ{n:Nat}(hn:n<16)(hw:(AD p.Xs n).w=1):EG (AD p.Xs n).a.toNat (CZ p n)=true/\(0<=(AD p.Xs n).a/\(AD p.Xs n).a<=11)/\L5 p.V0.Zh (AD p.Xs n).a.toNat:=by
 rcases h.Xs n hn with⟨a,_⟩|⟨_,b,c,d⟩|⟨a,_⟩
 .omega
 .obtain⟨x,y,_⟩:=IZ b.1 b.2
  refine⟨?_,b,d⟩;rw[c];simp[EG,x,y]
 omega
theorem Dd.zR{n:Nat}(hn:n<16)(hw:(AD p.Xs n).w=1):(AD p.Xs n).a.toNat<12/\A3 p.V0 (AD p.Xs n).a.toNat=1:=by
 obtain⟨a,b,_⟩:=h.zQ hn hw;have hl:=h.zU (i:=n/4) ω;have ha:Bv (CZ p n)=true/\BP (CZ p n)=(AD p.Xs n).a.toNat:=by simpa[EG] using a
 have hm:=Kc (m:=p.V0.mem) (f:=(Bd p.low (n/4)).toNat) (i:=n%4) ha.1;have:=h.k.named hl.1 (by rw[hl.2];rfl) hm;have e:BP (Aw p.V0.mem (Bd p.low (n/4)).toNat (n%4))=(AD p.Xs n).a.toNat:=ha.2;rw[e] at this;exact⟨this.1,ω⟩
theorem Dd.zl{n m:Nat}(hn:n<16)(hm:m<16)(hw:(AD p.Xs n).w=1)(ki:(AD p.Xs m).w=1)(e:(AD p.Xs n).a.toNat=(AD p.Xs m).a.toNat):n=m:=by obtain⟨a,b,c⟩:=h.zQ hn hw;obtain⟨a',_,_⟩:=h.zQ hm ki;rw[<-e] at a';have hl:=h.zU (i:=n/4) ω;have bA:=h.zU (i:=m/4) ω;have E:=h.zR hn hw;have:=h.k.once E.1 c.2 hl.1 (by rw[hl.2];rfl) (i:=n%4) ω a bA.1 (by rw[bA.2];rfl) (i':=m%4) ω a';have:=h.ze ω ω this.1;omega
end
theorem gD{k:AR}(h:Cd (BJ k 0) gA=true){g:ByteArray}(Z:g=gA):Ff k 0 g=true:=by subst Z;exact h
theorem Nw{k:AR}{a b c:Int}(J:2<=kind)(h6:kind<=6)(gq:0<=a)(ha:a<=11)(E:A3 k a.toNat≠0)(h4:kind≠4)(hm:Cd (BJ k 0) gA=true)(Z:(JR k.Zh a.toNat).g=gA):
 Ad k (Ah kind a b c)=if kind=2 then K4 k (Ah kind a b c) else if kind=3 then LE k (Ah kind a b c) else if kind=5 then EB k (DH k.mem k.Zh a.toNat) else Ik k (Ah kind a b c):=by
 have e1:¬(Ah kind a b c).k=1:=by show ¬kind=1;omega
 have e2:Bj (Ah kind a b c).k 2 6=true:=Aa.2 ⟨J,h6⟩;have e3:¬(Bj (Ah kind a b c).a 0 11=false∨(JR k.Zh (Ah kind a b c).a.toNat).k=0∨((Ah kind a b c).k=4/\Bp (Ah kind a b c).b=false)):=by
  rintro(x|x|x)
  .rw[show Bj (Ah kind a b c).a 0 11=true from Aa.2 ⟨gq,ha⟩] at x;cases x
  .exact E x
  exact h4 x.1
 have e4:¬Ff k (Ah kind a b c).e (JR k.Zh (Ah kind a b c).a.toNat).g=false:=by rw[show Ff k (Ah kind a b c).e (JR k.Zh (Ah kind a b c).a.toNat).g=true from gD hm Z];simp
 unfold Ad IV;rw[if_neg e1,if_pos e2,if_neg e3,if_neg e4]
 show(if kind=2 then _ else if kind=3 then _ else if kind=4 then _ else if kind=5 then _ else _)=_
 rw[if_neg h4];rfl
def JS(k:AR)(t b:Nat)(w:Int):AR:= {k with mem:=Cn k.mem t b w,Zh:=BD (BD k.Zh (Aw k.mem t b) (-1)) w 1,Xo:=(Gi k t).foldl (λc e=>Gm c (e:Nat)) k.Xo}
theorem XY{k:AR}(h:DZ k)(hm:Cd (BJ k 0) gA=true)(kC:∀e,1<=e->e<3->Cd (BJ k e) gA=false){a:Int}(gq:0<=a)(ha:a<=11)(iY:A3 k a.toNat=2)(Z:(JR k.Zh a.toNat).g=gA)(Y:b<4){w:Int}
 (hw:w=0∨∃f,0<=f/\f<=11/\w=Ip f/\A3 k f.toNat=1/\(JR k.Zh f.toNat).g=gA):Ad k (Ah 6 a b w)=(JS k a.toNat b w,0,0):=by
 rw[Nw ω ω gq ha ω ω hm Z,if_neg ω,if_neg ω,if_neg ω];have hf:EN k (Ah 6 a b w)=true:=by
  unfold EN
  show(if Bv w then decide ((JR k.Zh (BP w)).k=(JR k.Zh a.toNat).k - 1) else decide (w=0))=true
  rcases hw with rfl|⟨f,f0,f1,rfl,fk,fg⟩
  .simp[Bv]
  obtain⟨x,y,_⟩:=IZ f0 f1
  rw[if_pos x,y];unfold A3 at fk iY;rw[fk,iY];rfl
 have e1:¬(Bp (JR k.Zh (Ah 6 a b w).a.toNat).k=false∨Bj (Ah 6 a b w).b 0 3=false∨EN k (Ah 6 a b w)=false):=by
  rintro(x|x|x)
  .have:Bp (JR k.Zh (Ah 6 a b w).a.toNat).k=true:=Ix.2 (.inl iY)
   rw[this] at x;cases x
  .rw[show Bj (Ah 6 a b w).b 0 3=true from Aa.2 ⟨by show(0:Int)<=(b:Int);omega,by show(b:Int)<=3;omega⟩] at x;cases x
  rw[hf] at x;cases x
 have b6:∀g,g∈Ds k w->(JR k.Zh g).g=gA:=by
  intro g Z
  rcases hw with rfl|⟨f,f0,f1,rfl,fk,fg⟩
  .simp[Ds,Bv] at Z
  obtain⟨x,y,_⟩:=IZ f0 f1
  unfold Ds at Z;rw[if_pos x,y] at Z;unfold A3 at fk;rw[if_neg (by rw[fk];decide)] at Z;simp at Z;rw[Z];exact fg
 have e2:¬(Gi k (Ah 6 a b w).a.toNat).all (λe=>BM k.Zh (Ds k (Ah 6 a b w).c) (AH k.Xr e).Pj)=false:=by
  rw[wS,yr];intro e he;rw[Gv];intro g cy;obtain⟨u1,u2⟩:=QI.1 he;rw[b6 g cy]
  rcases wA e with h0|h0
  .rw[h0];exact hm
  have:=h.allow e u1 _ u2
  rw[show(JR k.Zh (Ah 6 a b w).a.toNat).g=gA from Z,kC e h0 u1] at this;cases this
 have e3:¬(Bv (Ah 6 a b w).c=true/\Ff k (Ah 6 a b w).e (JR k.Zh (BP (Ah 6 a b w).c)).g=false):=by rintro⟨x,y⟩;have x':Bv w=true:=x;have y':Ff k 0 (JR k.Zh (BP w)).g=false:=y;rw[gD hm (b6 (BP w) (by unfold Ds;rw[if_pos x'];exact wF ..))] at y';cases y'
 unfold Ik;rw[if_neg e1,if_neg e2,if_neg e3];rfl
theorem Z9{k:AR}(hm:Cd (BJ k 0) gA=true){a b c:Int}(gq:0<=a)(ha:a<=11)(E:A3 k a.toNat=1)(Z:(JR k.Zh a.toNat).g=gA)(hr:(JR k.Zh a.toNat).r=0):
 Ad k (Ah 2 a b c)=({k with Zh:=k.Zh.set a.toNat AX.zero},0,0):=by
 rw[Nw ω ω gq ha ω ω hm Z,if_pos rfl];unfold K4;rw[if_neg (by show ¬(JR k.Zh a.toNat).k≠1;unfold A3 at E;omega),if_neg (by show ¬(JR k.Zh a.toNat).r≠0;omega)];rfl
theorem ah{k:AR}(hm:Cd (BJ k 0) gA=true){a w:Int}(gq:0<=a)(ha:a<=11)(E:A3 k a.toNat=1)(Z:(JR k.Zh a.toNat).g=gA)(A:i<4)(hw:Dx w=true):
 Ad k (Ah 3 a i w)=({k with mem:=Cn k.mem a.toNat i w},0,0):=by
 rw[Nw ω ω gq ha ω ω hm Z,if_neg ω,if_pos rfl];unfold LE;rw[if_neg]
 .rfl
 rintro(x|x|x)
 .exact x E
 .rw[show Bj (Ah 3 a i w).b 0 3=true from Aa.2 ⟨by show(0:Int)<=(i:Int);omega,by show(i:Int)<=3;omega⟩] at x;cases x
 rw[show Dx (Ah 3 a i w).c=true from hw] at x;cases x
theorem NL{k:AR}(hm:Cd (BJ k 0) gA=true)(hf:0<=An k.Zh){a b c:Int}:
 Ad k (Ah 1 a b c)=({k with Zh:=k.Zh.set (An k.Zh).toNat ⟨1,gA,0⟩,mem:=k.mem.set (An k.Zh).toNat [0,0,0,0]},An k.Zh,0):=by
 unfold Ad;rw[if_pos (show(Ah 1 a b c).k=1 from rfl)];unfold J0;rw[if_neg,if_neg,if_neg]
 .rfl
 .omega
 .rw[show Ff k (Ah 1 a b c).e (Ah 1 a b c).nm=true from gD hm rfl];simp
 rw[show BR (Ah 1 a b c).nm=true from(ψ:BR gA=true)];simp
theorem QN{α:Type}{q:α->Bool}{l:List α}{y d:α}(hn:n<l.length):(l.set n y).countP q+Ee (q (l.getD n d))=l.countP q+Ee (q y):=by
 induction l generalizing n with
 |nil=>simp at hn
 |cons x r ih=>
  cases n with
  |zero=>simp only[sJ,xt,sT,Ee];omega
  |succ n=>simp only[sH,xt,sS];have:=ih (n:=n) (by simpa using hn);omega
variable{l:List Bx}
theorem EH{m:Nat}{x:Bx}:AD (l.set n x) m=if m=n/\n<l.length then x else AD l m:=KR
variable{y:Bx}
theorem Pu{w:Int}(hn:n<l.length):Al (l.set n y) w+Ee (Pz w (AD l n))=Al l w+Ee (Pz w y):=QN hn
theorem PL{s:Nat}(hn:n<l.length):Cm (l.set n y) s+Ee (DK s (AD l n))=Cm l s+Ee (DK s y):=QN hn
theorem bN (m:Nat)(x:Bx):((yL m).map λs=>Ee (DK s x)).sum<=Ee (Pz 2 x):=by
 by_cases hw:x.w=2
 .have J:Ee (Pz 2 x)=1:=by simp[Pz,hw,Ee]
  rw[J]
  induction m with
  |zero=>simp
  |succ m ih=>
   rw[xH,xK,wQ];simp only[vD,uR,uo,uh,xT]
   by_cases ha:x.a=(m:Int)
   .have h0:((yL m).map λs=>Ee (DK s x)).sum=0:=by
     rw[Mj];intro t K;have:¬x.a=(t:Int):=ω;simp[DK,this,Ee]
    rw[h0];unfold Ee;split<;>omega
   have:Ee (DK m x)=0:=by simp[DK,ha,Ee]
   omega
 have h0:((yL m).map λs=>Ee (DK s x)).sum=0:=by
  rw[Mj];intro t K;simp[DK,hw,Ee]
 omega
theorem fC{G:Nat->Nat}:((yL n).map λt=>F t+G t).sum=((yL n).map F).sum+((yL n).map G).sum:=by
 induction n with
 |zero=>rfl
 |succ n ih=>rw[xH,xK,xK,xK,wQ,wQ,wQ,ih];simp;omega
theorem bM (m:Nat)(l:List Bx):((yL m).map λs=>Cm l s).sum<=Al l 2:=by
 induction l with
 |nil=>
  have:((yL m).map λs=>Cm [] s).sum=0:=by rw[Mj];intro t _;rfl
  omega
 |cons x l ih=>
  have e:∀s,s<m->Cm (x::l) s=Cm l s+Ee (DK s x):=λs _=>by unfold Cm Ee;rw[xt]
  rw[LI e,fC];have e2:Al (x::l) 2=Al l 2+Ee (Pz 2 x):=by unfold Al Ee;rw[xt]
  have:=bN m x;have kI:((yL m).map (Cm l)).sum<=Al l 2:=ih;omega
theorem count_le (hn:n<l.length){w:Int}(hw:(AD l n).w≠w):Al l w+1<=l.length:=by
 have J:=Pu (y:=⟨w,0,false⟩) (w:=w) hn;have O:Al (l.set n ⟨w,0,false⟩) w<=(l.set n ⟨w,0,false⟩).length:=vX;rw[yh] at O;have h3:Ee (Pz w (AD l n))=0:=by simp[Pz,hw,Ee]
 have h4:Ee (Pz w ⟨w,0,false⟩)=1:=by simp[Pz,Ee]
 omega
theorem Ty{s:List (List Int)}(h:∃i,i<s.length/\AK s i=[]):0<=Bs s/\(Bs s).toNat<s.length/\AK s (Bs s).toNat=[]:=by obtain⟨i,A,he⟩:=h;have ha:s.any uf=true:=LW.2 ⟨_,Di (d:=[]) A,by unfold AK at he;rw[he];rfl⟩;unfold Bs;rw[if_pos ha];have hl:s.findIdx uf<s.length:=vM.2 (LW.1 ha);refine⟨ω,by simpa using hl,?_⟩;have:=vC (w:=hl);unfold AK;simpa[hl] using this
theorem Dd.slot (h:Dd p)(hn:n<16)(hw:(AD p.Xs n).w≠2):0<=Bs p.swap/\(Bs p.swap).toNat<16/\AK p.swap (Bs p.swap).toNat=[]:=by
 rw[<-h.zN];refine Ty (Classical.byContradiction λkm=>?_);have J:∀s,s<16->Cm p.Xs s=1:=by
  intro s V;have:=h.slots s V;rw[if_neg] at this
  .exact this
  intro he
  exact km ⟨s,by rw[h.zN];exact V,J5.1 he⟩
 have O:=bM 16 p.Xs;rw[LI J] at O;have h3:=count_le (l:=p.Xs) (n:=n) (by rw[h.zY];exact hn) hw;rw[h.zY] at h3;have h4:((yL 16).map λ_=>1).sum=16:=ψ;omega
theorem QB (h:Dd p)(hn:n<16)(hw:(AD p.Xs n).w=1):
 (Er p n).V0= {JS p.V0 (Bd p.low (n/4)).toNat (n%4) 0 with Zh:=(JS p.V0 (Bd p.low (n/4)).toNat (n%4) 0).Zh.set (AD p.Xs n).a.toNat AX.zero}:=by
 have hl:=h.lows (n/4) ω;have iN:=h.zU (i:=n/4) ω;obtain⟨f1,f2,f3⟩:=h.zQ hn hw;have fk:=h.zR hn hw;unfold Er JU;rw[XY h.k h.may h.alone hl.1 hl.2.1 iN.2 hl.2.2.2.1 ω (.inl rfl)];have ko:EG (AD p.Xs n).a.toNat (Aw p.V0.mem (Bd p.low (n/4)).toNat (n%4))=true:=f1;have bB:JR (JS p.V0 (Bd p.low (n/4)).toNat (n%4) 0).Zh (AD p.Xs n).a.toNat= {JR p.V0.Zh (AD p.Xs n).a.toNat with r:=0}:=by
  unfold JS
  show JR (BD (BD p.V0.Zh (Aw p.V0.mem (Bd p.low (n/4)).toNat (n%4)) (-1)) 0 1) _=_
  rw[GL (by rw[Cv];exact h.k.len),GL h.k.len,ko,f3.2];simp[EG,Bv,Ee]
 rw[Z9 (k:=JS p.V0 (Bd p.low (n/4)).toNat (n%4) 0) h.may f2.1 f2.2]
 .show(JR (JS p.V0 (Bd p.low (n/4)).toNat (n%4) 0).Zh (AD p.Xs n).a.toNat).k=1
  rw[bB];exact fk.2
 .rw[bB];exact f3.1
 rw[bB]
theorem TY{w:Int}(K:t<m.length)(Y:b<(AK m t).length):Aw (Cn m t b w) f i=if f=t/\i=b then w else Aw m f i:=by
 unfold Aw;rw[Ih]
 by_cases e:f=t
 .subst e
  rw[if_pos ⟨rfl,K⟩,KR]
  by_cases e2:i=b
  .simp[e2,Y]
  simp[e2]
 simp[e]
variable{al:Array Φ}
theorem VP{f:FuncId}(h:∀w',Γ w1 w1 w'->Ξ P f al w' λe ci=>e=.returned v/\Γ w'.heap.size w' ci):
 ∀d os,Ξ P f al (vl (redrawn w1 d) os) λe ci=>e=.returned v/\∃p:Regrown,ci=vl (redrawn w1 p.d) p.os:=λd os=>Calls.regrown_of (h _ (below_regrown w1 d os))
theorem WT{f:FuncId}(h:∀w',Ξ P f al w' λe ci=>e=.returned v/\w'=ci):
 ∀d os,Ξ P f al (vl (redrawn w1 d) os) λe ci=>e=.returned v/\∃p:Regrown,ci=vl (redrawn w1 p.d) p.os:=VP λw' _=>(h w').mono λe ci ⟨he,hw⟩=>⟨he,hw▸yN _ _⟩
theorem A4{f:FuncId}(h:Ξ P f al w λe w'=>e=.returned v/\w=w'):Ξ P f al w λe w'=>e=.returned v/\Γ w w w':=h.mono λe ci ⟨he,hw⟩=>⟨he,hw▸yN _ _⟩
theorem PC{f:FuncId}(h:Ξ P f al w λe w'=>e=.returned v/\∃n,w'=w.drewN n):Ξ P f al w λe w'=>e=.returned v/\Γ w w w':=
 h.mono λe ci ⟨he,n,hw⟩=>⟨he,hw▸Ap (yN _ _) n⟩
theorem QF{a b:Φ}(h:a=b):Ending.returned a=.returned b:=by rw[h]
section
variable {w:Ω} {a:Option Addr}
theorem VE.zZ{xs:List AX}(h:VE 3 Av w a xs){k:Nat}(E:k<xs.length):∃b D,a=some ⟨b,D,none⟩/\b<w.heap.size/\w.cell? ⟨b,D+k*3,none⟩=some (.int .i64 (JR xs k).k)/\w.cell? ⟨b,D+k*3+1,none⟩=some (.string (JR xs k).g)/\w.cell? ⟨b,D+k*3+2,none⟩=some (.int .i64 (JR xs k).r):=by obtain⟨b,D,rfl,aq,N⟩:=h k (JR xs k) (by simp[JR,E]);exact⟨b,D,rfl,aq,N 0 _ rfl,N 1 _ rfl,N 2 _ rfl⟩
theorem VE.zV{xs:List Ag}(h:VE 4 AY w a xs){k:Nat}(E:k<xs.length):∃b D,a=some ⟨b,D,none⟩/\b<w.heap.size/\w.cell? ⟨b,D+k*4,none⟩=some (.int .i64 (AV xs k).e)/\w.cell? ⟨b,D+k*4+1,none⟩=some (.int .i64 (AV xs k).p)/\w.cell? ⟨b,D+k*4+2,none⟩=some (.int .i64 (AV xs k).f)/\w.cell? ⟨b,D+k*4+3,none⟩=some (.bool (AV xs k).w):=by obtain⟨b,D,rfl,aq,N⟩:=h k (AV xs k) (by simp[AV,E]);exact⟨b,D,rfl,aq,N 0 _ rfl,N 1 _ rfl,N 2 _ rfl,N 3 _ rfl⟩
end
theorem Jm.cellAt (h:Jm w a xs)(E:k<xs.length):∃b D,a=some ⟨b,D,none⟩/\b<w.heap.size/\w.cell? ⟨b,D+k,none⟩=some (.int .i64 (nth xs k)):=by obtain⟨b,D,rfl,N⟩:=h.at E;exact⟨b,D,rfl,yK w _ N,N⟩
def L9(w:Ω)(a:Option Addr)(m:List (List Int)):Prop:=∀f,f<m.length->∃b D u,a=some ⟨b,D,none⟩/\b<w.heap.size/\w.cell? ⟨b,D+f,none⟩=some u/\A1 w u (AK m f)
theorem Bl.open (h:Bl w v m):∃a z,v=.slice a m.length z/\m.length<=z/\z<=maxLen/\L9 w a m:=by
 obtain⟨vs,J,O⟩:=h;obtain⟨a,z,rfl,N,am,hx⟩:=BK.open Eh ψ J;refine⟨a,z,by rw[O.1],by rw[<-O.1];exact N,am,λf hf=>?_⟩;have hv:f<vs.length:=by rw[O.1];exact hf
 obtain⟨b,D,rfl,aq,av⟩:=hx f _ (yG hv);refine⟨b,D,vs[f],rfl,aq,by simpa using av 0 _ rfl,O.2 f _ _ (yG hv) ?_⟩;unfold AK;exact A6 hf
theorem L9.below (h:L9 w a m)(Y:Γ w w w'):L9 w' a m:=by intro f hf;obtain⟨b,D,u,rfl,aq,N,hr⟩:=h f hf;exact⟨b,D,u,rfl,yu aq Y.size,(Y.cell (p:=⟨b,D+f,none⟩) aq).trans N,hr.below Y⟩
theorem Ba{Q:Exit->Act->Ω->Prop}{a:Act}{l:List Oper}
 (h:wpQuiet prog l.toArray (λw'=>∃p:Regrown,w'=vl (redrawn w p.d) p.os) (λa'=>∀w',(∃p:Regrown,w'=vl (redrawn w p.d) p.os)->Q .normal a' w') l a)(hB:Region.lexB .any l.toArray=true:=by kernel_rfl):(vZ id l.toArray true).wp prog Q a w:=
 wp_region_quiet_below mixed hB h
theorem BZ{Q:Act->Ω->Prop}{a:Act}(h:∀wq,Γ w w wq->Q a wq):wpQuiet P ops (λw'=>∃p:Regrown,w'=vl (redrawn w p.d) p.os) (λa'=>∀w',(∃p:Regrown,w'=vl (redrawn w p.d) p.os)->Q a' w') [] a:=by refine wpQuiet_nil ?_;rintro w' ⟨⟨d,os⟩,rfl⟩;exact h _ (below_regrown w d os)
def VC(w:Ω)(a:Option Addr)(bs:List Int):Prop:=
 ∀k,k<bs.length->∃b D,a=some ⟨b,D,none⟩/\∀j,j<bs.length->w.cell? ⟨b,D+j,none⟩=some (.int .u8 (nth bs j))/\0<=nth bs j/\nth bs j<256
theorem Fn.open (h:Fn w v xs):
 ∃a z,v=.slice a xs.length z/\xs.length<=z/\z<=maxLen/\VC w a xs:=by
 obtain⟨⟨a,z,rfl,bx,am,hl,_,N⟩,jr⟩:=h;refine⟨a,z,rfl,bx,am,λk E=>?_⟩;obtain⟨b,D,rfl,av⟩:=N ω;refine⟨b,D,rfl,λj X=>⟨?_,?_⟩⟩
 .rw[av j ω,xq,Sp X]
  rfl
 rw[OG X]
 exact jr _ (tX X)
theorem VC.at (h:VC w a xs)(E:k<xs.length):
 ∃b D,a=some ⟨b,D,none⟩/\w.cell? ⟨b,D+k,none⟩=some (.int .u8 (nth xs k))/\0<=nth xs k/\nth xs k<256:=by
 obtain⟨b,D,rfl,N⟩:=h k E;exact⟨b,D,rfl,N k E⟩
def Fc(w0 w:Ω)(R:Φ)(hc:Nat):Prop:=
 ∃g dr bs,∃p:Nat,R=.pointer (some ⟨g,0,none⟩)/\w0.heap.size<=g/\w.heap[g]?=some (.cells #[dr,p] 85 (0,0))/\Fn w0 dr bs/\bs.length<=2000/\p<=hc
theorem ZF{hj:Int}(h0:0<=hj)(J:hj<=1000000000):0<=bits .xor .i64 hj (hj/64):=by
 obtain⟨x,rfl⟩:=Int.eq_ofNat_of_zero_le h0;have e:((x:Int)/64)=((x/64:Nat):Int):=ω;have ha:x<2 ^ 40:=ω;have Y:x/64<2 ^ 40:=ω;have jt:x%2 ^ wX.bits=x:=rY (yu ha ψ);have j2:x/64%2 ^ wX.bits=x/64:=rY (yu Y ψ);have H:x ^^^ (x/64)<2 ^ 40:=Nat.xor_lt_two_pow ha Y;rw[e];simp only[bits,BitVec.ofInt_natCast,BitVec.toNat_xor,BitVec.toNat_ofNat,jt,j2];rw[xJ _ ω];omega
def Xu(w0 w:Ω)(R:Φ)(hc:Nat)(n:Int)(e:Ending)(w':Ω):Prop:=
 ∃x:Int,e=.returned (.int .i64 x)/\(0<=x/\(0<n->x<n)/\(n<=0->x=0))/\Fc w0 w' R (hc+1)/\Γ w0 w0 w'/\∃g,R=.pointer (some ⟨g,0,none⟩)/\w.grownBy w' (some g)
theorem Fc.stored{p:Nat}{n:Int}(Z:w0.heap.size<=g)(cd:w.heap[g]?=some (.cells #[dr,p] 85 (0,0)))(hr:Fn w0 dr bs)(bk:bs.length<=2000)(hp:p<=hc)(Y:Γ w0 w0 w):
 ∀(k:Nat)(x:Int),0<=x->(0<n->x<n)->(n<=0->x=0)->Xu w0 w (.pointer g) hc n (.returned (.int .i64 x)) ((w.setCell (g,1) (.int .i64 (p+1))).drewN k):=by
 intro k x J O h3;refine⟨x,rfl,⟨J,O,h3⟩,⟨g,dr,bs,p+1,rfl,Z,?_,hr,bk,ω⟩,Ap (Y.setCell Z _) k,g,rfl,?_⟩
 .have:=yE w g 1 #[dr,.int .i64 p] 85 (.int .i64 (p+1)) cd
  simpa using this
 refine⟨rfl,rfl,rfl,by simp[World.drewN],λb j2 bb=>?_⟩
 exact heap_setCell_other w ⟨g,1,none⟩ b _ (λe=>bb (by simp[e]))
theorem dZ (w0:Ω)(R:Φ)(hc:Nat)(n:Int)(w:Ω)(h:Fc w0 w R hc)(Y:Γ w0 w0 w)(hN:hc<=1000000)(hn:n<=1000000):
 Ξ prog 23 #[R,.int .i64 n] w (Xu w0 w R hc n):=by
 obtain⟨g,dr,bs,p,rfl,Z,cd,hR,bk,hp⟩:=h;have S:=AA (Fc.stored (n:=n) Z cd hR bk hp Y);have c0:w.cell? g=some dr:=yy w g 0 _ _ _ cd;have c1:w.cell? (g,1)=some (.int .i64 p):=yy w g 1 _ _ _ cd;have f1:w.frozen? (g,1)=false:=frozen_of_row w g 1 _ _ cd;clear cd
 by_cases J:n<1
 .go_in
  go_wp2;go_ret;exact S 0 0 ω ω ω
 obtain⟨a,c,hv,N,am,hA⟩:=hR.open;subst hv;unfold maxLen at am
 by_cases O:bs.length=0
 .have kE:((bs.length:Int)==0)=true:=by simp[O]
  clear O;go_in;go_wp2;go_ret;exact S 0 0 ω ω ω
 have kE:((bs.length:Int)==0)=false:=by simp[O]
 have iz:0<bs.length:=ω;clear O
 by_cases h3:p<bs.length
 .obtain⟨b,D,rfl,D0,kA,bt⟩:=hA.at h3
  have bC:=yK w0 _ D0;have ab:w.cell? (b,D+p)=some (.int .u8 (nth bs p)):=(Y.cell bC).trans D0;clear D0 hA;have bb:b≠g:=by rintro rfl;simp at bC;omega
  clear bC;go_in;go_wp2;go_ret;exact S 0 _ (tP _ ω) (λ_=>vg _ ω) ω
 have m1:(p:Int).tmod bs.length=(p:Int)%bs.length:=wE ω;have m2:0<=(p:Int)%bs.length:=tP _ ω;have m3:(p:Int)%bs.length<bs.length:=vg _ ω;have m4:((p:Int)%bs.length).toNat=p%bs.length:=by rw[show(p:Int)%bs.length=((p%bs.length:Nat):Int) from rfl,yq]
 have q1:0<=(p:Int)/bs.length:=Int.ediv_nonneg ω ω;have q2:(p:Int)/bs.length<=p:=Int.ediv_le_self _ ω;have s1:wX.wrap ((p:Int)*7)=p*7:=xJ _ ω;have s2:wX.wrap ((p:Int)*7+3)=p*7+3:=xJ _ ω;have k1:((p:Int)*7+3).tmod bs.length=((p:Int)*7+3)%bs.length:=wE ω;have k2:0<=((p:Int)*7+3)%bs.length:=tP _ ω;have k3:((p:Int)*7+3)%bs.length<bs.length:=vg _ ω;have k4:(((p:Int)*7+3)%bs.length).toNat=(p*7+3)%bs.length:=by rw[show((p:Int)*7+3)%bs.length=(((p*7+3)%bs.length:Nat):Int) by push_cast;rfl,yq]
 have kt:p%bs.length<bs.length:=sr _ iz;have jS:(p*7+3)%bs.length<bs.length:=sr _ iz;obtain⟨b,D,rfl,D0,kA,bt⟩:=hA.at kt;obtain⟨b',ee,ft,E0,b8,j0⟩:=hA.at jS;obtain⟨rfl,rfl⟩:b=b'/\D=ee:=by simpa using ft
 clear ft hA;have bC:=yK w0 _ D0;have ab:w.cell? (b,D+p%bs.length)=some (.int .u8 (nth bs (p%bs.length))):=(Y.cell bC).trans D0;have hk:w.cell? (b,D+(p*7+3)%bs.length)=some (.int .u8 (nth bs ((p*7+3)%bs.length))):=(Y.cell (p:=⟨b,D+(p*7+3)%bs.length,none⟩) bC).trans E0;clear D0 E0;have bb:b≠g:=by rintro rfl;simp at bC;omega
 clear bC;go_in;go_wp2;go_quiet (fail);have x0:0<=nth bs (p%bs.length)*131+nth bs ((p*7+3)%bs.length)*1117+(p:Int)*29+(p:Int)/bs.length*53:=ω;have x1:nth bs (p%bs.length)*131+nth bs ((p*7+3)%bs.length)*1117+(p:Int)*29+(p:Int)/bs.length*53<=1000000000:=ω;generalize nth bs (p%bs.length)*131+nth bs ((p*7+3)%bs.length)*1117+(p:Int)*29+(p:Int)/bs.length*53=hj at x0 x1 ⊢;go_wp2;go_ret;have y0:=ZF x0 (ω:hj<=1000000000);exact S _ _ (Int.tmod_nonneg _ y0) (λkp=>by rw[wE y0];exact vg _ kp) ω
def cA(w:Ω)(e:Ending)(w':Ω):Prop:=∃R,e=.returned R/\Fc w w' R 0/\Γ w w w'
theorem Fn.take{c:Nat}(h:Fn w (.slice a bs.length c) bs)(k:Nat)(E:k<=bs.length):Fn w (.slice a k c) (bs.take k):=by
 obtain⟨⟨a',z,hv,bx,am,hl,az,N⟩,jr⟩:=h;simp only[xQ,true_and] at hv;obtain⟨rfl,rfl⟩:=hv;have e:(bs.take k).length=k:=by rw[ym];omega
 refine⟨⟨a,c,by rw[e],ω,am,χ,az,λhn=>?_⟩,λb Y=>jr b (uq Y)⟩;rw[e] at hn ⊢;obtain⟨b,D,rfl,av⟩:=N ω;refine⟨b,D,rfl,λj X=>?_⟩;rw[av j ω,tE,uV,if_pos ω]
theorem Fc.opened (h:Fn w dr bs)(hl:bs.length<=2000):cA w (.returned (.pointer w)) (w.alloc (.cells #[dr,θ] 85)):=
 ⟨_,rfl,⟨_,dr,bs,0,rfl,yF _,yx w _,h,hl,yF _⟩,(yN _ _).alloc (yF _) _⟩
theorem Sb (v:Φ)(bs:List Int)(w:Ω)(h:Fn w v bs):
 Ξ prog 20 #[v] w (cA w):=by
 obtain⟨a,c,hv,N,am,hA⟩:=h.open;subst hv;unfold maxLen at am
 by_cases hl:bs.length<=2000
 .have S:=AA (Fc.opened h hl)
  have bA:¬(2000<bs.length):=ω;clear hl hA;go_in;go_wp2;go_ret;exact S.u
 have S:=AA (Fc.opened (h.take 2000 ω) (by rw[ym];omega))
 have bA:2000<bs.length:=ω;have jS:2000<=c:=ω;obtain⟨b,D,rfl,_⟩:=hA.at (k:=0) ω;clear hl hA;go_in;go_wp2;go_ret;exact S.u
theorem Fc.mono{R:Φ}{M:Nat}(h:Fc w0 w R hc)(hm:hc<=M):Fc w0 w R M:=by obtain⟨g,dr,bs,p,e1,Z,cd,hr,hl,hp⟩:=h;exact⟨g,dr,bs,p,e1,Z,cd,hr,hl,yM hp hm⟩
theorem OH (h:AE lo w v xs)(hl:lo'<=lo):AE lo' w v xs:=by
 refine⟨h.1,?_⟩
 rcases h.2 with h'|⟨g,z,bn,rfl,Y,rest⟩
 .exact .inl h'
 exact .inr ⟨g,z,bn,rfl,yM hl Y,rest⟩
def Lt(xs:List Int):Bool:=xs.length==4&&xs.all (Bj · 0 9999)
theorem Gy (n:Int)(w:Ω):
 Ξ prog 48 #[.int .i64 n] w λe w'=>e=.returned (.bool (Bj n 0 9999))/\w=w':=by
 go_in;go_wp2_with (go_at_call 54;refine(EL _ _ _ _).mono ?_;rintro e w' ⟨rfl,rfl⟩);go_ret;exact⟨rfl,rfl⟩
theorem Vf (n:Int)(w:Ω):
 Ξ prog 169 #[.int .i64 n] w λe w'=>e=.returned (.bool (!Bj n 0 9999))/\w=w':=by
 go_in;go_wp2_with (go_at_call 48;refine(Gy _ _).mono ?_;rintro e w' ⟨rfl,rfl⟩);go_ret;exact⟨rfl,rfl⟩
theorem Xi (xs:List Int):(!xs.any λx=>!Bj x 0 9999)=xs.all (Bj · 0 9999):=by simp[tz]
theorem QR (v:Φ)(xs:List Int)(w:Ω)(h:A1 w v xs):
 Ξ prog 106 #[v] w λe w'=>e=.returned (.bool (Lt xs))/\w=w':=by
 obtain⟨a,c,rfl,N,am,H0⟩:=h.open;unfold maxLen at am
 by_cases h4:xs.length=4
 .have e1:Lt xs=xs.all (Bj · 0 9999):=by simp[Lt,h4]
  have Y:((xs.length:Int)==4)=true:=by simp[h4]
  have hx:=AA e1;clear e1;clear h4;go_in;go_wp2_with (go_at_call 160;refine(Pg 169 #[] (λx=>!Bj x 0 9999) _ xs _ h (λ_ _=>φ) (λx w=>Vf x w)).mono ?_;rintro e w' ⟨rfl,rfl⟩);go_ret;exact⟨AF (by rw[hx.u,Xi]),rfl⟩
 have e1:Lt xs=false:=by simp[Lt,h4]
 have Y:((xs.length:Int)==4)=false:=η;have hx:=AA e1;clear e1;clear h4;go_in;go_wp2;go_ret;exact⟨AF hx.symm,rfl⟩
structure Ax where
 k:Int
 a:Int
 x:Int
 ck:Int
 ce:Int
 ca:Int
 cb:Int
 cc:Int
 nm:ByteArray
def Ax.cells(s:Ax):Array Φ:= #[.int .i64 s.k,.int .i64 s.a,.int .i64 s.x,.int .i64 s.ck,.int .i64 s.ce,.int .i64 s.ca,.int .i64 s.cb,.int .i64 s.cc,.string s.nm]
def Ax.val(s:Ax):Φ:=.agg s.cells
def Ax.ok(s:Ax):Bool:=if s.k=1 then Bj s.a 0 63 else if s.k=2 then Bj s.a 0 63&&Bj s.x 0 9999 else if s.k=3 then Bj s.ce 1 2 else false
theorem EY (n:Int)(w:Ω):
 Ξ prog 32 #[.int .i64 n] w λe w'=>e=.returned (.bool (Bj n 0 63))/\w=w':=by
 go_in;go_wp2_with (go_at_call 54;refine(EL _ _ _ _).mono ?_;rintro e w' ⟨rfl,rfl⟩);go_ret;exact⟨rfl,rfl⟩
theorem ZZ{k a:Int}(h:k=1):Ax.ok ⟨k,a,x,ck,ce,ca,cb,cc,nm⟩=Bj a 0 63:=by simp[Ax.ok,h]
theorem Za{k a:Int}(h:k=2):Ax.ok ⟨k,a,x,ck,ce,ca,cb,cc,nm⟩=(Bj a 0 63&&Bj x 0 9999):=by simp[Ax.ok,h]
theorem Zb{k a:Int}(h:k=3):Ax.ok ⟨k,a,x,ck,ce,ca,cb,cc,nm⟩=Bj ce 1 2:=by simp[Ax.ok,h]
theorem ZY{k a:Int}(J:k≠1)(O:k≠2)(h3:k≠3):Ax.ok ⟨k,a,x,ck,ce,ca,cb,cc,nm⟩=false:=by simp[Ax.ok,J,O,h3]
theorem Ic (n:Int)(w:Ω):
 Ξ prog 24 #[.int .i64 n] w λe w'=>e=.returned (.bool (Bj n 1 2))/\w=w':=by
 go_in;go_wp2_with (go_at_call 54;refine(EL _ _ _ _).mono ?_;rintro e w' ⟨rfl,rfl⟩);go_ret;exact⟨rfl,rfl⟩
theorem Fz (n:Int)(w:Ω):
 Ξ prog 78 #[.int .i64 n] w λe w'=>e=.returned (.bool (Bj n 0 63))/\w=w':=by
 go_in;go_wp2_with (go_at_call 27;refine(Cr _ _ _ _).mono ?_;rintro e w' ⟨rfl,rfl⟩);go_ret;exact⟨rfl,rfl⟩
theorem Y5 (s:Ax)(w:Ω):
 Ξ prog 75 #[s.val] w λe w'=>e=.returned (.bool s.ok)/\Γ w w w':=by
 obtain⟨k,a,x,ck,ce,ca,cb,cc,nm⟩:=s;simp only[Ax.val,Ax.cells]
 by_cases J:k=1
 .have S:=AA (ZZ (a:=a) (x:=x) (ck:=ck) (ce:=ce) (ca:=ca) (cb:=cb) (cc:=cc) (nm:=nm) J)
  subst J;go_in;go_wp2_with (first|(go_at_call 32;refine(EY _ _).mono ?_;rintro e w' ⟨rfl,rfl⟩)|(go_at_call 48;refine(Gy _ _).mono ?_;rintro e w' ⟨rfl,rfl⟩)|(go_at_call 24;refine(Ic _ _).mono ?_;rintro e w' ⟨rfl,rfl⟩));go_ret;exact⟨AF S.symm,(yN _ _).alloc (yF _) _⟩
 have t1:(k==1)=false:=by simp[J]
 by_cases O:k=2
 .have S:=AA (Za (a:=a) (x:=x) (ck:=ck) (ce:=ce) (ca:=ca) (cb:=cb) (cc:=cc) (nm:=nm) O)
  subst O;clear J t1;go_in;cases b4:Bj a 0 63
  rotate_left
  rotate_left
  all_goals
   rw[b4] at S
   have jx:=AA b4;clear b4;go_wp2_with (first|(go_at_call 32;refine(EY _ _).mono ?_;rintro e w' ⟨rfl,rfl⟩;rw[jx.u])|(go_at_call 48;refine(Gy _ _).mono ?_;rintro e w' ⟨rfl,rfl⟩)|(go_at_call 24;refine(Ic _ _).mono ?_;rintro e w' ⟨rfl,rfl⟩));go_ret;exact⟨AF S.symm,(yN _ _).alloc (yF _) _⟩
 have t2:(k==2)=false:=by simp[O]
 by_cases h3:k=3
 .have S:=AA (Zb (a:=a) (x:=x) (ck:=ck) (ce:=ce) (ca:=ca) (cb:=cb) (cc:=cc) (nm:=nm) h3)
  subst h3;clear J t1 O t2;go_in;go_wp2_with (first|(go_at_call 32;refine(EY _ _).mono ?_;rintro e w' ⟨rfl,rfl⟩)|(go_at_call 48;refine(Gy _ _).mono ?_;rintro e w' ⟨rfl,rfl⟩)|(go_at_call 24;refine(Ic _ _).mono ?_;rintro e w' ⟨rfl,rfl⟩));go_ret;exact⟨AF S.symm,(yN _ _).alloc (yF _) _⟩
 have t3:(k==3)=false:=by simp[h3]
 have S:=AA (ZY (a:=a) (x:=x) (ck:=ck) (ce:=ce) (ca:=ca) (cb:=cb) (cc:=cc) (nm:=nm) J O h3);clear J O h3;go_in;go_wp2;go_ret;exact⟨AF S.symm,(yN _ _).alloc (yF _) _⟩
theorem QW (s:Ax)(w:Ω):
 Ξ prog 47 #[s.val] w λe w'=>e=.returned (.bool s.ok)/\Γ w w w':=by
 obtain⟨k,a,x,ck,ce,ca,cb,cc,nm⟩:=s;simp only[Ax.val,Ax.cells]
 by_cases J:k=1
 .have S:=AA (ZZ (a:=a) (x:=x) (ck:=ck) (ce:=ce) (ca:=ca) (cb:=cb) (cc:=cc) (nm:=nm) J)
  subst J;go_in;go_wp2_with (first|(go_at_call 78;refine(Fz _ _).mono ?_;rintro e w' ⟨rfl,rfl⟩)|(go_at_call 27;refine(Cr _ _ _ _).mono ?_;rintro e w' ⟨rfl,rfl⟩));go_ret;exact⟨AF S.symm,(yN _ _).alloc (yF _) _⟩
 have t1:(k==1)=false:=by simp[J]
 by_cases O:k=2
 .have S:=AA (Za (a:=a) (x:=x) (ck:=ck) (ce:=ce) (ca:=ca) (cb:=cb) (cc:=cc) (nm:=nm) O)
  subst O;clear J t1;go_in;cases b4:Bj a 0 63
  rotate_left
  rotate_left
  all_goals
   rw[b4] at S
   have jx:=AA b4;clear b4;go_wp2_with (first|(go_at_call 78;refine(Fz _ _).mono ?_;rintro e w' ⟨rfl,rfl⟩;rw[jx.u])|(go_at_call 27;refine(Cr _ _ _ _).mono ?_;rintro e w' ⟨rfl,rfl⟩));go_ret;exact⟨AF S.symm,(yN _ _).alloc (yF _) _⟩
 have t2:(k==2)=false:=by simp[O]
 by_cases h3:k=3
 .have S:=AA (Zb (a:=a) (x:=x) (ck:=ck) (ce:=ce) (ca:=ca) (cb:=cb) (cc:=cc) (nm:=nm) h3)
  subst h3;clear J t1 O t2;go_in;go_wp2_with (first|(go_at_call 78;refine(Fz _ _).mono ?_;rintro e w' ⟨rfl,rfl⟩)|(go_at_call 27;refine(Cr _ _ _ _).mono ?_;rintro e w' ⟨rfl,rfl⟩));go_ret;exact⟨AF S.symm,(yN _ _).alloc (yF _) _⟩
 have t3:(k==3)=false:=by simp[h3]
 have S:=AA (ZY (a:=a) (x:=x) (ck:=ck) (ce:=ce) (ca:=ca) (cb:=cb) (cc:=cc) (nm:=nm) J O h3);clear J O h3;go_in;go_wp2;go_ret;exact⟨AF S.symm,(yN _ _).alloc (yF _) _⟩
theorem Dy (n:Int)(w:Ω):Ξ prog 98 #[.int .i64 n] w λe w'=>e=.returned (.bool (Bj n 0 11))/\w=w':=by go_in;go_wp2_with (go_at_call 54;refine(EL _ _ _ _).mono ?_;rintro e w' ⟨rfl,rfl⟩);go_ret;exact⟨rfl,rfl⟩
theorem QQ (n:Int)(w:Ω):Ξ prog 179 #[.int .i64 n] w λe w'=>e=.returned (.bool (Bj n 0 3))/\w=w':=by go_in;go_wp2_with (go_at_call 54;refine(EL _ _ _ _).mono ?_;rintro e w' ⟨rfl,rfl⟩);go_ret;exact⟨rfl,rfl⟩
theorem OC (n:Int)(w:Ω):Ξ prog 69 #[.int .i64 n] w λe w'=>e=.returned (.bool (Bj n 0 15))/\w=w':=by go_in;go_wp2_with (go_at_call 54;refine(EL _ _ _ _).mono ?_;rintro e w' ⟨rfl,rfl⟩);go_ret;exact⟨rfl,rfl⟩
theorem J1 (f:Int)(w:Ω)(h0:0<=f)(J:f<=11):Ξ prog 108 #[.int .i64 f,.bool true] w λe w'=>e=.returned (.tuple #[.int .i64 (Ip f),τ])/\w=w':=by have hx:=AA (show Bj f 0 11=true from Aa.2 ⟨h0,J⟩);go_in;go_wp2_with (go_at_call 98;refine(Dy _ _).mono ?_;rintro e w' ⟨rfl,rfl⟩;rw[hx.u]);go_ret2;exact⟨rfl,rfl⟩
theorem QJ (f:Int)(b:Bool)(w:Ω)(h:Bj f 0 11=false):Ξ prog 108 #[.int .i64 f,.bool b] w λe w'=>e=.returned (.tuple #[θ,υ])/\w=w':=by have hx:=AA h;clear h;go_in;go_wp2_with (go_at_call 98;refine(Dy _ _).mono ?_;rintro e w' ⟨rfl,rfl⟩;rw[hx.u]);go_ret2;exact⟨rfl,rfl⟩
theorem Wi (h:Bv x=true):0<x/\x<48/\x%2=1:=by simp only[Bv,yD,decide_eq_true_eq] at h;omega
theorem Wh (h:Bv x=true):((BP x:Nat):Int)=x/4:=by have:=Wi h;unfold BP;omega
def VY(x:Int):Φ:=.tuple #[.int .i64 (if Bv x then((BP x:Nat):Int) else 0),.bool (Bv x&&LZ x),.bool (Bv x)]
theorem En (h:Bv x=true):VY x=.tuple #[.int .i64 ((BP x:Nat):Int),.bool (LZ x),τ]:=by simp[VY,h]
theorem Et (h:Bv x=false):VY x=.tuple #[θ,υ,υ]:=by simp[VY,h]
theorem Fk (x:Int)(w:Ω)(H:x<=9223372036854775807):Ξ prog 158 #[.int .i64 x] w λe w'=>e=.returned (VY x)/\w=w':=by
 by_cases h0:x<0
 .have hk:=AA (Et (x:=x) (by simp[Bv];omega))
  go_in;go_wp2_with fail;go_ret3;exact⟨QF hk.symm,rfl⟩
 have kW:0<=x:=ω;by_cases J:x%2=0
 .have hk:=AA (Et (x:=x) (by simp[Bv];omega))
  have t:(x%2==0)=true:=by simp[J]
  clear J;go_in;go_wp2_with fail;go_ret3;exact⟨QF hk.symm,rfl⟩
 have t:(x%2==0)=false:=η;cases Y:Bj (x/4) 0 11
 focus
  have hk:=AA (Et (x:=x) (by have:=Vd.1 Y;simp[Bv];omega))
  have hx:=AA Y;clear Y J
 rotate_left
 focus
  have Z:Bv x=true:=by have:=Aa.1 Y;simp[Bv];omega
  have W:LZ x=(x%4==3):=by cases h:(x%4==3)<;>simp_all[LZ]
  have hk:=AA (show VY x=.tuple #[.int .i64 (x/4),.bool (x%4==3),τ] by rw[En Z,Wh Z,W]);clear W;have hx:=AA Y;clear Y J Z
 rotate_left
 all_goals
  go_in;go_wp2_with (go_at_call 98;refine(Dy _ _).mono ?_;rintro e w' ⟨rfl,rfl⟩;rw[hx.u]);go_ret3;exact⟨QF hk.symm,rfl⟩
theorem RJ (a:Nat)(w:Ω)(h:a<64):Ξ prog 167 #[.int .i64 a] w λe w'=>e=.returned (.tuple #[.int .i64 ((a/16:Nat):Int),.int .i64 ((a/4%4:Nat):Int),.int .i64 ((a%4:Nat):Int),τ])/\w=w':=by
 have hx:=AA (show Bj (a:Int) 0 63=true from Aa.2 ω);have e1:(a:Int)/16=((a/16:Nat):Int):=ω;have e2:(a:Int)/4%4=((a/4%4:Nat):Int):=ω;have e3:(a:Int)%4=((a%4:Nat):Int):=ω;have hk:=AA (And.intro e1 (And.intro e2 e3));clear e1 e2 e3;go_in;go_wp2_with (go_at_call 32;refine(EY _ _).mono ?_;rintro e w' ⟨rfl,rfl⟩;rw[hx.u]);refine bodyPost_ret (v:=.tuple #[.int .i64 ((a:Int)/16),.int .i64 ((a:Int)/4%4),.int .i64 ((a:Int)%4),τ]) (by simp[results,Tryz.results167,go_sem]) rfl ⟨?_,rfl⟩;rw[hk.1,hk.2.1,hk.2.2]
theorem MI (k:Int)(w:Ω):Ξ prog 166 #[.int .i64 k] w λe w'=>e=.returned (.int .i64 (XM k))/\w=w':=by
 by_cases h3:k=3
 .subst h3
  go_in;go_wp2;go_ret;exact⟨rfl,rfl⟩
 have t3:(k==3)=false:=by simp[h3]
 by_cases O:k=2
 .subst O
  go_in;go_wp2;go_ret;exact⟨rfl,rfl⟩
 have t2:(k==2)=false:=by simp[O]
 have hk:=AA (show XM k=0 by simp[XM,Bp,O,h3]);clear O h3;go_in;go_wp2;go_ret;exact⟨Cy hk.symm,rfl⟩
theorem GR (k:Int)(w:Ω):Ξ prog 101 #[.int .i64 k] w λe w'=>e=.returned (.bool (Bp k))/\w=w':=by
 by_cases O:k=2
 .subst O
  go_in;go_wp2;go_ret;exact⟨rfl,rfl⟩
 have t2:(k==2)=false:=by simp[O]
 have hk:=AA (show Bp k=(k==3) by cases h:(k==3)<;>simp_all[Bp]);clear O;go_in;go_wp2;go_ret;exact⟨AF hk.symm,rfl⟩
theorem Qe (k:Int)(w:Ω):Ξ prog 181 #[.int .i64 k] w λe w'=>e=.returned (.int .i64 (IJ k))/\w=w':=by
 by_cases h3:k=0
 .subst h3
  go_in;go_wp2;go_ret;exact⟨rfl,rfl⟩
 have t3:(k==0)=false:=by simp[h3]
 by_cases O:k=1
 .subst O
  go_in;go_wp2;go_ret;exact⟨rfl,rfl⟩
 have t2:(k==1)=false:=by simp[O]
 have hk:=AA (show IJ k=3 by simp[IJ,O,h3]);clear O h3;go_in;go_wp2;go_ret;exact⟨Cy hk.symm,rfl⟩
theorem Ql (h:k<s.size)(N:GH s[k]=false):BR s=false:=by
 have:s.data.toList.all GH=false:=by rw[xj];exact⟨s[k],by simp[uC],by simp[N]⟩
 simp[BR,this]
theorem V6{s:ByteArray}(h:∀k (E:k<s.size),GH s[k]=true):BR s=decide ((s.size:Int)<=4):=by
 have:s.data.toList.all GH=true:=by rw[yr];intro x H;obtain⟨k,E,rfl⟩:=wY H;have:=h k (by simpa using E);simpa[uC] using this
 rw[BR,this,Bool.true_and]
 by_cases h4:s.size<=4
 .have:(s.size:Int)<=4:=ω
  simp[h4,this]
 have:¬(s.size:Int)<=4:=ω;simp[h4,this]
theorem El (s:ByteArray)(w:Ω)(V:s.size<=maxLen):
 Ξ prog 200 #[.string s] w λe w'=>e=.returned (.bool (BR s))/\w=w':=by
 unfold maxLen at V;go_in;go_wp2_with fail;go_loop [3] (λi=>∃k:Nat,k<=s.size/\i=.int .i64 k/\∀j (X:j<s.size),j<k->GH s[j]=true) (λi=>s.size - (intOf i).toNat)
 exact⟨0,yt _,rfl,λj _ X=>absurd X (xV _)⟩
 obtain⟨k,E,rfl,ay⟩:=hrel;have ax:=AA ay;clear ay
 by_cases aq:k<s.size
 .by_cases J:s[k].toNat<97
  .have S:=AA (Ql (s:=s) aq (by simp[GH];omega))
   have t1:(s[k].toNat:Int)<97:=ω;go_wp2;go_ret;exact⟨AF S.symm,rfl⟩
  by_cases O:99<s[k].toNat
  .have S:=AA (Ql (s:=s) aq (by simp[GH];omega))
   have t1:(99:Int)<s[k].toNat:=ω;have t2:¬(s[k].toNat:Int)<97:=ω;go_wp2;go_ret;exact⟨AF S.symm,rfl⟩
  have Ok:=AA (show GH s[k]=true by simp[GH];omega)
  have t1:¬(99:Int)<s[k].toNat:=ω;have t2:¬(s[k].toNat:Int)<97:=ω;go_wp2;go_round
  case rel=>exact⟨k+1,ω,ξ,λj X je=>by
   rcases xC.1 je with h|h
   .exact ax j X h
   subst h;exact Ok.u⟩
  case measure=>simp[intOf];omega
 have S:=AA (V6 (s:=s) (λj X=>ax j X ω))
 go_wp2;go_ret;exact⟨AF S.symm,rfl⟩
theorem Lp{f:FuncId}(h:Ξ P f al (w.drewN n) λe w'=>e=.returned v/\w.drewN n=w'):Ξ P f al (w.drewN n) λe ci=>e=.returned v/\∃m,ci=w.drewN m:=
 h.mono λ_ _ ⟨he,hm⟩=>⟨he,n,hm.symm⟩
theorem Qz{wr:Ω}(h:∃n,wr=w.drewN n)(m:Nat):∃n,wr.drewN m=w.drewN n:=by obtain⟨n,rfl⟩:=h;exact⟨n+m,MO w n m⟩
theorem J8 (h:k<ss.length)(N:DB ss k=false):BW ss=false:=by have:(yL ss.length).all (DB ss)=false:=xj.2 ⟨k,yi.2 h,by simp[N]⟩;simp[BW,this]
theorem Ni (h:∀k,k<ss.length->DB ss k=true):BW ss=decide ((ss.length:Int)<=6):=by
 have:(yL ss.length).all (DB ss)=true:=yr.2 λk E=>h k (yi.1 E)
 rw[BW,this,Bool.true_and]
 by_cases h4:ss.length<=6
 .have:(ss.length:Int)<=6:=ω
  simp[h4,this]
 have:¬(ss.length:Int)<=6:=ω;simp[h4,this]
theorem VE.str (h:VE 1 A0 w a ss)(E:k<ss.length):∃b D,a=some ⟨b,D,none⟩/\w.cell? ⟨b,D+k,none⟩=some (.string (Cw ss k)):=by obtain⟨b,D,rfl,_,N⟩:=h k _ (IB E);exact⟨b,D,rfl,by simpa using N 0 _ rfl⟩
def DQ(ss:List ByteArray):Prop:=∀s∈ss,s.size<=maxLen
theorem DQ.nth (h:DQ ss)(E:k<ss.length):(Cw ss k).size<=maxLen:=h _ (yv (IB E))
theorem H6 (v:Φ)(ss:List ByteArray)(w:Ω)(h:BY w v ss)(V:DQ ss):
 Ξ prog 139 #[v] w λe w'=>e=.returned (.bool (BW ss))/\∃n,w'=w.drewN n:=by
 obtain⟨a,c,rfl,N,am,H0⟩:=BK.open Fi ψ h;unfold maxLen at am;have Hs:=AA V;clear V h;go_in;go_wp2_with fail;go_loopw [3] (λi wr=>∃k:Nat,k<=ss.length/\i=.int .i64 k/\(∀j,j<k->DB ss j=true)/\∃n,wr=w.drewN n) (λi _=>ss.length - (intOf i).toNat)
 exact⟨0,yt _,rfl,λj X=>absurd X (xV _),0,rfl⟩
 obtain⟨k,E,rfl,ay,hw⟩:=hrel;have ax:=AA ay;clear ay;have Hw:=AA hw;clear hw
 by_cases aq:k<ss.length
 .obtain⟨b,D,rfl,D0⟩:=H0.str aq
  have ab:wr.cell? (b,D+k)=some (.string (Cw ss k)):=by obtain⟨n,rfl⟩:=Hw.u;exact D0
  have jc:(k:Int)<ss.length:=ω;have cT:=Hs.nth aq;cases bi:BR (Cw ss k)
  .have S:=AA (J8 aq (by simp[DB,bi]))
   have HQ:=AA (show ∀W,Ξ prog 200 #[.string (Cw ss k)] W λe w'=>e=.returned (.bool false)/\W=w' from λW=>by have:=El (Cw ss k) W cT;rwa [bi] at this);clear bi D0;go_wp2_with fail;go_quiet ((go_at_call 200;exact Lp (HQ _)));go_wp2;go_ret;exact⟨AF S.symm,Qz Hw _⟩
  have HQ:=AA (show ∀W,Ξ prog 200 #[.string (Cw ss k)] W λe w'=>e=.returned (.bool true)/\W=w' from λW=>by have:=El (Cw ss k) W cT;rwa [bi] at this)
  by_cases f8:k=0
  .have Ok:=AA (show DB ss k=true by simp[DB,bi];exact .inl f8)
   have t0:decide (0<k)=false:=η;clear bi f8 D0;go_wp2_with fail;go_quiet ((go_at_call 200;exact Lp (HQ _)));go_wp2;go_roundw;exact⟨k+1,ω,ξ,Am ax Ok.u,Qz Hw _⟩;simp[intOf];omega
  obtain⟨b',ee,ft,E0⟩:=H0.str (ω:k - 1<ss.length)
  obtain⟨rfl,rfl⟩:b=b'/\D=ee:=by simpa using ft
  have hk:wr.cell? (b,D+(k - 1))=some (.string (Cw ss (k - 1))):=by obtain⟨n,rfl⟩:=Hw.u;exact E0
  have t0:decide (0<k)=true:=η;have kH:(0:Int)<k:=ω;have s0:wX.wrap ((k:Int) - 1)=(k:Int) - 1:=xJ _ ω;have s1:((k:Int) - 1).toNat=k - 1:=ω;have s2:(k:Int) - 1<ss.length:=ω;have s3:(1:Int)<=k:=ω;have s4:(0:Int)<=(k:Int) - 1:=ω;clear D0 E0 ft;cases c7:OM (Cw ss (k - 1)) (Cw ss k)
  .have Ok:=AA (show DB ss k=true by simp[DB,bi,c7])
   have hL:wH (Cw ss (k - 1)).toList (Cw ss k).toList=true:=by simpa[OM] using c7
   clear bi c7;go_wp2_with fail;go_quiet ((go_at_call 200;exact Lp (HQ _)));go_wp2;go_roundw;exact⟨k+1,ω,ξ,Am ax Ok.u,Qz Hw _⟩;simp[intOf];omega
  have S:=AA (J8 aq (by simp[DB,bi,c7,f8]))
  have hL:wH (Cw ss (k - 1)).toList (Cw ss k).toList=false:=by simpa[OM] using c7
  clear bi c7;go_wp2_with fail;go_quiet ((go_at_call 200;exact Lp (HQ _)));go_wp2;go_ret;exact⟨AF S.symm,Qz Hw _⟩
 have S:=AA (Ni (ss:=ss) (λj X=>ax j ω))
 go_wp2;go_ret;exact⟨AF S.symm,Hw.u⟩
def GV{α:Type}(p:α->Bool)(xs:List α):Int:=if xs.any p then(xs.findIdx p:Int) else -1
section
variable {α:Type} {p:α->Bool} {xs:List α}
theorem Jd(h:∀(j:Nat) x,xs[j]?=some x->p x=false):GV p xs= -1:=by
 unfold GV;have:xs.any p=false:=by rw[uj];intro x H;obtain⟨j,X⟩:=xN H;simp[h j x X]
 simp[this]
theorem Kx{k:Nat}{x:α}(E:xs[k]?=some x)(h:∀(j:Nat) y,j<k->xs[j]?=some y->p y=false)(hp:p x=true):GV p xs=k:=by
 unfold GV;obtain⟨aq,rfl⟩:=yA.1 E;have J:xs.any p=true:=vP.2 ⟨xs[k],tX aq,hp⟩;have O:xs.findIdx p=k:=by
  rw[tI aq];exact⟨hp,λj X=>h j _ X (yG ω)⟩
 simp[J,O]
theorem Ky:decide (0<=GV p xs)=xs.any p:=by unfold GV;cases xs.any p<;>simp
theorem Ja{k:Nat}{x:α}(h:∀(j:Nat) y,j<k->xs[j]?=some y->p y=false)(E:xs[k]?=some x)(hp:p x=false):∀(j:Nat) y,j<k+1->xs[j]?=some y->p y=false:=by
 intro j y X hy
 rcases xC.1 X with h'|h'
 .exact h j y h' hy
 subst h'
 rw[E] at hy;cases hy;exact hp
end
theorem Ke (F:Nat)(au:Array Φ)(p:AX->Bool)(v:Φ)(xs:List AX)(w:Ω)(h:Bf w v xs)
 (hF:∀al w,(callFunc F al).run prog w=.ok (.enter F al) w)(hf:∀x,x∈xs->∀W,Γ w.heap.size w W->Ξ prog F (#[x.val]++au) W λe W'=>e=.returned (.bool (p x))/\Γ W.heap.size W W'):
 Ξ prog 197 #[v,.func (.func F) #[] au] w λe w'=>e=.returned (.int .i64 (GV p xs))/\Γ w w w':=by
 obtain⟨a,c,rfl,N,am,H0⟩:=BK.open Az ψ h;clear h;unfold maxLen at am;have Hf:=AA hf;clear hf;go_in;go_wp2;go_loopw [8] (λi wr=>∃k:Nat,k<=xs.length/\i=.int .i64 k/\(∀(j:Nat) x,j<k->xs[j]?=some x->p x=false)/\Γ w w wr) (λi _=>xs.length - (intOf i).toNat)
 exact⟨0,yt _,rfl,λj x X=>absurd X (xV _),yN _ _⟩
 obtain⟨k,E,rfl,ay,ac⟩:=hrel;have ax:=AA ay;clear ay
 by_cases aq:k<xs.length
 .have H:xs[k]?=some (JR xs k):=by simp[JR,aq]
  obtain⟨b,D,rfl,bC,fo,iL,iK⟩:=H0.zZ aq;have D0:=(ac.cell (p:=⟨b,D+k*3,none⟩) bC).trans fo;have D1:=(ac.cell (p:=⟨b,D+k*3+1,none⟩) bC).trans iL;have D2:=(ac.cell (p:=⟨b,D+k*3+2,none⟩) bC).trans iK;clear fo iL iK;have Hx:=AA H;have Hc:=AA (Hf _ (yv H) wr ac);clear H;cases hp:p (JR xs k)
  .have Hp:=AA hp;clear hp
   go_wp2_with (refine Hc.mono ?_;rintro e w' ⟨rfl,ar⟩;rw[Hp.u]);go_roundw;exact⟨k+1,ω,ξ,Ja ax Hx Hp.u,ac.trans (ar.mono ac.size)⟩;simp[intOf];omega
  have Hp:=AA hp;clear hp
  have bl:=AA (Kx Hx ax Hp.u);go_wp2_with (refine Hc.mono ?_;rintro e w' ⟨rfl,ar⟩;rw[Hp.u]);go_ret;exact⟨Cy bl.symm,ac.trans (ar.mono ac.size)⟩
 have bl:=AA (Jd (p:=p) (xs:=xs) (λj x H=>ax j x (by have:=(yA.1 H).1;omega) H))
 go_wp2;go_ret;exact⟨Cy bl.symm,ac⟩
theorem MB (F:Nat)(au:Array Φ)(p:AX->Bool)(v:Φ)(xs:List AX)(w:Ω)(h:Bf w v xs)
 (hF:∀al w,(callFunc F al).run prog w=.ok (.enter F al) w)(hf:∀x,x∈xs->∀W,Γ w.heap.size w W->Ξ prog F (#[x.val]++au) W λe W'=>e=.returned (.bool (p x))/\Γ W.heap.size W W'):
 Ξ prog 153 #[v,.func (.func F) #[] au] w λe w'=>e=.returned (.bool (xs.any p))/\Γ w w w':=by
 have hk:=AA (Ky (p:=p) (xs:=xs));have C:=AA (Ke F au p v xs w h hF hf);clear h hf;go_in;go_wp2_with (refine C.mono ?_;rintro e w' ⟨rfl,ar⟩);go_ret;exact⟨AF hk.u,ar⟩
theorem Jy (F:Nat)(au:Array Φ)(p:Ag->Bool)(v:Φ)(xs:List Ag)(w:Ω)(h:Do w v xs)
 (hF:∀al w,(callFunc F al).run prog w=.ok (.enter F al) w)(hf:∀x,x∈xs->∀W,Γ w.heap.size w W->Ξ prog F (#[x.val]++au) W λe W'=>e=.returned (.bool (p x))/\Γ W.heap.size W W'):
 Ξ prog 212 #[v,.func (.func F) #[] au] w λe w'=>e=.returned (.int .i64 (GV p xs))/\Γ w w w':=by
 obtain⟨a,c,rfl,N,am,H0⟩:=BK.open Cj ψ h;clear h;unfold maxLen at am;have Hf:=AA hf;clear hf;go_in;go_wp2;go_loopw [8] (λi wr=>∃k:Nat,k<=xs.length/\i=.int .i64 k/\(∀(j:Nat) x,j<k->xs[j]?=some x->p x=false)/\Γ w w wr) (λi _=>xs.length - (intOf i).toNat)
 exact⟨0,yt _,rfl,λj x X=>absurd X (xV _),yN _ _⟩
 obtain⟨k,E,rfl,ay,ac⟩:=hrel;have ax:=AA ay;clear ay
 by_cases aq:k<xs.length
 .have H:xs[k]?=some (AV xs k):=by simp[AV,aq]
  obtain⟨b,D,rfl,bC,fo,iL,iK,j9⟩:=H0.zV aq;have D0:=(ac.cell (p:=⟨b,D+k*4,none⟩) bC).trans fo;have D1:=(ac.cell (p:=⟨b,D+k*4+1,none⟩) bC).trans iL;have D2:=(ac.cell (p:=⟨b,D+k*4+2,none⟩) bC).trans iK;have D3:=(ac.cell (p:=⟨b,D+k*4+3,none⟩) bC).trans j9;clear fo iL iK j9;have Hx:=AA H;have Hc:=AA (Hf _ (yv H) wr ac);clear H;cases hp:p (AV xs k)
  .have Hp:=AA hp;clear hp
   go_wp2_with (refine Hc.mono ?_;rintro e w' ⟨rfl,ar⟩;rw[Hp.u]);go_roundw;exact⟨k+1,ω,ξ,Ja ax Hx Hp.u,ac.trans (ar.mono ac.size)⟩;simp[intOf];omega
  have Hp:=AA hp;clear hp
  have bl:=AA (Kx Hx ax Hp.u);go_wp2_with (refine Hc.mono ?_;rintro e w' ⟨rfl,ar⟩;rw[Hp.u]);go_ret;exact⟨Cy bl.symm,ac.trans (ar.mono ac.size)⟩
 have bl:=AA (Jd (p:=p) (xs:=xs) (λj x H=>ax j x (by have:=(yA.1 H).1;omega) H))
 go_wp2;go_ret;exact⟨Cy bl.symm,ac⟩
theorem Jz (F:Nat)(au:Array Φ)(p:ByteArray->Bool)(v:Φ)(xs:List ByteArray)(w:Ω)(h:BY w v xs)
 (hF:∀al w,(callFunc F al).run prog w=.ok (.enter F al) w)(hf:∀x,x∈xs->∀W,Γ w.heap.size w W->Ξ prog F (#[xZ x]++au) W λe W'=>e=.returned (.bool (p x))/\Γ W.heap.size W W'):
 Ξ prog 170 #[v,.func (.func F) #[] au] w λe w'=>e=.returned (.int .i64 (GV p xs))/\Γ w w w':=by
 obtain⟨a,c,rfl,N,am,H0⟩:=BK.open Fi ψ h;clear h;unfold maxLen at am;have Hf:=AA hf;clear hf;go_in;go_wp2;go_loopw [8] (λi wr=>∃k:Nat,k<=xs.length/\i=.int .i64 k/\(∀(j:Nat) x,j<k->xs[j]?=some x->p x=false)/\Γ w w wr) (λi _=>xs.length - (intOf i).toNat)
 exact⟨0,yt _,rfl,λj x X=>absurd X (xV _),yN _ _⟩
 obtain⟨k,E,rfl,ay,ac⟩:=hrel;have ax:=AA ay;clear ay
 by_cases aq:k<xs.length
 .have H:xs[k]?=some (Cw xs k):=by simp[Cw,aq]
  obtain⟨b,D,rfl,fo⟩:=H0.str aq;have bC:=yK w _ fo;have D0:wr.cell? (b,D+k)=some (.string (Cw xs k)):=(ac.cell (p:=⟨b,D+k,none⟩) bC).trans fo;clear fo;have Hx:=AA H;have Hc:=AA (Hf _ (yv H) wr ac);clear H;cases hp:p (Cw xs k)
  .have Hp:=AA hp;clear hp
   go_wp2_with (refine Hc.mono ?_;rintro e w' ⟨rfl,ar⟩;rw[Hp.u]);go_roundw;exact⟨k+1,ω,ξ,Ja ax Hx Hp.u,ac.trans (ar.mono ac.size)⟩;simp[intOf];omega
  have Hp:=AA hp;clear hp
  have bl:=AA (Kx Hx ax Hp.u);go_wp2_with (refine Hc.mono ?_;rintro e w' ⟨rfl,ar⟩;rw[Hp.u]);go_ret;exact⟨Cy bl.symm,ac.trans (ar.mono ac.size)⟩
 have bl:=AA (Jd (p:=p) (xs:=xs) (λj x H=>ax j x (by have:=(yA.1 H).1;omega) H))
 go_wp2;go_ret;exact⟨Cy bl.symm,ac⟩
theorem LR (F:Nat)(au:Array Φ)(p:ByteArray->Bool)(v:Φ)(xs:List ByteArray)(w:Ω)(h:BY w v xs)
 (hF:∀al w,(callFunc F al).run prog w=.ok (.enter F al) w)(hf:∀x,x∈xs->∀W,Γ w.heap.size w W->Ξ prog F (#[xZ x]++au) W λe W'=>e=.returned (.bool (p x))/\Γ W.heap.size W W'):
 Ξ prog 109 #[v,.func (.func F) #[] au] w λe w'=>e=.returned (.bool (xs.any p))/\Γ w w w':=by
 have hk:=AA (Ky (p:=p) (xs:=xs));have C:=AA (Jz F au p v xs w h hF hf);clear h hf;go_in;go_wp2_with (refine C.mono ?_;rintro e w' ⟨rfl,ar⟩);go_ret;exact⟨AF hk.u,ar⟩
theorem Kf (F:Nat)(au:Array Φ)(p:List Int->Bool)(v:Φ)(m:List (List Int))(w:Ω)(h:Bl w v m)
 (hF:∀al w,(callFunc F al).run prog w=.ok (.enter F al) w)(hf:∀u r,r∈m->∀W,Γ w.heap.size w W->A1 W u r->Ξ prog F (#[u]++au) W λe W'=>e=.returned (.bool (p r))/\Γ W.heap.size W W'):
 Ξ prog 168 #[v,.func (.func F) #[] au] w λe w'=>e=.returned (.int .i64 (GV p m))/\Γ w w w':=by
 obtain⟨vs,J,O⟩:=h;obtain⟨a,c,rfl,N,am,H0⟩:=BK.open Eh ψ J;clear J;unfold maxLen at am;have Hf:=AA hf;clear hf;have H2:=AA O;clear O;go_in;go_wp2;go_loopw [8] (λi wr=>∃k:Nat,k<=vs.length/\i=.int .i64 k/\(∀(j:Nat) x,j<k->m[j]?=some x->p x=false)/\Γ w w wr) (λi _=>vs.length - (intOf i).toNat)
 exact⟨0,yt _,rfl,λj x X=>absurd X (xV _),yN _ _⟩
 obtain⟨k,E,rfl,ay,ac⟩:=hrel;have ax:=AA ay;clear ay
 by_cases aq:k<vs.length
 .obtain⟨u,hu⟩:∃u,vs[k]?=some u:=⟨_,yG aq⟩
  obtain⟨r,H⟩:∃r,m[k]?=some r:=⟨_,yG (by rw[<-H2.1];exact aq)⟩
  obtain⟨b,D,rfl,bC,av⟩:=H0 k u hu;have D0:wr.cell? (b,D+k)=some u:=(ac.cell (p:=⟨b,D+k,none⟩) bC).trans (by simpa using av 0 u rfl);have hr:=H2.2 k u r hu H;have Hx:=AA H;have Hc:=AA (Hf u r (yv H) wr ac (A1.below hr ac));clear H hu av hr;cases hp:p r
  .have Hp:=AA hp;clear hp
   go_wp2_with (refine Hc.mono ?_;rintro e w' ⟨rfl,ar⟩;rw[Hp.u]);go_roundw;exact⟨k+1,ω,ξ,Ja ax Hx Hp.u,ac.trans (ar.mono ac.size)⟩;simp[intOf];omega
  have Hp:=AA hp;clear hp
  have bl:=AA (Kx Hx ax Hp.u);go_wp2_with (refine Hc.mono ?_;rintro e w' ⟨rfl,ar⟩;rw[Hp.u]);go_ret;exact⟨Cy bl.symm,ac.trans (ar.mono ac.size)⟩
 have bl:=AA (Jd (p:=p) (xs:=m) (λj x H=>ax j x (by have:=(yA.1 H).1;rw[<-H2.1] at this;omega) H))
 go_wp2;go_ret;exact⟨Cy bl.symm,ac⟩
theorem JX (F:Nat)(au:Array Φ)(p:List Int->Bool)(v:Φ)(m:List (List Int))(w:Ω)(h:Bl w v m)
 (hF:∀al w,(callFunc F al).run prog w=.ok (.enter F al) w)(hf:∀u r,r∈m->∀W,Γ w.heap.size w W->A1 W u r->Ξ prog F (#[u]++au) W λe W'=>e=.returned (.bool (p r))/\Γ W.heap.size W W'):
 Ξ prog 104 #[v,.func (.func F) #[] au] w λe w'=>e=.returned (.bool (m.any p))/\Γ w w w':=by
 have hk:=AA (Ky (p:=p) (xs:=m));have C:=AA (Kf F au p v m w h hF hf);clear h hf;go_in;go_wp2_with (refine C.mono ?_;rintro e w' ⟨rfl,ar⟩);go_ret;exact⟨AF hk.u,ar⟩
section
variable {α:Type} {lo e sz:Nat} {cs:α->List Φ} {w:Ω} {g z k:Nat} {xs:List α}
theorem AQ.zW{v:Φ}(h:AQ lo e sz cs w v xs)(hn:0<xs.length):∃g z,v=.slice (some ⟨g,0,none⟩) xs.length z/\xs.length<=z/\z<=maxLen/\lo<=g/\g<w.heap.size/\∀j,w.frozen? ⟨g,j,none⟩=false:=by
 obtain⟨g,z,rfl,J,O⟩:=JM h hn;obtain⟨a,c,hv,h3,h4⟩:=h.rd.shape;cases hv;exact⟨g,z,rfl,h3,h4,J,O,λj=>xU h j⟩
theorem AQ.stored(V:∀x,(cs x).length=sz)(h:AQ lo e sz cs w (.slice g xs.length z) xs)(E:k<xs.length)(y:α):
 AQ lo e sz cs (IL w g (k*sz) 0 (cs y)) (.slice g xs.length z) (xs.set k y)/\w.grownBy (IL w g (k*sz) 0 (cs y)) (some g):=by
 obtain⟨J,O⟩:=Eb h (k*sz) 0 (cs y);rw[SL V E] at J;refine⟨?_,O⟩;unfold AQ;rw[yh];exact J
theorem AQ.zJ(V:∀x,(cs x).length=sz)(h:AQ lo e sz cs w (.slice g xs.length z) xs){x:α}(E:xs[k]?=some x):∀(j:Nat) u,(cs x)[j]?=some u->w.cell? (g,k*sz+j)=some u:=by
 intro j u X;have aq:=(yA.1 E).1;have ek:j<sz:=by rw[<-V x];exact(yA.1 X).1
 have hm:k*sz+sz<=xs.length*sz:=by rw[<-uP];exact wI _ aq
 rw[xO h (k*sz+j) ω,Q0 V E ek,X]
end
theorem AQ.zZ{xs:List AX}(h:AQ lo e 3 Av w (.slice g xs.length z) xs)(E:k<xs.length):
 w.cell? (g,k*3)=some (.int .i64 (JR xs k).k)/\w.cell? (g,k*3+1)=some (.string (JR xs k).g)/\w.cell? (g,k*3+2)=some (.int .i64 (JR xs k).r):=by
 have N:=AQ.zJ Az h (k:=k) (x:=JR xs k) (by simp[JR,E]);exact⟨N 0 _ rfl,N 1 _ rfl,N 2 _ rfl⟩
theorem AQ.zV{xs:List Ag}(h:AQ lo e 4 AY w (.slice g xs.length z) xs)(E:k<xs.length):
 w.cell? (g,k*4)=some (.int .i64 (AV xs k).e)/\w.cell? (g,k*4+1)=some (.int .i64 (AV xs k).p)/\w.cell? (g,k*4+2)=some (.int .i64 (AV xs k).f)/\w.cell? (g,k*4+3)=some (.bool (AV xs k).w):=by
 have N:=AQ.zJ Cj h (k:=k) (x:=AV xs k) (by simp[AV,E]);exact⟨N 0 _ rfl,N 1 _ rfl,N 2 _ rfl,N 3 _ rfl⟩
theorem AM (h:Γ B w w')(Z:w'.grownBy ci (some g))(hB:B<=g)(V:B<=w'.heap.size):Γ B w ci:=h.grown Z V (λk E=>by cases E;exact hB)
theorem IH (b o:Nat)(vs:List Φ):∀(j:Nat)(w:Ω),w.setCells b (o+j) vs=IL w b o j vs:=by
 induction vs with
 |nil=>intro j w;rfl
 |cons v vs ih=>intro j w;exact ih (j+1) _
theorem WD (xs us:List Φ)(o:Nat):∀(j:Nat),(FY xs o j us).take o=xs.take o:=by
 induction us generalizing xs with
 |nil=>intro j;rfl
 |cons u us ih=>
  intro j;rw[FY,ih];apply su;intro k
  by_cases E:k<o
  .rw[uW E,uW E,List.getElem?_set_ne ω]
  rw[tN ω,tN ω]
theorem Qb{xs:List Φ}(h:w.ownsRow lo e sz (.slice g n z) n xs)(E:k<=n):w.ownsRow lo e sz (.slice g k z) k (xs.take (k*sz)):=by
 rcases h.2 with⟨h0,_⟩|⟨g',cap',bn,hv,Y,Z,bx,am,cz,htake⟩
 .cases h0
 cases hv
 have hm:k*sz<=n*sz:=wI _ E;refine⟨by rw[ym,h.1];omega,.inr ⟨g,z,bn,rfl,Y,Z,ω,am,cz,?_⟩⟩;rw[<-htake,vj,vL hm]
theorem Kv{xs:List Φ}{ai:Φ}(K:P.underlying t=some (.slice e))(hv:∀w,(zeroValue e).run P w=.ok ai w)(fv:ai.cells.size=sz)(J:∀u∈ai.cells.toList,u.oneCell'=true)
 (h:w.ownsRow lo e sz (.slice g n z) n xs)(E:k<n):
 ∃w',(∀ty c,(tU #[t] ty #[.slice (some ⟨g,k*sz,none⟩) (n - k) c]).run P w=.ok (.tuple #[]) w')/\w'.ownsRow lo e sz (.slice g k z) k (xs.take (k*sz))/\w.grownBy w' (some g):=by
 have bk:(xX ai.cells (n - k)).toList.length=(n - k)*sz:=by simp[xX,fv,Nat.mul_comm]
 have kJ:=h.1;have kq:k*sz+(n - k)*sz=n*sz:=by rw[<-Nat.add_mul];congr 1;omega
 have hst:=run_storeCells_cells (P:=P) g (k*sz) (xX ai.cells (n - k)).toList 0 w (by
  intro j X;rw[bk] at X;have:=xO h (k*sz+j) ω;simp only[xT] at this ⊢;rw[this];simp;omega) (by intro j _;exact xU h _) (by
  intro u hu;simp only[xX,Array.toList_map,vU,Array.mem_toList_iff,Array.mem_range] at hu;obtain⟨i,A,rfl⟩:=hu;have V:0<ai.cells.size:=by
   rcases wA ai.cells.size with h0|h0
   .rw[h0] at A;simp at A
   exact h0
  have aq:i%ai.cells.size<ai.cells.size:=sr _ V;refine J _ ?_;simp[aq])
 obtain⟨m,hm⟩:∃m,n - k=m+1:=⟨n - k - 1,ω⟩
 simp only[xT] at hst;refine⟨w.setCells g (k*sz) (xX ai.cells (n - k)).toList,λty c=>?_,?_,?_⟩
 .rw[hm] at hst ⊢
  simp[tU,th K,hv,hst]
 .have e0:=IH g (k*sz) (xX ai.cells (n - k)).toList 0 w
  rw[xT] at e0;rw[e0];obtain⟨a1,_⟩:=Eb h (k*sz) 0 (xX ai.cells (n - k)).toList;have:=Qb a1 (Nat.le_of_lt E);rw[WD] at this;exact this
 have e0:=IH g (k*sz) (xX ai.cells (n - k)).toList 0 w
 rw[xT] at e0;rw[e0];exact(Eb h (k*sz) 0 (xX ai.cells (n - k)).toList).2
section
variable {α:Type} {p:α->Bool} {xs ys:List α} {i j:Nat}
structure Jx(p:α->Bool)(xs ys:List α)(i j:Nat):Prop where
 len:ys.length=xs.length
 lt:i<j
 le:j<=xs.length
 kept:ys.take i=(xs.take j).filter λx=>!p x
 rest:ys.drop j=xs.drop j
theorem Jx.start{k:Nat}{x:α}(E:xs[k]?=some x)(h:∀(j:Nat) y,j<k->xs[j]?=some y->p y=false)(hp:p x=true):Jx p xs xs k (k+1):=by
 have aq:=(yA.1 E).1;refine⟨rfl,ω,ω,?_,rfl⟩;rw[DA E,wD];have J:(xs.take k).filter (λx=>!p x)=xs.take k:=by rw[uu];intro y hy;obtain⟨j,X⟩:=xN hy;have je:=(yA.1 X).1;rw[ym] at je;rw[uW ω] at X;simp[h j y ω X]
 rw[J];simp[hp]
theorem Jx.drop(h:Jx p xs ys i j){x:α}(H:xs[j]?=some x)(hp:p x=true):Jx p xs ys i (j+1):=by
 have aq:=(yA.1 H).1;refine⟨h.len,by have:=h.lt;omega,ω,?_,?_⟩
 .rw[h.kept,DA H,wD]
  simp[hp]
 have:=congrArg (List.drop 1) h.rest
 rw[uB,uB] at this;exact this
theorem Jx.keep(h:Jx p xs ys i j){x:α}(H:xs[j]?=some x)(hp:p x=false):Jx p xs (ys.set i x) (i+1) (j+1):=by
 have aq:=(yA.1 H).1;have eD:=h.lt;refine⟨by rw[yh];exact h.len,ω,ω,?_,?_⟩
 .have e:(ys.set i x).take (i+1)=ys.take i++[x]:=by
   have A:(ys.set i x)[i]?=some x:=by rw[List.getElem?_set_self (by rw[h.len];omega)]
   rw[DA A,List.take_set_of_le (yF _)]
  rw[e,h.kept,DA H,wD];simp[hp]
 rw[List.drop_set_of_lt ω]
 have:=congrArg (List.drop 1) h.rest;rw[uB,uB] at this;exact this
theorem Jx.next(h:Jx p xs ys i j):ys[j]?=xs[j]? :=by
 have:=congrArg (λl=>l[0]?) h.rest;simpa using this
theorem Jx.done(h:Jx p xs ys i j)(X:j=xs.length):ys.take i=xs.filter λx=>!p x:=by rw[h.kept,X,xE]
theorem Oh(h:GV p xs≠ -1):∃k x,GV p xs=((k:Nat):Int)/\xs[k]?=some x/\p x=true/\∀(j:Nat) y,j<k->xs[j]?=some y->p y=false:=by
 unfold GV at h ⊢
 split
 .rename_i ha
  have hl:xs.findIdx p<xs.length:=vM.2 (vP.1 ha);refine⟨_,xs[xs.findIdx p],rfl,yG hl,vC,λj y X hy=>?_⟩;obtain⟨iO,rfl⟩:=yA.1 hy;have:=List.not_of_lt_findIdx X;simpa using this
 rename_i ha
 rw[if_neg ha] at h;exact absurd rfl h
theorem SG(h:GV p xs= -1):xs.filter (λx=>!p x)=xs:=by
 rw[uu];intro x H;unfold GV at h
 split at h
 .omega
 rename_i ha
 simp only[vP,not_exists,not_and] at ha;simpa using ha x H
end
theorem AQ.strCells{xs:List ByteArray}(h:AQ lo e 1 A0 w (.slice g xs.length z) xs)(E:k<xs.length):w.cell? (g,k)=some (.string (Cw xs k)):=by have N:=AQ.zJ Fi h (k:=k) (x:=Cw xs k) (by simp[Cw,E]);simpa using N 0 _ rfl
theorem fF{xs:List Φ}(h:w.ownsRow lo e sz (.slice g n z) n xs):lo<=g/\g<w.heap.size:=World.ownsRow.lt h g rfl
theorem Qq:∀w,(zeroValue 125).run prog w=.ok (.agg #[θ,θ,θ,υ]) w:=λ_=>φ
theorem JY (F:Nat)(au:Array Φ)(p:Ag->Bool)(v:Φ)(xs:List Ag)(w:Ω)(h:AQ lo 125 4 AY w v xs)(bm:lo<=w.heap.size)
 (hF:∀al w,(callFunc F al).run prog w=.ok (.enter F al) w)(hf:∀x,x∈xs->∀W,Γ lo w W->Ξ prog F (#[x.val]++au) W λe W'=>e=.returned (.bool (p x))/\Γ W.heap.size W W'):
 Ξ prog 223 #[v,.func (.func F) #[] au] w λe w'=>∃v',e=.returned v'/\AQ lo 125 4 AY w' v' (xs.filter λx=>!p x)/\Γ lo w w':=by
 have C0:=Jy F au p v xs w h.rd hF (λx H W hW=>hf x H W (hW.mono bm))
 by_cases bw:GV p xs= -1
 .have S:=AA (SG bw)
  rw[bw] at C0;have hx:=AA h;obtain⟨a,c,rfl,N,am⟩:=h.rd.shape;have C:=AA C0;clear C0 hf bw h;go_in;go_wp2_with (refine C.mono ?_;rintro e w1 ⟨rfl,bt⟩);go_ret;exact⟨_,rfl,by rw[S.u];exact hx.below bt,bt.mono bm⟩
 obtain⟨k,x0,E,fx,ii,ay⟩:=Oh bw
 rw[E] at C0;have io:k<xs.length:=(yA.1 fx).1;obtain⟨g,z,rfl,N,am,Z,jh,fl⟩:=h.zW ω;unfold maxLen at am;have t0:((k:Int)== -1)=false:=by rw[beq_eq_false_iff_ne];omega
 have C:=AA C0;have Hf:=AA hf;have S0:=AA (Jx.start fx ay ii);have HO:=AA h;clear C0 hf bw E fx ii ay h fl;go_in;go_wp2_with (refine C.mono ?_;rintro e w1 ⟨rfl,bt⟩);go_loopw [5,6] (λi5 j6 wr=>∃i j:Nat,∃ys:List Ag,i5=.int .i64 i/\j6=.int .i64 j/\Jx p xs ys i j/\AQ lo 125 4 AY wr (.slice g xs.length z) ys/\Γ lo w wr) (λ_ j6 _=>xs.length - (intOf j6).toNat)
 exact⟨k,k+1,xs,rfl,ξ,S0.u,HO.below bt,bt.mono bm⟩
 clear bt HO;obtain⟨i,j,ys,rfl,rfl,hS,hO,ac⟩:=hrel;have eD:=hS.lt;have iO:=hS.le;have bk:=hS.len;have S:=AA hS;have bX:AQ lo 125 4 AY wr (.slice g ys.length z) ys:=by rw[bk];exact hO
 have gk:∀q,wr.frozen? ⟨g,q,none⟩=false:=λq=>xU bX q
 have cr:lo<=wr.heap.size:=yM bm ac.size
 by_cases aq:j<xs.length
 .obtain⟨x,H⟩:∃x,xs[j]?=some x:=⟨_,yG aq⟩
  have iq:j<ys.length:=ω;have ir:i<ys.length:=ω;obtain⟨d0,d1,d2,d3⟩:=AQ.zV bX (k:=j) iq;obtain⟨e0,e1,e2,e3⟩:=AQ.zV bX (k:=i) ir;have hM:AV ys j=x:=by have:=S.next;rw[H] at this;simp[AV,this]
  rw[hM] at d0 d1 d2 d3;have kw:=(fF bX);have Cf:=AA (Hf x (yv H) (wr.alloc (.cells #[x.e,x.p,x.f,x.w] 125)) (ac.alloc cr _));have Hx:=AA H;have jA:=AA bX;have jy:i<xs.length:=ω;clear hS hO bX H hM bk iq ir;go_wp2_with fail;refine Cf.mono ?_;rintro e w2 ⟨rfl,ar⟩;have bf:=(ac.alloc cr (.cells #[x.e,x.p,x.f,x.w] 125)).trans (ar.mono η);have fd:=(AJ wr (.cells #[x.e,x.p,x.f,x.w] 125)).trans (ar.mono (AJ _ _).size);have iJ:=AA (jA.below fd);obtain⟨jZ,ky⟩:=cI ar;have hz:wr.heap.size<w2.heap.size:=by have:=ar.size;simp at this;omega
  cases hp:p x
  .have SK:=AA (S.keep Hx hp)
   have Hp:=AA hp;clear hp;have g7:=AQ.stored Cj iJ (k:=i) (by rw[S.len];exact jy) x;have ST:=AA g7;clear g7;have BL:=AA (AM bf ST.2 Z (yM cr fd.size));clear fd bf ar;go_wp2;go_roundw;exact⟨i+1,j+1,ys.set i x,ξ,ξ,SK.u,by have:=ST.1;rw[S.len] at this;exact this,BL.u⟩;simp[intOf];omega
  have SD:=AA (S.drop Hx hp)
  have Hp:=AA hp;clear hp;have HB:=AA bf;clear fd bf ar;go_wp2;go_roundw;exact⟨i,j+1,ys,rfl,ξ,SD.u,by have:=iJ.u;rw[S.len] at this;exact this,HB.u⟩;simp[intOf];omega
 have ip:j=xs.length:=ω;have hd:=AA (hS.done ip);have b4:i<xs.length:=ω;have ed:wr.ownsRow lo 125 4 (.slice g xs.length z) xs.length (Ce AY ys):=by have:=bX;unfold AQ at this;rwa [bk] at this
 obtain⟨w3,e7,cP,iu⟩:=Kv (P:=prog) (sz:=4) (t:=26) underlying26 Qq rfl (by simp[uG,xR]) ed b4;have hE:(Ce AY ys).take (i*4)=Ce AY (xs.filter λx=>!p x):=by
  rw[<-hd.u]
  conv=>lhs;rw[<-wO i ys,Bq]
  rw[vz];rw[Je Cj,ym]
  congr 1;omega
 have hL:(xs.filter λx=>!p x).length=i:=by rw[<-hd.u,ym];omega
 rw[hE] at cP;have R:=AA (show AQ lo 125 4 AY w3 (.slice g i z) (xs.filter λx=>!p x) by unfold AQ;rw[hL];exact cP);have BL:=AA (AM ac iu Z cr);have jq:¬z=i:=ω;have gp:=λty=>e7 ty (z - i)
 clear hO bX ed cP hE hL e7 iu bk hS gk ip hd;go_wp2;go_ret;exact⟨_,rfl,R.u,BL.u⟩
theorem Xk:∀w,(zeroValue 9).run prog w=.ok (.string ⟨#[]⟩) w:=λ_=>φ
theorem MD (F:Nat)(au:Array Φ)(p:ByteArray->Bool)(v:Φ)(xs:List ByteArray)(w:Ω)(h:AQ lo 9 1 A0 w v xs)(bm:lo<=w.heap.size)
 (hF:∀al w,(callFunc F al).run prog w=.ok (.enter F al) w)(hf:∀x,x∈xs->∀W,Γ lo w W->Ξ prog F (#[xZ x]++au) W λe W'=>e=.returned (.bool (p x))/\Γ W.heap.size W W'):
 Ξ prog 227 #[v,.func (.func F) #[] au] w λe w'=>∃v',e=.returned v'/\AQ lo 9 1 A0 w' v' (xs.filter λx=>!p x)/\Γ lo w w':=by
 have C0:=Jz F au p v xs w h.rd hF (λx H W hW=>hf x H W (hW.mono bm))
 by_cases bw:GV p xs= -1
 .have S:=AA (SG bw)
  rw[bw] at C0;have hx:=AA h;obtain⟨a,c,rfl,N,am⟩:=h.rd.shape;have C:=AA C0;clear C0 hf bw h;go_in;go_wp2_with (refine C.mono ?_;rintro e w1 ⟨rfl,bt⟩);go_ret;exact⟨_,rfl,by rw[S.u];exact hx.below bt,bt.mono bm⟩
 obtain⟨k,x0,E,fx,ii,ay⟩:=Oh bw
 rw[E] at C0;have io:k<xs.length:=(yA.1 fx).1;obtain⟨g,z,rfl,N,am,Z,jh,fl⟩:=h.zW ω;unfold maxLen at am;have t0:((k:Int)== -1)=false:=by rw[beq_eq_false_iff_ne];omega
 have C:=AA C0;have Hf:=AA hf;have S0:=AA (Jx.start fx ay ii);have HO:=AA h;clear C0 hf bw E fx ii ay h fl;go_in;go_wp2_with (refine C.mono ?_;rintro e w1 ⟨rfl,bt⟩);go_loopw [5,6] (λi5 j6 wr=>∃i j:Nat,∃ys:List ByteArray,i5=.int .i64 i/\j6=.int .i64 j/\Jx p xs ys i j/\AQ lo 9 1 A0 wr (.slice g xs.length z) ys/\Γ lo w wr) (λ_ j6 _=>xs.length - (intOf j6).toNat)
 exact⟨k,k+1,xs,rfl,ξ,S0.u,HO.below bt,bt.mono bm⟩
 clear bt HO;obtain⟨i,j,ys,rfl,rfl,hS,hO,ac⟩:=hrel;have eD:=hS.lt;have iO:=hS.le;have bk:=hS.len;have S:=AA hS;have bX:AQ lo 9 1 A0 wr (.slice g ys.length z) ys:=by rw[bk];exact hO
 have gk:∀q,wr.frozen? ⟨g,q,none⟩=false:=λq=>xU bX q
 have cr:lo<=wr.heap.size:=yM bm ac.size
 by_cases aq:j<xs.length
 .obtain⟨x,H⟩:∃x,xs[j]?=some x:=⟨_,yG aq⟩
  have iq:j<ys.length:=ω;have ir:i<ys.length:=ω;have d0:=AQ.strCells bX (k:=j) iq;have e0:=AQ.strCells bX (k:=i) ir;have hM:Cw ys j=x:=by have:=S.next;rw[H] at this;simp[Cw,this]
  rw[hM] at d0;have kw:=(fF bX);have Cf:=AA (Hf x (yv H) wr ac);have Hx:=AA H;have jA:=AA bX;have jy:i<xs.length:=ω;clear hS hO bX H hM bk iq ir;go_wp2_with fail;refine Cf.mono ?_;rintro e w2 ⟨rfl,ar⟩;have bf:=ac.trans (ar.mono cr);have fd:=ar;have iJ:=AA (jA.below fd);obtain⟨jZ,ky⟩:=cI ar;have hz:=ar.size;cases hp:p x
  .have SK:=AA (S.keep Hx hp)
   have Hp:=AA hp;clear hp;have g7:=AQ.stored Fi iJ (k:=i) (by rw[S.len];exact jy) x;simp only[wZ] at g7;have ST:=AA g7;clear g7;have BL:=AA (AM bf ST.2 Z (yM cr fd.size));clear fd bf ar;go_wp2;go_roundw;exact⟨i+1,j+1,ys.set i x,ξ,ξ,SK.u,by have:=ST.1;rw[S.len] at this;exact this,BL.u⟩;simp[intOf];omega
  have SD:=AA (S.drop Hx hp)
  have Hp:=AA hp;clear hp;have HB:=AA bf;clear fd bf ar;go_wp2;go_roundw;exact⟨i,j+1,ys,rfl,ξ,SD.u,by have:=iJ.u;rw[S.len] at this;exact this,HB.u⟩;simp[intOf];omega
 have ip:j=xs.length:=ω;have hd:=AA (hS.done ip);have b4:i<xs.length:=ω;have ed:wr.ownsRow lo 9 1 (.slice g xs.length z) xs.length (Ce A0 ys):=by have:=bX;unfold AQ at this;rwa [bk] at this
 obtain⟨w3,e7,cP,iu⟩:=Kv (P:=prog) (sz:=1) (t:=79) underlying79 Xk rfl (by simp[uG,xR]) ed b4;have hE:(Ce A0 ys).take (i*1)=Ce A0 (xs.filter λx=>!p x):=by
  rw[<-hd.u]
  conv=>lhs;rw[<-wO i ys,Bq]
  rw[vz];rw[Je Fi,ym]
  congr 1;omega
 have hL:(xs.filter λx=>!p x).length=i:=by rw[<-hd.u,ym];omega
 rw[hE] at cP;have R:=AA (show AQ lo 9 1 A0 w3 (.slice g i z) (xs.filter λx=>!p x) by unfold AQ;rw[hL];exact cP);have BL:=AA (AM ac iu Z cr);have jq:¬z=i:=ω;have gp:=λty=>e7 ty (z - i)
 simp only[wZ] at gp;clear hO bX ed cP hE hL e7 iu bk hS gk ip hd;go_wp2;go_ret;exact⟨_,rfl,R.u,BL.u⟩
theorem EA{t ty:TypeId}(e:TypeId)(ai:Φ)(sz bytes:Nat)(K:prog.underlying t=some (.slice e))(A:(prog.info? e).map (λi=>(i.zero,i.size,i.bytes))=some (some ai,sz,bytes))
 (fv:ai.cells.size=sz)(cT:0<sz)(Y:w.heap[g]?=some (.cells #[] e (0,0)))(bm:lo<=g){u:Φ}{m:Nat}{news:List Φ}(hr:Rd w u sz m news)(J:∀u∈news,u.oneCell'=true)
 (bY:m*bytes<=140737488355328):∃v' w',(vE #[t,t] ty #[.slice g 0 0,u]).run prog w=.ok v' w'/\w'.ownsRow lo e sz v' m news/\Γ w w w'/\(∀k,v'.ownBlock=some k->k=g∨w.heap.size<=k):=by
 obtain⟨i0,d4,e9,ez,e8⟩:=tV A;obtain⟨ao,c,rfl,jQ,am,hl,az,N⟩:=hr;have jh:g<w.heap.size:=(we.1 Y).1;have a8:∀l,l<=g->w.ownsRow l e sz (.slice g 0 0) 0 []:=λl hl=>⟨χ,.inr ⟨g,0,#[],rfl,hl,Y,yF _,ζ,χ,χ⟩⟩
 rcases wA m with rfl|hm
 .have cq:news=[]:=xY (by simpa using hl)
  subst cq;cases ao with
  |none=>have b8:=az rfl;subst b8;exact⟨_,w,by simp[vE,th K,sizeOf,typeInfo,d4,sh,Builtin.firstCells,storeCells],a8 lo bm,yN _ _,λk E=>by simp[vh] at E;exact .inl E.symm⟩
  |some a=>have hf:=run_firstCells_some (P:=prog) w i0.size 0 a 0 c [] χ χ;exact⟨_,w,by simp[vE,th K,sizeOf,typeInfo,d4,sh,hf,storeCells],a8 lo bm,yN _ _,λk E=>by simp[vh] at E;exact .inl E.symm⟩
 obtain⟨b,D,rfl,av⟩:=N hm
 obtain⟨v',w',cn,r1,r2⟩:=run_append_arg_grows (P:=prog) w t ty e i0 ai sz bytes K d4 e9 ez e8 fv cT ⟨g,0,none⟩ 0 0 [] χ χ ⟨b,D,none⟩ m c news hl (by
  intro j u hu;have X:j<news.length:=(yA.1 hu).1;have dg:(⟨b,D,none⟩:Addr).add j=⟨b,D+j,none⟩:=by unfold uE;split<;>simp_all
  rw[dg,av j ω,hu]) ω ω (by rw[wT];exact bY)
 have hB:=Below.zE r2;have jD:w'.ownsRow w e sz v' m news:=by simpa using r1
 exact⟨v',w',cn,Bb jD ω,hB,λk E=> .inr (jD.lt k E).1⟩
theorem Us{vs:List Φ}(h:Gj (A1 w) vs m):∀u∈Ce HJ vs,u.oneCell'=true:=by
 intro u hu;obtain⟨x,H,V⟩:=wR.1 hu;simp[HJ] at V;subst V;obtain⟨i,A⟩:=xN H;obtain⟨r,hr⟩:∃r,m[i]?=some r:=⟨_,yG (by rw[<-h.1];exact(yA.1 A).1)⟩
 obtain⟨a,c,rfl,_⟩:=(h.2 i _ r A hr).open;rfl
theorem aY{ps:List (Φ×Int)}(h:Gj (λp e=>BY w p.1 e.Pj/\p.2=e.root) ps es):∀u∈Ce FM ps,u.oneCell'=true:=by
 intro u hu;obtain⟨x,H,V⟩:=wR.1 hu;obtain⟨i,A⟩:=xN H;obtain⟨r,hr⟩:∃r,es[i]?=some r:=⟨_,yG (by rw[<-h.1];exact(yA.1 A).1)⟩
 obtain⟨a,c,e,_⟩:=BK.shape (h.2 i _ r A hr).1;simp[FM] at V
 rcases V with rfl|rfl
 .rw[e];rfl
 rfl
theorem Tryz.zO:(prog.info? 115).map (λi=>(i.zero,i.size,i.bytes))=some (some (.agg #[θ,ϑ,θ]),3,32):=φ
theorem Gq (v:Φ)(xs:List AX)(w:Ω)(h:BK 3 Av w v xs)(V:xs.length<=1048576):
 Ξ prog 121 #[v] w λe w'=>∃v',e=.returned v'/\AQ w.heap.size 115 3 Av w' v' xs/\Γ w w w':=by
 have bu:∀u∈Ce Av xs,u.oneCell'=true:=by
  intro u hu;obtain⟨s,_,V⟩:=wR.1 hu;simp[Av] at V
  rcases V with rfl|rfl|rfl<;>rfl
 have h':=h;obtain⟨a,c,rfl,bx,am,hl,az,N⟩:=h';have hq:=λw=>wM (P:=prog) w 24 115 a xs.length c 0 0 underlying24
 have b0:=AA bu;clear bu;cases a with
 |none=>have b8:=az rfl;subst b8;have h0:xs=[]:=xY ω;subst h0;simp only[xi] at hq;go_in;go_wp2;go_ret;exact⟨_,rfl,xy _ _ _ _,yN _ _⟩
 |some ad=>clear N az;have bA:(Ce Av xs).length=xs.length*3:=hl;have Hl:=AA bA;clear hl bA;go_in;go_wp2_with (refine Ek (lo:=w.heap.size) (v:=.slice w 0 0) (n:=0) (xs:=[]) (m:=xs.length) (news:=Ce Av xs) rfl rfl 115 (.agg #[θ,ϑ,θ]) 3 32 underlying24 Tryz.zO rfl ψ rfl (Co _ _ _) rfl (Rd.alloc h _) b0 μ ω χ ?_;intro v' w' a8 _ ac);go_ret;refine⟨_,rfl,by simpa[AQ] using a8,((yN _ _).alloc (yF _) _).trans ac⟩
theorem Tryz.infoEnvK:(prog.info? 81).map (λi=>(i.zero,i.size,i.bytes))=some (some (.agg #[ι,θ]),2,32):=φ
theorem VG (v:Φ)(xs:List (Φ×Int))(w:Ω)(h:BK 2 FM w v xs)(V:xs.length<=1048576)(bu:∀u∈Ce FM xs,u.oneCell'=true):
 Ξ prog 122 #[v] w λe w'=>∃v',e=.returned v'/\AQ w.heap.size 81 2 FM w' v' xs/\Γ w w w':=by
 have h':=h;obtain⟨a,c,rfl,bx,am,hl,az,N⟩:=h';have hq:=λw=>wM (P:=prog) w 25 81 a xs.length c 0 0 underlying25
 have b0:=AA bu;clear bu;cases a with
 |none=>have b8:=az rfl;subst b8;have h0:xs=[]:=xY ω;subst h0;simp only[xi] at hq;go_in;go_wp2;go_ret;exact⟨_,rfl,xy _ _ _ _,yN _ _⟩
 |some ad=>clear N az;have bA:(Ce FM xs).length=xs.length*2:=hl;have Hl:=AA bA;clear hl bA;go_in;go_wp2_with (refine Ek (lo:=w.heap.size) (v:=.slice w 0 0) (n:=0) (xs:=[]) (m:=xs.length) (news:=Ce FM xs) rfl rfl 81 (.agg #[ι,θ]) 2 32 underlying25 Tryz.infoEnvK rfl ψ rfl (Co _ _ _) rfl (Rd.alloc h _) b0 μ ω χ ?_;intro v' w' a8 _ ac);go_ret;refine⟨_,rfl,by simpa[AQ] using a8,((yN _ _).alloc (yF _) _).trans ac⟩
theorem Tryz.zP:(prog.info? 125).map (λi=>(i.zero,i.size,i.bytes))=some (some (.agg #[θ,θ,θ,υ]),4,32):=φ
theorem Jo (v:Φ)(xs:List Ag)(w:Ω)(h:BK 4 AY w v xs)(V:xs.length<=1048576):
 Ξ prog 123 #[v] w λe w'=>∃v',e=.returned v'/\AQ w.heap.size 125 4 AY w' v' xs/\Γ w w w':=by
 have bu:∀u∈Ce AY xs,u.oneCell'=true:=by
  intro u hu;obtain⟨s,_,V⟩:=wR.1 hu;simp[AY] at V
  rcases V with rfl|rfl|rfl|rfl<;>rfl
 have h':=h;obtain⟨a,c,rfl,bx,am,hl,az,N⟩:=h';have hq:=λw=>wM (P:=prog) w 26 125 a xs.length c 0 0 underlying26
 have b0:=AA bu;clear bu;cases a with
 |none=>have b8:=az rfl;subst b8;have h0:xs=[]:=xY ω;subst h0;simp only[xi] at hq;go_in;go_wp2;go_ret;exact⟨_,rfl,xy _ _ _ _,yN _ _⟩
 |some ad=>clear N az;have bA:(Ce AY xs).length=xs.length*4:=hl;have Hl:=AA bA;clear hl bA;go_in;go_wp2_with (refine Ek (lo:=w.heap.size) (v:=.slice w 0 0) (n:=0) (xs:=[]) (m:=xs.length) (news:=Ce AY xs) rfl rfl 125 (.agg #[θ,θ,θ,υ]) 4 32 underlying26 Tryz.zP rfl ψ rfl (Co _ _ _) rfl (Rd.alloc h _) b0 μ ω χ ?_;intro v' w' a8 _ ac);go_ret;refine⟨_,rfl,by simpa[AQ] using a8,((yN _ _).alloc (yF _) _).trans ac⟩
def DT(x:Bx):List Φ:=[.int .i64 x.w,.int .i64 x.a,.bool x.u]
theorem F7 (x:Bx):(DT x).length=3:=rfl
theorem Tryz.zv:(prog.info? 87).map (λi=>(i.zero,i.size,i.bytes))=some (some (.agg #[θ,θ,υ]),3,24):=φ
theorem To (v:Φ)(xs:List Bx)(w:Ω)(h:BK 3 DT w v xs)(V:xs.length<=1048576):
 Ξ prog 63 #[v] w λe w'=>∃v',e=.returned v'/\AQ w.heap.size 87 3 DT w' v' xs/\Γ w w w':=by
 have bu:∀u∈Ce DT xs,u.oneCell'=true:=by
  intro u hu;obtain⟨s,_,V⟩:=wR.1 hu;simp[DT] at V
  rcases V with rfl|rfl|rfl<;>rfl
 have h':=h;obtain⟨a,c,rfl,bx,am,hl,az,N⟩:=h';have hq:=λw=>wM (P:=prog) w 30 87 a xs.length c 0 0 underlying30
 have b0:=AA bu;clear bu;cases a with
 |none=>have b8:=az rfl;subst b8;have h0:xs=[]:=xY ω;subst h0;simp only[xi] at hq;go_in;go_wp2;go_ret;exact⟨_,rfl,xy _ _ _ _,yN _ _⟩
 |some ad=>clear N az;have bA:(Ce DT xs).length=xs.length*3:=hl;have Hl:=AA bA;clear hl bA;go_in;go_wp2_with (refine Ek (lo:=w.heap.size) (v:=.slice w 0 0) (n:=0) (xs:=[]) (m:=xs.length) (news:=Ce DT xs) rfl rfl 87 (.agg #[θ,θ,υ]) 3 24 underlying30 Tryz.zv rfl ψ rfl (Co _ _ _) rfl (Rd.alloc h _) b0 μ ω χ ?_;intro v' w' a8 _ ac);go_ret;refine⟨_,rfl,by simpa[AQ] using a8,((yN _ _).alloc (yF _) _).trans ac⟩
theorem Tryz.zT:(prog.info? 9).map (λi=>(i.zero,i.size,i.bytes))=some (some (.string ⟨#[]⟩),1,16):=φ
theorem Jp (v:Φ)(xs:List ByteArray)(w:Ω)(h:BK 1 A0 w v xs)(V:xs.length<=1048576):
 Ξ prog 124 #[v] w λe w'=>∃v',e=.returned v'/\AQ w.heap.size 9 1 A0 w' v' xs/\Γ w w w':=by
 have bu:∀u∈Ce A0 xs,u.oneCell'=true:=by intro u hu;obtain⟨s,_,V⟩:=wR.1 hu;simp[A0] at V;subst V;rfl
 have h':=h;obtain⟨a,c,rfl,bx,am,hl,az,N⟩:=h';have hq:=λw=>wM (P:=prog) w 79 9 a xs.length c 0 0 underlying79
 have b0:=AA bu;clear bu;cases a with
 |none=>have b8:=az rfl;subst b8;have h0:xs=[]:=xY ω;subst h0;simp only[xi] at hq;go_in;go_wp2;go_ret;exact⟨_,rfl,xy _ _ _ _,yN _ _⟩
 |some ad=>clear N az;have bA:(Ce A0 xs).length=xs.length*1:=hl;have Hl:=AA bA;clear hl bA;go_in;go_wp2_with (refine Ek (lo:=w.heap.size) (v:=.slice w 0 0) (n:=0) (xs:=[]) (m:=xs.length) (news:=Ce A0 xs) rfl rfl 9 (.string ⟨#[]⟩) 1 16 underlying79 Tryz.zT rfl ψ rfl (Co _ _ _) rfl (Rd.alloc h _) b0 μ ω χ ?_;intro v' w' a8 _ ac);go_ret;refine⟨_,rfl,by simpa[AQ] using a8,((yN _ _).alloc (yF _) _).trans ac⟩
theorem Tryz.infoRowsK:(prog.info? 29).map (λi=>(i.zero,i.size,i.bytes))=some (some (.slice none 0 0),1,24):=φ
theorem NU (v:Φ)(xs:List Φ)(w:Ω)(h:BK 1 HJ w v xs)(V:xs.length<=1048576)(bu:∀u∈Ce HJ xs,u.oneCell'=true):
 Ξ prog 125 #[v] w λe w'=>∃v',e=.returned v'/\AQ w.heap.size 29 1 HJ w' v' xs/\Γ w w w':=by
 have h':=h;obtain⟨a,c,rfl,bx,am,hl,az,N⟩:=h';have hq:=λw=>wM (P:=prog) w 23 29 a xs.length c 0 0 underlying23
 have b0:=AA bu;clear bu;cases a with
 |none=>have b8:=az rfl;subst b8;have h0:xs=[]:=xY ω;subst h0;simp only[xi] at hq;go_in;go_wp2;go_ret;exact⟨_,rfl,xy _ _ _ _,yN _ _⟩
 |some ad=>clear N az;have bA:(Ce HJ xs).length=xs.length*1:=hl;have Hl:=AA bA;clear hl bA;go_in;go_wp2_with (refine Ek (lo:=w.heap.size) (v:=.slice w 0 0) (n:=0) (xs:=[]) (m:=xs.length) (news:=Ce HJ xs) rfl rfl 29 (.slice none 0 0) 1 24 underlying23 Tryz.infoRowsK rfl ψ rfl (Co _ _ _) rfl (Rd.alloc h _) b0 μ ω χ ?_;intro v' w' a8 _ ac);go_ret;refine⟨_,rfl,by simpa[AQ] using a8,((yN _ _).alloc (yF _) _).trans ac⟩
theorem Sv{m:Nat}{xs:List Φ}(h:w.ownsRow lo e sz (.slice g n z) n xs)(hn:n<=m)(hm:m<=z):∃ys,ys.take (n*sz)=xs/\w.ownsRow lo e sz (.slice g m z) m ys:=by
 rcases h.2 with⟨h0,_⟩|⟨g',cap',bn,hv,Y,Z,bx,am,cz,htake⟩
 .cases h0
 cases hv
 have J:n*sz<=m*sz:=wI _ hn;have O:m*sz<=z*sz:=wI _ hm;refine⟨bn.toList.take (m*sz),by rw[vj,vL J];exact htake,?_,.inr ⟨g,z,bn,rfl,Y,Z,hm,am,cz,rfl⟩⟩;rw[ym,sX,cz];omega
theorem PY{a:Act}{Q:Exit->Act->Ω->Prop}{s x:Operand}{t:TypeId}(gi:o.guard=none)(ho:o.op=.call {callee:=.builtin .append,args:= #[s,x],argTypes:= #[t,t]})
 {u:Φ}(V:a.eval s=v)(H:a.eval x=u)(cn:(vE #[t,t] o.type #[v,u]).run P w=.ok v' w')(h:wpList P ops Q rest (a.put o.dst v') w'):wpList P ops Q (o::rest) a w:=
 wpList_plain gi λ_ hK=>Cc ho V H cn (hK _ _ h)
theorem Pi (v:Φ)(xs:List Ag)(w:Ω)(h:AQ lo 125 4 AY w v xs)(bm:lo<=w.heap.size)(h4:xs.length=4):
 Ξ prog 230 #[v,.int .i64 0,.int .i64 1] w λe w'=>∃v',e=.returned v'/\AQ lo 125 4 AY w' v' (xs.drop 1)/\Γ lo w w':=by
 obtain⟨g,z,rfl,N,am,Z,jh,fl⟩:=h.zW ω;have h':w.ownsRow lo 125 4 (.slice g 4 z) 4 (Ce AY xs):=by have:=h;unfold AQ at this;rwa [h4] at this
 rw[h4] at N ⊢;unfold maxLen at am;obtain⟨i0,d4,e9,ez,e8⟩:=tV Tryz.zP;have im:((Ce AY xs).drop 4).length=3*4:=by rw[xh,Je Cj,h4]
 have cn:=λW (hW:∀k,k<w.heap.size->W.heap[k]?=w.heap[k]?) (hO:W.ownsRow lo 125 4 (.slice g 4 z) 4 (Ce AY xs)) ty=>
  run_append_fits (P:=prog) W lo 26 ty 125 i0 4 underlying26 d4 ez g 0 z [] (Qb hO (yt _)) ⟨g,4,none⟩ 3 (z - 1) ((Ce AY xs).drop 4) im (by
   intro j u hu;have X:j<12:=by have:=(yA.1 hu).1;omega
   have e:(⟨g,4,none⟩:Addr).add j=⟨g,4+j,none⟩:=by unfold uE;split<;>simp_all
   rw[e,xO hO (4+j) ω,<-hu,tZ]) (by
   intro u hu;obtain⟨s,_,V⟩:=wR.1 (uD hu);simp[AY] at V
   rcases V with rfl|rfl|rfl|rfl<;>rfl) ω
 have j0:¬z=1:=ω;have hO:=AA h';have HR:=AA cn;clear cn h h' d4 e9 ez e8 im;go_in;go_wp2_with fail;go_still_tail 6,mixed
 change wpList _ _ _ _ _ w.drew
 have en:Γ w w w.drew:=Ap (yN _ _) 1;have bX:=AA (A8 hO en);obtain⟨w3,fn,ed,jW⟩:=HR w.drew en.block bX 26;have bf:=AM (en.mono bm) jW Z (yM bm en.size);have i7:lo<=w3.heap.size:=yM bm bf.size;obtain⟨ys,gr,cP⟩:=Sv ed (ψ:0+3<=4) N;obtain⟨w4,e7,g6,jV⟩:=Kv (P:=prog) (sz:=4) (t:=26) underlying26 Qq rfl (by simp[uG,xR]) cP (ψ:3<4);have hE:ys.take (3*4)=Ce AY (xs.drop 1):=by
  have e:(Ce AY xs).drop 4=Ce AY (xs.drop 1):=by
   cases xs with
   |nil=>rfl
   |cons x xs=>rw[Ia,List.drop_left' (Cj x)];rfl
  rw[<-e];simpa using gr
 rw[hE] at g6;have jY:¬z=3:=ω;have R:=AA (show AQ lo 125 4 AY w4 (.slice g 3 z) (xs.drop 1) by unfold AQ;rw[xh,h4];exact g6);have BL:=AA (AM bf jV Z i7);have gp:=λty=>e7 ty (z - 3)
 simp only[wT] at fn;clear e7 ed cP g6 jW jV gr hE bf en;generalize w.drew=w2 at fn ⊢;refine PY rfl rfl rfl rfl fn ?_;clear fn;go_wp2;go_ret;exact⟨_,rfl,R.u,BL.u⟩
end Go.Proofs.YtlcnbkkcplllhaaGreatDoor
namespace Go.Proofs
open Go.Shelf
def Tryz.lays189_ren:vO:=⟨fun|189=>163|125=>217|257=>216|128=>261|129=>262|294=>252|295=>253|296=>254|297=>255|298=>256|299=>257|216=>258|300=>259|301=>260|328=>275|329=>276|330=>277|331=>278|332=>279|215=>280|343=>288|n=>n,fun|28=>29|3=>3|46=>194|0=>0|51=>225|53=>227|4=>4|183=>218|182=>217|131=>131|5=>5|9=>9|218=>235|222=>183|228=>242|229=>94|n=>n,fun|n=>n⟩
theorem Tryz.lays189:Go.Proofs.Lays.n189 prog Tryz.lays189_ren:= {
 mixed:=φ
 f125:=func217.trans (congrArg some φ)
 f128:=func261.trans (congrArg some φ)
 f129:=func262.trans (congrArg some φ)
 f189:=func163.trans (congrArg some φ)
 f215:=func280.trans (congrArg some φ)
 f216:=func258.trans (congrArg some φ)
 f257:=func216.trans (congrArg some φ)
 f294:=func252.trans (congrArg some φ)
 f295:=func253.trans (congrArg some φ)
 f296:=func254.trans (congrArg some φ)
 f297:=func255.trans (congrArg some φ)
 f298:=func256.trans (congrArg some φ)
 f299:=func257.trans (congrArg some φ)
 f300:=func259.trans (congrArg some φ)
 f301:=func260.trans (congrArg some φ)
 f328:=func275.trans (congrArg some φ)
 f329:=func276.trans (congrArg some φ)
 f330:=func277.trans (congrArg some φ)
 f331:=func278.trans (congrArg some φ)
 f332:=func279.trans (congrArg some φ)
 f343:=func288.trans (congrArg some φ)
 t0:=underlying0
 a0:=uX
 z0:=vp
 v0:=vR
 t3:=underlying3
 a3:=vB
 z3:=vK
 v3:=wt
 t4:=underlying4
 a4:=vA
 z4:=vJ
 v4:=wm
 t5:=underlying5
 a5:=Tryz.isAgg5
 z5:=Tryz.sizeOf5
 v5:=rX
 t9:=underlying9
 a9:=uA
 z9:=uQ
 v9:=vy
 t28:=underlying29
 a28:=tu
 z28:=tD
 v28:=tW
 t46:=underlying194
 a46:=tC
 z46:=tM
 v46:=ue
 t51:=underlying225
 a51:=Tryz.isAgg225
 z51:=Tryz.sizeOf225
 v51:=Tryz.zeroValue225
 t53:=underlying227
 a53:=Tryz.isAgg227
 z53:=Tryz.sizeOf227
 v53:=Tryz.zeroValue227
 t131:=underlying131
 a131:=Tryz.isAgg131
 z131:=Tryz.sizeOf131
 v131:=Tryz.zeroValue131
 t182:=underlying217
 a182:=Tryz.isAgg217
 z182:=Tryz.sizeOf217
 v182:=Tryz.zeroValue217
 t183:=underlying218
 a183:=Tryz.isAgg218
 z183:=Tryz.sizeOf218
 v183:=Tryz.zeroValue218
 t218:=underlying235
 a218:=Tryz.isAgg235
 z218:=Tryz.sizeOf235
 v218:=Tryz.zeroValue235
 t222:=underlying183
 a222:=Tryz.isAgg183
 z222:=Tryz.sizeOf183
 v222:=Tryz.zeroValue183
 t228:=underlying242
 a228:=Tryz.isAgg242
 z228:=Tryz.sizeOf242
 v228:=Tryz.zeroValue242
 t229:=underlying94
 a229:=Tryz.isAgg94
 z229:=Tryz.sizeOf94
 v229:=Tryz.zeroValue94}
def Tryz.lays2n20_ren:vO:=⟨fun|20=>164|n=>n,fun|22=>29|3=>3|4=>4|0=>0|n=>n,fun|n=>n⟩
theorem Tryz.lays2n20:Go.Proofs.Lays2.n20 prog Tryz.lays2n20_ren:= {
 mixed:=φ
 f20:=func164.trans (congrArg some φ)
 t0:=underlying0
 a0:=uX
 z0:=vp
 v0:=vR
 t3:=underlying3
 a3:=vB
 z3:=vK
 v3:=wt
 t4:=underlying4
 a4:=vA
 z4:=vJ
 v4:=wm
 t22:=underlying29
 a22:=tu
 z22:=tD
 v22:=tW
 i3:=φ}
def Tryz.lays107_ren:vO:=⟨fun|107=>221|108=>263|n=>n,fun|28=>29|3=>3|4=>4|0=>0|n=>n,fun|n=>n⟩
theorem Tryz.lays107:Go.Proofs.Lays.n107 prog Tryz.lays107_ren:= {
 mixed:=φ
 f107:=func221.trans (congrArg some φ)
 f108:=func263.trans (congrArg some φ)
 t0:=underlying0
 a0:=uX
 z0:=vp
 v0:=vR
 t3:=underlying3
 a3:=vB
 z3:=vK
 v3:=wt
 t4:=underlying4
 a4:=vA
 z4:=vJ
 v4:=wm
 t28:=underlying29
 a28:=tu
 z28:=tD
 v28:=tW}
def Tryz.lays2n26_ren:vO:=⟨fun|26=>225|33=>264|34=>265|38=>281|n=>n,fun|24=>79|9=>9|3=>3|4=>4|40=>194|0=>0|n=>n,fun|n=>n⟩
theorem Tryz.lays2n26:Go.Proofs.Lays2.n26 prog Tryz.lays2n26_ren:= {
 mixed:=φ
 f26:=func225.trans (congrArg some φ)
 f33:=func264.trans (congrArg some φ)
 f34:=func265.trans (congrArg some φ)
 f38:=func281.trans (congrArg some φ)
 t0:=underlying0
 a0:=uX
 z0:=vp
 v0:=vR
 t3:=underlying3
 a3:=vB
 z3:=vK
 v3:=wt
 t4:=underlying4
 a4:=vA
 z4:=vJ
 v4:=wm
 t9:=underlying9
 a9:=uA
 z9:=uQ
 v9:=vy
 t24:=underlying79
 a24:=Tryz.isAgg79
 z24:=Tryz.sizeOf79
 v24:=sg
 t40:=underlying194
 a40:=tC
 z40:=tM
 v40:=ue}
def Tryz.lays2n22_ren:vO:=⟨fun|22=>226|29=>266|30=>267|36=>282|17=>289|n=>n,fun|24=>79|9=>9|3=>3|4=>4|0=>0|n=>n,fun|n=>n⟩
theorem Tryz.lays2n22:Go.Proofs.Lays2.n22 prog Tryz.lays2n22_ren:= {
 mixed:=φ
 f17:=func289.trans (congrArg some φ)
 f22:=func226.trans (congrArg some φ)
 f29:=func266.trans (congrArg some φ)
 f30:=func267.trans (congrArg some φ)
 f36:=func282.trans (congrArg some φ)
 t0:=underlying0
 a0:=uX
 z0:=vp
 v0:=vR
 t3:=underlying3
 a3:=vB
 z3:=vK
 v3:=wt
 t4:=underlying4
 a4:=vA
 z4:=vJ
 v4:=wm
 t9:=underlying9
 a9:=uA
 z9:=uQ
 v9:=vy
 t24:=underlying79
 a24:=Tryz.isAgg79
 z24:=Tryz.sizeOf79
 v24:=sg
 i9:=φ}
def Tryz.lays160_ren:vO:=⟨fun|160=>214|232=>246|231=>245|227=>247|234=>249|233=>248|236=>251|235=>250|228=>271|271=>274|151=>273|197=>272|120=>287|152=>286|260=>285|137=>291|119=>292|224=>293|225=>294|217=>295|266=>296|n=>n,fun|9=>9|4=>4|3=>3|5=>5|117=>212|116=>211|0=>0|124=>215|21=>21|105=>232|46=>194|119=>246|139=>249|138=>248|n=>n,fun|3=>0|4=>1|n=>n⟩
theorem Tryz.lays160:Go.Proofs.Lays.n160 prog Tryz.lays160_ren:= {
 mixed:=φ
 f119:=func292.trans (congrArg some φ)
 f120:=func287.trans (congrArg some φ)
 f137:=func291.trans (congrArg some φ)
 f151:=func273.trans (congrArg some φ)
 f152:=func286.trans (congrArg some φ)
 f160:=func214.trans (congrArg some φ)
 f197:=func272.trans (congrArg some φ)
 f217:=func295.trans (congrArg some φ)
 f224:=func293.trans (congrArg some φ)
 f225:=func294.trans (congrArg some φ)
 f227:=func247.trans (congrArg some φ)
 f228:=func271.trans (congrArg some φ)
 f231:=func245.trans (congrArg some φ)
 f232:=func246.trans (congrArg some φ)
 f233:=func248.trans (congrArg some φ)
 f234:=func249.trans (congrArg some φ)
 f235:=func250.trans (congrArg some φ)
 f236:=func251.trans (congrArg some φ)
 f260:=func285.trans (congrArg some φ)
 f266:=func296.trans (congrArg some φ)
 f271:=func274.trans (congrArg some φ)
 t0:=underlying0
 a0:=uX
 z0:=vp
 v0:=vR
 t3:=underlying3
 a3:=vB
 z3:=vK
 v3:=wt
 t4:=underlying4
 a4:=vA
 z4:=vJ
 v4:=wm
 t5:=underlying5
 a5:=Tryz.isAgg5
 z5:=Tryz.sizeOf5
 v5:=rX
 t9:=underlying9
 a9:=uA
 z9:=uQ
 v9:=vy
 t21:=underlying21
 a21:=Tryz.isAgg21
 z21:=Tryz.sizeOf21
 v21:=Tryz.zeroValue21
 t46:=underlying194
 a46:=tC
 z46:=tM
 v46:=ue
 t105:=underlying232
 a105:=Tryz.isAgg232
 z105:=Tryz.sizeOf232
 v105:=Tryz.zeroValue232
 t116:=underlying211
 a116:=Tryz.isAgg211
 z116:=Tryz.sizeOf211
 t117:=underlying212
 a117:=Tryz.isAgg212
 z117:=Tryz.sizeOf212
 v117:=Tryz.zeroValue212
 t119:=underlying246
 a119:=Tryz.isAgg246
 z119:=Tryz.sizeOf246
 t124:=underlying215
 a124:=Tryz.isAgg215
 z124:=Tryz.sizeOf215
 v124:=Tryz.zeroValue215
 t138:=underlying248
 a138:=Tryz.isAgg248
 z138:=Tryz.sizeOf248
 v138:=Tryz.zeroValue248
 t139:=underlying249
 a139:=Tryz.isAgg249
 z139:=Tryz.sizeOf249
 v139:=Tryz.zeroValue249
 g3:=φ
 g4:=φ}
def Tryz.lays99_ren:vO:=⟨fun|99=>111|206=>171|n=>n,fun|9=>9|4=>4|3=>3|n=>n,fun|n=>n⟩
theorem Tryz.lays99:Go.Proofs.Lays.n99 prog Tryz.lays99_ren:= {
 mixed:=φ
 f99:=func111.trans (congrArg some φ)
 f206:=func171.trans (congrArg some φ)
 t3:=underlying3
 a3:=vB
 z3:=vK
 v3:=wt
 t4:=underlying4
 a4:=vA
 z4:=vJ
 v4:=wm
 t9:=underlying9
 a9:=uA
 z9:=uQ
 v9:=vy}
end Go.Proofs
namespace Go.Proofs.YtlcnbkkcplllhaaGreatDoor
open Go.Proofs.Tryz
open Go.RowKit Go.Shelf
theorem UU (l cs:List UInt8):Lib.trimLeftS l cs=[]↔∀b∈l,cs.contains b=true:=by
 unfold Lib.trimLeftS
 induction l with
 |nil=>simp
 |cons x l ih=>
  rw[sR]
  by_cases H:cs.contains x=true
  .rw[if_pos H,ih]
   constructor
   .intro h b Y
    rcases xF.1 Y with e|e
    .subst e;exact H
    exact h b e
   intro h b Y
   exact h b (vV _ Y)
  rw[if_neg H]
  constructor
  .intro h;cases h
  intro h;exact absurd (h x wF) H
theorem ds (l cs:List UInt8):ur l cs=[]↔∀b∈l,cs.contains b=true:=by
 unfold ur;rw[UU];unfold Lib.trimRightS;constructor
 .intro h b Y
  by_cases N:cs.contains b=true
  .exact N
  refine h b ?_
  have O:b∈l.reverse:=uU.2 Y;have:∀l':List UInt8,b∈l'->b∈l'.dropWhile (cs.contains ·):=by
   intro l'
   induction l' with
   |nil=>intro h;exact h
   |cons x l' ih=>
    intro h;rw[sR]
    split
    .next H=>
     rcases xF.1 h with e|e
     .subst e;exact absurd H N
     exact ih e
    exact h
  exact uU.2 (this _ O)
 intro h b Y
 exact h b (uU.1 ((List.dropWhile_sublist _).subset (uU.1 Y)))
theorem Sf (c:UInt8):([97,98,99]:List UInt8).contains c=GH c:=by
 have h:∀n:Fin 256,([97,98,99]:List UInt8).contains ⟨⟨n⟩⟩=GH ⟨⟨n⟩⟩:=by decide+kernel
 exact h c.toBitVec.toFin
theorem V7 (s:ByteArray)(h:s.size<=4):(xZ ⟨(ur s.data.toList [97,98,99]).toArray⟩=.string ⟨#[]⟩)↔BR s=true:=by
 have e:BR s=s.data.toList.all GH:=by simp[BR,h]
 rw[e,yr];have t:=ds s.data.toList [97,98,99];constructor
 .intro hv b Y
  have:ur s.data.toList [97,98,99]=[]:=by simp only[Value.string.injEq,ByteArray.mk.injEq] at hv;have:=congrArg Array.toList hv;simpa using this
  rw[<-Sf];exact t.1 this b Y
 intro ha
 rw[t.2 (λb Y=>by rw[Sf];exact ha b Y)]
theorem isEmpty_iff (r:ByteArray):r.toList.isEmpty=true↔r=⟨#[]⟩:=by rw[xA,si];obtain⟨⟨l⟩⟩:=r;simp
theorem Dp (s:ByteArray)(w:Ω)(V:s.size<=maxLen):
 Ξ prog 159 #[.string s] w λe w'=>e=.returned (.bool (BR s))/\Γ w w w':=by
 unfold maxLen at V
 by_cases h4:s.size<=4
 .have d7:=Any.strings_Trim_laid Tryz.lays160 φ s ⟨#[97,98,99]⟩ w ω ψ (ascii_of_all ψ)
  change Ξ prog 214 _ _ (λe w'=>e=.returned (.string ⟨(ur s.data.toList [97,98,99]).toArray⟩)/\Γ w w w') at d7
  have R:=AA (V7 s h4);have i4:(s.size:Int)<=4:=ω
  generalize(⟨(ur s.data.toList [97,98,99]).toArray⟩:ByteArray)=r at d7 R;go_in;go_wp2_with (refine d7.mono ?_;rintro e w1 ⟨rfl,Y⟩;have S:eh (r.toList.isEmpty=BR s):=AA (by rw[Bool.eq_iff_iff,<-R.u,isEmpty_iff];simp));go_ret;exact⟨AF S.u,Y⟩
 have S:=AA (show BR s=false by simp[BR,h4])
 have i4:¬(s.size:Int)<=4:=ω;go_in;go_wp2;go_ret;exact⟨AF S.symm,yN _ _⟩
end Go.Proofs.YtlcnbkkcplllhaaGreatDoor
namespace Go.Proofs.YtlcnbkkcplllhaaGreatDoor
open Go.Proofs.Tryz Go.RowKit Go.Shelf Go.Sort
def A5(ns:List Nat):List Int:=ns.map λn:Nat=>(n:Int)
theorem Cu (ns:List Nat):(A5 ns).length=ns.length:=by simp[A5]
variable{fs ns:List Nat}
variable{b d e g hc i j k len lo n sz z:Nat}
theorem So (h:k<ns.length):nth (A5 ns) k=((ns.getD k 0:Nat):Int):=by simp[nth,A5,h]
theorem Lk:(g:Int)∈A5 ns↔g∈ns:=by
 simp only[A5,vU];constructor
 .rintro⟨a,h,e⟩
  have:a=g:=ω;subst this;exact h
 exact λh=>⟨g,h,rfl⟩
variable{dr v v' v1 v2:Φ}
variable{ci w w' w1:Ω}
theorem Uu{xs:List Φ}(h:w.ownsRow lo e 1 v n xs)(hn:0<n):∃g z bn,v=.slice (some ⟨g,0,none⟩) n z/\lo<=g/\w.heap[g]?=some (.cells bn e (0,0))/\n<=z/\z<=maxLen/\bn.size=z*1/\bn.toList.take (n*1)=xs:=by
 rcases h.2 with⟨rfl,rfl⟩|⟨g,z,bn,rfl,Y,Z,bx,am,cz,htake⟩
 .have:=h.1;simp at this;omega
 exact⟨g,z,bn,rfl,Y,Z,bx,am,cz,htake⟩
theorem OY (v:Φ)(ns:List Nat)(w:Ω)(h:AE lo w v (A5 ns))(V:ns.length<=1048576):
 Ξ prog 163 #[v] w λe w'=>e=.returned (.tuple #[])/\∃ts:List Nat,ts.length=ns.length/\(∀g,g∈ts↔g∈ns)/\AE lo w' v (A5 ts)/\w.grownBy w' v.ownBlock:=by
 by_cases h0:ns.length=0
 .obtain rfl:ns=[]:=xY h0
  obtain⟨a,c,rfl,_⟩:=h.rd.open;refine(Any.slices_Sort_int_none Tryz.lays189 a c w).mono ?_;rintro e w' ⟨rfl,rfl⟩;exact⟨rfl,[],rfl,λ_=>Iff.rfl,h,⟨rfl,rfl,rfl,yF _,λ_ _ _=>rfl⟩⟩
 obtain⟨g,z,bn,rfl,Z,Y,bx,am,cz,K⟩:=Uu h (by rw[Cu];omega)
 have hH:=holds_of_blockI (ss:=A5 ns) Y (by simpa using K);have hl:(ns.mergeSort λx y=>decide (x<=y)).length=ns.length:=List.length_mergeSort _;have e1:(A5 ns).mergeSort (λx y=>decide (x<=y))=A5 (ns.mergeSort λx y=>decide (x<=y)):=by unfold A5;rw[List.map_mergeSort];intro a _ b _;simp
 refine(Any.slices_Sort_int Tryz.lays189 g 0 z (A5 ns) w hH (we.1 Y).1 (by rw[Cu];omega)).mono ?_;rintro e w' ⟨rfl,nn,os,rfl⟩;rw[e1];refine⟨rfl,_,hl,λg=>List.mem_mergeSort,?_,grownBy_sortedI _⟩;have:=ownsRow_sortedI (n:=nn) (os:=os) (ss:=A5 ns) (ts:=A5 (ns.mergeSort λx y=>decide (x<=y))) (by rw[Cu,Cu];exact hl) Z Y bx am cz;have el:(A5 (ns.mergeSort λx y=>decide (x<=y))).length=(A5 ns).length:=by rw[Cu,Cu];exact hl
 unfold AE;rw[el];exact this
theorem Wa (d:Array Int):∀m,m<=d.size->∀x,x∈tO d m↔∃j,j<m/\d[j]! =x:=by
 intro m
 induction m with
 |zero=>intro _ x;simp[tO]
 |succ m ih=>
  intro hm x;rw[Lib.compactUpTo_succ,wJ,ih ω];cases E:Lib.keeps d m
  .have jd:m≠0/\d[m]! =d[m - 1]! :=by
    unfold Lib.keeps at E;simp at E;exact⟨ω,E.2⟩
   constructor
   .rintro(⟨j,X,h⟩|h)
    .exact⟨j,ω,h⟩
    simp at h
   rintro⟨j,X,h⟩
   by_cases e:j=m
   .subst e;exact .inl ⟨j - 1,ω,by rw[<-jd.2];exact h⟩
   exact .inl ⟨j,ω,h⟩
  constructor
  .rintro(⟨j,X,h⟩|h)
   .exact⟨j,ω,h⟩
   simp at h;exact⟨m,ω,h.symm⟩
  rintro⟨j,X,h⟩
  by_cases e:j=m
  .subst e;exact .inr (by simp[h])
  exact .inl ⟨j,ω,h⟩
theorem Of (zs:List Int)(x:Int):x∈wP zs↔x∈zs:=by
 unfold wP;rw[Wa _ _ χ];constructor
 .rintro⟨j,X,rfl⟩
  simp[X]
 intro h
 obtain⟨j,X,rfl⟩:=wY h;exact⟨j,X,by simp[X]⟩
theorem YA (zs:List Int):(wP zs).length<=zs.length:=by unfold wP tO;rw[vm];exact yM (xv _ _) χ
variable{bs xs ys zs:List Int}
theorem ZK (h:∀ai∈zs,0<=ai):A5 (zs.map Int.toNat)=zs:=by
 unfold A5;rw[List.map_map]
 conv=>rhs;rw[<-List.map_id zs]
 exact List.map_congr_left λai hz=>by have:=h ai hz;simp;omega
theorem Yj{xs:List Φ}(h:w.ownsRow lo e 1 (.slice g n z) n xs)(E:k<=n):w.ownsRow lo e 1 (.slice g k z) k (xs.take k):=by
 rcases h.2 with⟨h0,_⟩|⟨g',cap',bn,hv,Y,Z,bx,am,cz,htake⟩
 .cases h0
 cases hv
 refine⟨by have:=h.1;simp at this;simp[this];omega,.inr ⟨g,z,bn,rfl,Y,Z,ω,am,cz,?_⟩⟩;rw[<-htake,vj,wZ,wZ,vL E]
theorem Lu (v:Φ)(ns:List Nat)(w:Ω)(h:AE lo w v (A5 ns))(V:ns.length<=1048576):
 Ξ prog 164 #[v] w λe w'=>∃v',e=.returned v'/\v'.ownBlock=v.ownBlock/\∃ts:List Nat,ts.length<=ns.length/\(∀g,g∈ts↔g∈ns)/\AE lo w' v' (A5 ts)/\w.grownBy w' v.ownBlock:=by
 by_cases h0:ns.length=0
 .obtain rfl:ns=[]:=xY h0
  obtain⟨a,c,rfl,_⟩:=h.rd.open;refine(Any.slices_Compact_int_empty Tryz.lays2n20 a c w).mono ?_;rintro e w' ⟨rfl,rfl⟩;exact⟨_,rfl,rfl,[],yF _,λ_=>Iff.rfl,h,⟨rfl,rfl,rfl,yF _,λ_ _ _=>rfl⟩⟩
 obtain⟨g,z,bn,rfl,Z,Y,bx,am,cz,K⟩:=Uu h (by rw[Cu];omega)
 have hH:=holds_of_blockI (ss:=A5 ns) Y (by simpa using K);have ig:∀ai∈wP (A5 ns),0<=ai:=by intro ai hz;rw[Of] at hz;obtain⟨n,_,rfl⟩:=vU.1 hz;omega
 refine(Any.slices_Compact_int Tryz.lays2n20 g 0 z (A5 ns) w hH (by rw[Cu];omega) bx).mono ?_;rintro e w' ⟨rfl,nn,rfl⟩;have il:=YA (A5 ns);have hO:=ownsRow_sortedI (n:=nn) (os:= #[]) (ss:=A5 ns) (ts:=wP (A5 ns)++xW ((A5 ns).length - (wP (A5 ns)).length) 0) η Z Y bx am cz;have hG:=grownBy_sortedI (w:=w) (g:=g) (n:=nn) (os:= #[]) (wP (A5 ns)++xW ((A5 ns).length - (wP (A5 ns)).length) 0).toArray;rw[grow_empty] at hO hG;refine⟨_,rfl,rfl,(wP (A5 ns)).map Int.toNat,by rw[vm];rw[Cu] at il;exact il,λg=>?_,?_,hG⟩
 .rw[<-Lk,ZK ig,Of,Lk]
 rw[ZK ig]
 have hP:=Yj hO il;unfold AE;have e:((wP (A5 ns)++xW ((A5 ns).length - (wP (A5 ns)).length) 0).map (yl .i64)).take (wP (A5 ns)).length=(wP (A5 ns)).map (yl .i64):=by rw[xK,vz χ]
 rw[e] at hP;exact hP
theorem Ph (v:Φ)(ns:List Nat)(x:Int)(w:Ω)(h:A1 w v (A5 ns)):
 Ξ prog 221 #[v,.int .i64 x] w λe w'=>e=.returned (.bool ((A5 ns).contains x))/\w=w':=by
 obtain⟨a,c,rfl,N,am,H0⟩:=h.open;unfold maxLen at am
 by_cases h0:ns.length=0
 .obtain rfl:ns=[]:=xY h0
  refine(Any.slices_Contains_int_empty Tryz.lays107 a c x w).mono ?_;rintro e w' ⟨rfl,rfl⟩;exact⟨rfl,rfl⟩
 obtain⟨b,D,rfl,av⟩:=H0 0 (by rw[Cu];omega)
 refine(Any.slices_Contains_int Tryz.lays107 b D (A5 ns).length c (A5 ns) x w (yF _) ω (λj X=>av j X)).mono ?_;rintro e w' ⟨rfl,rfl⟩;rw[xE];exact⟨rfl,rfl⟩
theorem NV (s p:ByteArray)(w:Ω):Ξ prog 111 #[.string s,.string p] w λe w'=>e=.returned (.bool (L8 p s))/\w=w':=by refine(Any.strings_HasPrefix Tryz.lays99 s p w).mono ?_;rintro e w' ⟨rfl,rfl⟩;exact⟨rfl,rfl⟩
end Go.Proofs.YtlcnbkkcplllhaaGreatDoor
namespace Go.Proofs.YtlcnbkkcplllhaaGreatDoor
open Go.Proofs.Tryz Go.RowKit
theorem Qm (r:List Int):Lt r=EP r:=by
 unfold Lt EP;rw[Bool.and_comm]
 congr 1
theorem Ob{α:Type}{p:α->Bool}{l:List α}:(!l.any λx=>!p x)=l.all p:=by simp[tz]
theorem Po (u:Φ)(r:List Int)(w:Ω)(h:A1 w u r):Ξ prog 152 #[u] w λe w'=>e=.returned (.bool (!EP r))/\Γ w w w':=by have C:=AA (QR u r w h);clear h;go_in;go_wp2_with (refine C.mono ?_;rintro e w' ⟨rfl,rfl⟩;rw[Qm]);go_ret;exact⟨rfl,yN _ _⟩
theorem JD (v:Φ)(m:List (List Int))(w:Ω)(h:Bl w v m):Ξ prog 93 #[v] w λe w'=>e=.returned (.bool (By m))/\Γ w w w':=by
 have C:=AA (JX 152 #[] (λr=>!EP r) v m w h (λ_ _=>φ) (λu r _ W _ hr=>Po u r W hr));obtain⟨a,c,rfl,N,am,_⟩:=h.open;clear h;unfold maxLen at am
 by_cases h4:m.length=12
 .have S:=AA (show(!m.any λr=>!EP r)=By m by rw[Ob];simp[By,h4])
  have Y:((m.length:Int)==12)=true:=by simp[h4]
  clear h4;go_in;go_wp2_with (refine C.mono ?_;rintro e w' ⟨rfl,ar⟩);go_ret;exact⟨AF S.u,ar⟩
 have S:=AA (show By m=false by simp[By,h4])
 have Y:((m.length:Int)==12)=false:=η;clear h4;go_in;go_wp2;go_ret;exact⟨AF S.symm,yN _ _⟩
def J9(r:List Int):Bool:=r.isEmpty||EP r
theorem WH (h:0<r.length):J9 r=EP r:=by cases r with|nil=>simp at h|cons=>simp[J9]
theorem WG (h:¬0<r.length):J9 r=true:=by cases r with|nil=>simp[J9]|cons=>simp at h
theorem Rk (u:Φ)(r:List Int)(w:Ω)(h:A1 w u r):Ξ prog 105 #[u] w λe w'=>e=.returned (.bool (!J9 r))/\Γ w w w':=by
 have C:=AA (QR u r w h);obtain⟨a,c,rfl,N,am,_⟩:=h.open;clear h;unfold maxLen at am
 by_cases h0:0<r.length
 .have S:=AA (show(!J9 r)=!EP r by rw[WH h0])
  have Y:(0:Int)<(r.length:Int):=ω;go_in;go_wp2_with (refine C.mono ?_;rintro e w' ⟨rfl,rfl⟩;rw[Qm]);go_ret;exact⟨AF S.symm,yN _ _⟩
 have S:=AA (show(!J9 r)=false by rw[WG h0];rfl)
 have Y:¬(0:Int)<(r.length:Int):=ω;go_in;go_wp2;go_ret;exact⟨AF S.symm,yN _ _⟩
theorem Rl (v:Φ)(m:List (List Int))(w:Ω)(h:Bl w v m):Ξ prog 50 #[v] w λe w'=>e=.returned (.bool (F9 m))/\Γ w w w':=by
 have C:=AA (JX 105 #[] (λr=>!J9 r) v m w h (λ_ _=>φ) (λu r _ W _ hr=>Rk u r W hr));obtain⟨a,c,rfl,N,am,_⟩:=h.open;clear h;unfold maxLen at am
 by_cases h4:m.length=16
 .have S:=AA (show(!m.any λr=>!J9 r)=F9 m by rw[Ob];simp[F9,h4];rfl)
  have Y:((m.length:Int)==16)=true:=by simp[h4]
  clear h4;go_in;go_wp2_with (refine C.mono ?_;rintro e w' ⟨rfl,ar⟩);go_ret;exact⟨AF S.u,ar⟩
 have S:=AA (show F9 m=false by simp[F9,h4])
 have Y:((m.length:Int)==16)=false:=η;clear h4;go_in;go_wp2;go_ret;exact⟨AF S.symm,yN _ _⟩
def JH(xs:List AX):Prop:=∀x∈xs,x.g.size<=maxLen
def bj(x:AX):Bool:=Bj x.k 1 3&&BR x.g&&Bj x.r 0 50
theorem Ws:Dk AX.zero=true:=by simp[Dk]
theorem Nz{x:AX}(h:x≠AX.zero):Dk x=bj x:=by simp[Dk,h,bj]
theorem YQ (x:AX)(w:Ω)(V:x.g.size<=maxLen):Ξ prog 155 #[x.val] w λe w'=>e=.returned (.bool (Dk x))/\Γ w w w':=by
 obtain⟨k,g,r⟩:=x;simp only[AX.val];simp only at V;have C:=AA (λW=>Dp g W V);clear V;have ex:∀(b:Bool),b=false->Dk ⟨k,g,r⟩=Dk ⟨k,g,r⟩:=λ_ _=>rfl
 clear ex;have CW:=AA (λn lo A W=>EL n lo A W)
 by_cases E:k=0
 .subst E
  by_cases Z:g.toList=[]
  .by_cases hr:r=0
   .have S:=AA (show Dk ⟨0,g,r⟩=true by
     have:g=⟨#[]⟩:=by rw[xA] at Z;cases g;simp at Z;rw[Z]
     rw[hr,this];exact Ws)
    go_in;go_wp2;go_ret;exact⟨AF S.symm,AJ _ _⟩
   have S:=AA (show Dk ⟨0,g,r⟩=false by rw[Nz (by intro e;simp[AX.zero] at e;exact hr e.2)];simp[bj,Bj])
   have hx:=AA (show Bj 0 1 3=false from rfl);go_in;go_wp2_with (refine(CW _ _ _ _).mono ?_;rintro e w' ⟨rfl,rfl⟩;rw[hx.u]);go_ret;exact⟨AF S.symm,AJ _ _⟩
  have S:=AA (show Dk ⟨0,g,r⟩=false by rw[Nz (by intro e;simp[AX.zero] at e;exact Z (by rw[e.1,xA]))];simp[bj,Bj])
  have hx:=AA (show Bj 0 1 3=false from rfl);go_in;go_wp2_with (refine(CW _ _ _ _).mono ?_;rintro e w' ⟨rfl,rfl⟩;rw[hx.u]);go_ret;exact⟨AF S.symm,AJ _ _⟩
 have S:=AA (show Dk ⟨k,g,r⟩=bj ⟨k,g,r⟩ from Nz (by intro e;simp[AX.zero] at e;exact E e.1))
 cases J:Bj k 1 3
 .have T:=AA (show bj ⟨k,g,r⟩=false by simp[bj,J])
  have hx:=AA J;clear J;go_in;go_wp2_with (refine(CW _ _ _ _).mono ?_;rintro e w' ⟨rfl,rfl⟩;rw[hx.u]);go_ret;exact⟨AF (S.trans T.u).symm,AJ _ _⟩
 cases O:BR g
 .have T:=AA (show bj ⟨k,g,r⟩=false by simp[bj,O])
  have hx:=AA J;clear J;have H2:=AA O;clear O;go_in;go_wp2_with (first|(refine(CW _ _ _ _).mono ?_;rintro e w' ⟨rfl,rfl⟩;rw[hx.u])|(refine(C _).mono ?_;rintro e w' ⟨rfl,Y⟩;rw[H2.u]));go_ret;exact⟨AF (S.trans T.u).symm,(AJ _ _).trans (Y.mono (AJ _ _).size)⟩
 have T:=AA (show bj ⟨k,g,r⟩=Bj r 0 50 by simp[bj,J,O])
 have hx:=AA J;clear J;have H2:=AA O;clear O;go_in;go_wp2_with fail;refine(CW _ _ _ _).mono ?_;rintro e w' ⟨rfl,rfl⟩;rw[hx.u];go_wp2_with fail;refine(C _).mono ?_;rintro e w' ⟨rfl,Y⟩;rw[H2.u];have hz:w.heap.size<w'.heap.size:=by have:=Y.size;simp at this;omega
 obtain⟨N,hf⟩:=cI Y;go_wp2_with (refine(CW _ _ _ _).mono ?_;rintro e w' ⟨rfl,rfl⟩);go_ret;exact⟨AF (S.trans T.u).symm,(AJ _ _).trans (Y.mono (AJ _ _).size)⟩
theorem Qr (x:AX)(w:Ω)(V:x.g.size<=maxLen):Ξ prog 154 #[x.val] w λe w'=>e=.returned (.bool (!Dk x))/\Γ w w w':=by
 have C:=AA (λW=>YQ x W V);obtain⟨k,g,r⟩:=x;simp only[AX.val] at C ⊢;go_in;go_wp2_with (refine(C _).mono ?_;rintro e w' ⟨rfl,Y⟩);go_ret;exact⟨rfl,(AJ _ _).trans (Y.mono (AJ _ _).size)⟩
theorem Dn (v:Φ)(xs:List AX)(w:Ω)(h:Bf w v xs)(V:JH xs):Ξ prog 94 #[v] w λe w'=>e=.returned (.bool (BG xs))/\Γ w w w':=by
 have C:=AA (MB 154 #[] (λx=>!Dk x) v xs w h (λ_ _=>φ) (λx H W _=>Qr x W (V x H)));obtain⟨a,c,rfl,N,am⟩:=h.shape;clear h V;unfold maxLen at am
 by_cases h4:xs.length=12
 .have S:=AA (show(!xs.any λx=>!Dk x)=BG xs by rw[Ob];simp[BG,h4])
  have Y:((xs.length:Int)==12)=true:=by simp[h4]
  clear h4;go_in;go_wp2_with (refine C.mono ?_;rintro e w' ⟨rfl,ar⟩);go_ret;exact⟨AF S.u,ar⟩
 have S:=AA (show BG xs=false by simp[BG,h4])
 have Y:((xs.length:Int)==12)=false:=η;clear h4;go_in;go_wp2;go_ret;exact⟨AF S.symm,yN _ _⟩
theorem SJ (x:AX)(w:Ω):Ξ prog 198 #[x.val] w λe w'=>e=.returned (.bool (decide (x.k=0)))/\Γ w w w':=by obtain⟨k,g,r⟩:=x;simp only[AX.val];have S:=AA (show(k==0)=decide (k=0) by cases h:(k==0)<;>simp_all);go_in;go_wp2;go_ret;exact⟨AF S.u,AJ _ _⟩
theorem Ks (v:Φ)(xs:List AX)(w:Ω)(h:Bf w v xs):Ξ prog 135 #[v] w λe w'=>e=.returned (.int .i64 (An xs))/\Γ w w w':=by
 have C:=AA (Ke 198 #[] (λx=>decide (x.k=0)) v xs w h (λ_ _=>φ) (λx _ W _=>SJ x W));obtain⟨a,c,rfl,N,am⟩:=h.shape;clear h;go_in;go_wp2_with (refine C.mono ?_;rintro e w' ⟨rfl,ar⟩);go_ret;exact⟨rfl,ar⟩
theorem dJ (s g:ByteArray)(b:Nat)(w:Ω)(h:w.cell? b=some (.string g)):Ξ prog 110 #[.string s,.pointer b] w λe w'=>e=.returned (.bool (L8 s g))/\Γ w w w':=by go_in;go_wp2_with (refine(NV _ _ _).mono ?_;rintro e w' ⟨rfl,rfl⟩);go_ret;exact⟨rfl,yN _ _⟩
theorem Q9 (v:Φ)(ss:List ByteArray)(g:ByteArray)(w:Ω)(h:BY w v ss):Ξ prog 52 #[v,.string g] w λe w'=>e=.returned (.bool (Cd ss g))/\Γ w w w':=by
 have b1:=AJ w (.cells #[g] 9);have cg:(w.alloc (.cells #[g] 9)).cell? w=some (.string g):=yy _ _ 0 _ _ _ (yx _ _);have C:=AA (LR 110 #[.pointer w] (λs=>L8 s g) v ss _ (BK.below h b1) (λ_ _=>φ) (λs _ W hW=>dJ s g _ W ((hW.cell (yK _ _ cg)).trans cg)));obtain⟨a,c,rfl,N,am⟩:=h.shape;clear h cg;go_in;go_wp2_with (refine C.mono ?_;rintro e w' ⟨rfl,ar⟩);go_ret;exact⟨rfl,b1.trans (ar.mono b1.size)⟩
def Td(xs:List AX)(g:ByteArray):List AX:=xs.set (An xs).toNat ⟨1,g,0⟩
theorem Rb (v:Φ)(xs:List AX)(g:ByteArray)(w:Ω)(h:Bf w v xs)(V:JH xs)(Z:g.size<=maxLen)(bi:BG xs=true)(hr:BR g=true)(hf:An xs<0):
 Ξ prog 176 #[v,.string g] w λe w'=>e=.returned (.tuple #[ι,θ,υ])/\Γ w w w':=by
 have C1:=AA (λW (hW:Γ w w W)=>Dn v xs W (BK.below h hW) V);have C2:=AA (λW=>Dp g W Z);have C3:=AA (λW (hW:Γ w w W)=>Ks v xs W (BK.below h hW));have Ok:=AA bi;have Hr:=AA hr;clear bi hr h V Z;go_in;go_wp2_with fail;refine(C1 _ (yN _ _)).mono ?_;rintro e w1 ⟨rfl,bt⟩;rw[Ok.u];go_wp2_with fail;refine(C2 _).mono ?_;rintro e w2 ⟨rfl,ar⟩;rw[Hr.u];replace ar:=bt.trans (ar.mono bt.size);clear bt;go_wp2_with fail;refine(C3 _ ar).mono ?_;rintro e w3 ⟨rfl,bf⟩;replace bf:=ar.trans (bf.mono ar.size);clear ar;go_wp2_with fail;go_ret3;exact⟨rfl,bf⟩
theorem Rc (v:Φ)(xs:List AX)(g:ByteArray)(w:Ω)(h:Bf w v xs)(V:JH xs)(Z:g.size<=maxLen)(bi:BG xs=true)(hr:BR g=true)(hf:0<=An xs):
 Ξ prog 176 #[v,.string g] w λe w'=>∃v',e=.returned (.tuple #[v',.int .i64 (An xs),τ])/\AQ w.heap.size 115 3 Av w' v' (Td xs g)/\Γ w w w':=by
 have C1:=AA (λW (hW:Γ w w W)=>Dn v xs W (BK.below h hW) V);have C2:=AA (λW=>Dp g W Z);have C3:=AA (λW (hW:Γ w w W)=>Ks v xs W (BK.below h hW));have hl:xs.length=12:=(A2.1 bi).1;have C4:=AA (λW (hW:Γ w w W)=>Gq v xs W (BK.below h hW) ω);have Ok:=AA bi;have Hr:=AA hr;have iv:(An xs).toNat<xs.length:=(GW ω).1;have Hl:=AA hl;clear bi hr h V Z hl;go_in;go_wp2_with fail;refine(C1 _ (yN _ _)).mono ?_;rintro e w1 ⟨rfl,bt⟩;rw[Ok.u];go_wp2_with fail;refine(C2 _).mono ?_;rintro e w2 ⟨rfl,ar⟩;rw[Hr.u];replace ar:=bt.trans (ar.mono bt.size);clear bt;go_wp2_with fail;refine(C3 _ ar).mono ?_;rintro e w3 ⟨rfl,bf⟩;replace bf:=ar.trans (bf.mono ar.size);clear ar;go_wp2_with fail;refine(C4 _ bf).mono ?_;rintro e w4 ⟨v',rfl,hO,cN⟩;obtain⟨q,z,rfl,c1,c2,q1,q2,gk⟩:=hO.zW ω;unfold maxLen at c2;have hS:=AA (AQ.stored Az hO iv ⟨1,g,0⟩);obtain⟨d0,d1,d2⟩:=AQ.zZ hO iv;have hB:=AA (AM (bf.trans (cN.mono bf.size)) hS.2 (yM bf.size q1) (bf.trans (cN.mono bf.size)).size);have bm:=bf.size;clear hO cN bf;have kU:An xs<xs.length:=ω;go_wp2_with fail;go_ret3;exact⟨_,rfl,hS.1.lower bm,hB.u⟩
theorem VS (a b:Int):(a==b)=decide (a=b):=by cases h:(a==b)<;>simp_all
theorem Lc (x:Ag)(w:Ω):Ξ prog 156 #[x.val] w λe w'=>e=.returned (.bool (CQ x))/\Γ w w w':=by
 obtain⟨e,p,f,b⟩:=x;simp only[Ag.val];have C1:=AA (λW=>Py e W);have C2:=AA (λW=>OC p W);have C3:=AA (λW=>Dy f W);cases J:Bj e 0 2
 .have S:=AA (show CQ ⟨e,p,f,b⟩=false by simp[CQ,J])
  have H1:=AA J;clear J;go_in;go_wp2_with (refine(C1 _).mono ?_;rintro e w' ⟨rfl,rfl⟩;rw[H1.u]);go_ret;exact⟨AF S.symm,AJ _ _⟩
 cases O:Bj p 0 15
 .have S:=AA (show CQ ⟨e,p,f,b⟩=false by simp[CQ,O])
  have H1:=AA J;clear J;have H2:=AA O;clear O;go_in;go_wp2_with (first|(go_at_call 185;refine(C1 _).mono ?_;rintro e w' ⟨rfl,rfl⟩;rw[H1.u])|(go_at_call 69;refine(C2 _).mono ?_;rintro e w' ⟨rfl,rfl⟩;rw[H2.u]));go_ret;exact⟨AF S.symm,AJ _ _⟩
 have S:=AA (show CQ ⟨e,p,f,b⟩=Bj f 0 11 by simp[CQ,J,O])
 have H1:=AA J;clear J;have H2:=AA O;clear O;go_in;go_wp2_with (first|(go_at_call 185;refine(C1 _).mono ?_;rintro e w' ⟨rfl,rfl⟩;rw[H1.u])|(go_at_call 69;refine(C2 _).mono ?_;rintro e w' ⟨rfl,rfl⟩;rw[H2.u])|(go_at_call 98;refine(C3 _).mono ?_;rintro e w' ⟨rfl,rfl⟩));go_ret;exact⟨AF S.symm,AJ _ _⟩
theorem WV (x:Ag)(e p:Int)(be bp:Nat)(w:Ω)(J:w.cell? be=some (.int .i64 e))(O:w.cell? bp=some (.int .i64 p)):Ξ prog 213 #[x.val,.pointer be,.pointer bp] w λr w'=>r=.returned (.bool (BQ e p x))/\Γ w w w':=by
 obtain⟨xe,xp,xf,xb⟩:=x;simp only[Ag.val];have b1:=yK w _ J;have b2:=yK w _ O;have n1:¬be=w.heap.size:=by have:be<w.heap.size:=b1;omega
 have n2:¬bp=w.heap.size:=by have:bp<w.heap.size:=b2;omega
 by_cases he:xe=e
 .have S:=AA (show BQ e p ⟨xe,xp,xf,xb⟩=(xp==p) by simp[BQ,he,VS])
  have t:(xe==e)=true:=by simp[he]
  clear he;go_in;go_wp2;go_ret;exact⟨AF S.symm,AJ _ _⟩
 have S:=AA (show BQ e p ⟨xe,xp,xf,xb⟩=false by simp[BQ,he])
 have t:(xe==e)=false:=by simp[he]
 clear he;go_in;go_wp2;go_ret;exact⟨AF S.symm,AJ _ _⟩
theorem Rp (v:Φ)(xs:List Ag)(e p:Int)(w:Ω)(h:Do w v xs):Ξ prog 157 #[v,.int .i64 e,.int .i64 p] w λr w'=>r=.returned (.int .i64 (IG xs e p))/\Γ w w w':=by
 have b2:=IE w (.cells #[e] 3) (.cells #[p] 3);have jw:(w.alloc (.cells #[e] 3)).cell? w=some (.int .i64 e):=yy _ _ 0 _ _ _ (yx _ _);have ce:((w.alloc (.cells #[e] 3)).alloc (.cells #[p] 3)).cell? w=some (.int .i64 e):=((AJ _ _).cell (yK _ _ jw)).trans jw;have cp:((w.alloc (.cells #[e] 3)).alloc (.cells #[p] 3)).cell? (w.heap.size+1,0)=some (.int .i64 p):=by
  have:=yy _ _ 0 _ _ _ (yx (w.alloc (.cells #[e] 3)) (.cells #[p] 3))
  rwa [World.size_alloc] at this
 have C:=AA (Jy 213 #[.pointer w,.pointer (some ⟨w.heap.size+1,0,none⟩)] (BQ e p) v xs _ (BK.below h b2) (λ_ _=>φ)
  (λx _ W hW=>WV x e p _ _ W ((hW.cell (yK _ _ ce)).trans ce) ((hW.cell (yK _ _ cp)).trans cp)))
 obtain⟨a,c,rfl,N,am⟩:=h.shape;clear h jw ce cp;go_in;go_wp2_with (refine C.mono ?_;rintro e w' ⟨rfl,ar⟩);go_ret;exact⟨rfl,b2.trans (ar.mono b2.size)⟩
variable{b d e g hc i j k len lo n sz z:Nat}
variable{a:Option Addr}
variable{ci w w' w1:Ω}
theorem Do.take{c:Nat}{xs:List Ag}(h:Do w (.slice a xs.length c) xs)(E:k<=xs.length):Do w (.slice a k c) (xs.take k):=by
 obtain⟨a',c',hv,bx,am,hl,az,N⟩:=h;cases hv;have bA:(Ce AY (xs.take k)).length=k*4:=by rw[Je Cj,ym];congr 1;omega
 have kQ:k*4<=xs.length*4:=wI _ E;unfold Do BK;rw[show(xs.take k).length=k by rw[ym];omega];refine⟨a,c,rfl,ω,am,bA,az,λhn=>?_⟩;obtain⟨b,D,rfl,av⟩:=N ω;refine⟨b,D,rfl,λj X=>?_⟩;rw[av j ω];have e:Ce AY xs=Ce AY (xs.take k)++Ce AY (xs.drop k):=by rw[<-Bq,wO]
 rw[e,xl ω]
theorem Zw{xs:List Ag}{e p:Int}:decide (0<=IG xs e p)=xs.any (BQ e p):=Ky
theorem QM{xs:List Ag}(h:k<xs.length)(N:DJ xs k=false):Bk xs=false:=by have:(yL xs.length).all (DJ xs)=false:=xj.2 ⟨k,yi.2 h,by simp[N]⟩;simp[Bk,this]
theorem VT{xs:List Ag}(h:∀k,k<xs.length->DJ xs k=true)(hl:xs.length<=4):Bk xs=true:=by
 have:(yL xs.length).all (DJ xs)=true:=yr.2 λk E=>h k (yi.1 E)
 simp[Bk,this,hl]
theorem Jn (v:Φ)(xs:List Ag)(w:Ω)(h:Do w v xs):Ξ prog 95 #[v] w λe w'=>e=.returned (.bool (Bk xs))/\Γ w w w':=by
 have hx:=AA h;obtain⟨a,c,rfl,N,am,H0⟩:=BK.open Cj ψ h;clear h;unfold maxLen at am
 by_cases h4:xs.length<=4
 .have Y:¬(4:Int)<xs.length:=ω
  go_in;go_wp2_with fail;go_loopw [10] (λi wr=>∃k:Nat,k<=xs.length/\i=.int .i64 k/\(∀j,j<k->DJ xs j=true)/\Γ w w wr) (λi _=>xs.length - (intOf i).toNat)
  exact⟨0,yt _,rfl,λj X=>absurd X (xV _),yN _ _⟩
  obtain⟨k,E,rfl,ay,ac⟩:=hrel;have ax:=AA ay;clear ay
  by_cases aq:k<xs.length
  .obtain⟨b,D,rfl,bC,D0,D1,D2,D3⟩:=H0.zV aq
   replace D0:=(ac.cell (p:=⟨b,D+k*4,none⟩) bC).trans D0;replace D1:=(ac.cell (p:=⟨b,D+k*4+1,none⟩) bC).trans D1;replace D2:=(ac.cell (p:=⟨b,D+k*4+2,none⟩) bC).trans D2;replace D3:=(ac.cell (p:=⟨b,D+k*4+3,none⟩) bC).trans D3;clear H0;have hc:=yx wr (.cells #[.int .i64 (AV xs k).e,.int .i64 (AV xs k).p,.int .i64 (AV xs k).f,.bool (AV xs k).w] 125);have fm:=ac.trans ((AJ wr (.cells #[.int .i64 (AV xs k).e,.int .i64 (AV xs k).p,.int .i64 (AV xs k).f,.bool (AV xs k).w] 125)).mono ac.size);have jc:(k:Int)<=xs.length:=ω;have kR:(k:Int)<=c:=ω;go_wp2_with fail;generalize wr.alloc _=wa at hc fm;clear D0 D1 D2 D3 ac;obtain⟨n0,n1,n2,n3⟩:=AG hc;have k0:=yw n0;have k1:=yw n1;have k2:=yw n2;have k3:=yw n3;clear n0 n1 n2 n3;have HB:=AA fm;have cF:=VP (w1:=wa) (λW hW=>Rp _ (xs.take k) (AV xs k).e (AV xs k).p W (Do.take (BK.below hx (fm.trans (hW.mono fm.size))) E));cases J:CQ (AV xs k)
   .have S:=AA (QM aq (by simp[DJ,J]))
    have cC:=VP (w1:=wa) (λW _=>by have:=Lc (AV xs k) W;rw[J] at this;exact this);clear J hc fm;refine Ba ?_
    repeat(go_big_quiet_step (first|exact cC _ _|exact cF _ _))
    refine BZ λwq bq=>?_
    go_wp2;go_ret;exact⟨AF S.symm,HB.trans (bq.mono HB.size)⟩
   have cC:=VP (w1:=wa) (λW _=>by have:=Lc (AV xs k) W;rw[J] at this;exact this)
   have hk:=Zw (xs:=xs.take k) (e:=(AV xs k).e) (p:=(AV xs k).p);cases O:(xs.take k).any (BQ (AV xs k).e (AV xs k).p)
   .have S:=AA (show DJ xs k=true by simp only[DJ,J,O];rfl)
    rw[O] at hk;clear J O hc fm;refine Ba ?_
    repeat(go_big_quiet_step (first|exact cC _ _|exact cF _ _))
    refine BZ λwq bq=>?_
    go_wp2;go_roundw;exact⟨k+1,ω,ξ,Am ax S.u,HB.trans (bq.mono HB.size)⟩;simp[intOf];omega
   have S:=AA (QM aq (by simp only[DJ,J,O];rfl))
   rw[O] at hk;clear J O hc fm;refine Ba ?_
   repeat(go_big_quiet_step (first|exact cC _ _|exact cF _ _))
   refine BZ λwq bq=>?_
   go_wp2;go_ret;exact⟨AF S.symm,HB.trans (bq.mono HB.size)⟩
  have S:=AA (VT (xs:=xs) (λj X=>ax j ω) h4)
  go_wp2;go_ret;exact⟨AF S.symm,ac⟩
 have S:=AA (show Bk xs=false by simp[Bk,h4])
 have Y:(4:Int)<xs.length:=ω;go_in;go_wp2;go_ret;exact⟨AF S.symm,yN _ _⟩
theorem cR{xs:List Ag}{e:Int}:(xs.filter λx=>!decide (x.e=e))=Gm xs e:=by
 unfold Gm
 congr 1
 funext x
 simp
theorem RZ (x:Ag)(e:Int)(be:Nat)(w:Ω)(J:w.cell? be=some (.int .i64 e)):Ξ prog 224 #[x.val,.pointer be] w λr w'=>r=.returned (.bool (decide (x.e=e)))/\Γ w w w':=by
 obtain⟨xe,xp,xf,xb⟩:=x;simp only[Ag.val];have b1:=yK w _ J;have n1:¬be=w.heap.size:=by have:be<w.heap.size:=b1;omega
 have S:=AA (VS xe e);go_in;go_wp2;go_ret;exact⟨AF S.u,AJ _ _⟩
theorem NR (v:Φ)(xs:List Ag)(e:Int)(w:Ω)(h:Do w v xs)(bi:Bk xs=true):Ξ prog 184 #[v,.int .i64 e] w λr w'=>∃v',r=.returned v'/\AQ w.heap.size 125 4 AY w' v' (Gm xs e)/\Γ w w w':=by
 have hl:=(Ey.1 bi).2.2;have b1:=AJ w (.cells #[e] 3);have ce:(w.alloc (.cells #[e] 3)).cell? w=some (.int .i64 e):=yy _ _ 0 _ _ _ (yx _ _);have aq:w.heap.size<(w.alloc (.cells #[e] 3)).heap.size:=χ;have C1:=AA (by have:=Jn v xs _ (BK.below h b1);rw[bi] at this;exact this);have C2:=AA (λW (hW:Γ w w W)=>Jo v xs W (BK.below h hW) ω);obtain⟨a,c,rfl,N,am⟩:=h.shape;clear h bi;go_in;go_wp2_with fail;refine C1.mono ?_;rintro r w1 ⟨rfl,bt⟩;replace ce:=(bt.cell (yK _ _ ce)).trans ce;have ar:=b1.trans (bt.mono b1.size);replace aq:w.heap.size<w1.heap.size:=yu aq bt.size;clear bt b1;have CE:=AA ce;clear ce;go_wp2_with fail;refine(C2 _ ar).mono ?_;rintro r w2 ⟨v',rfl,hO,bf⟩;have j7:=(bf.cell (p:=⟨w,0,none⟩) aq).trans CE.u;have C3:=AA (JY 224 #[.pointer w] (λx=>decide (x.e=e)) v' xs w2 hO bf.size (λ_ _=>φ)
  (λx _ W hW=>RZ x e _ W ((hW.cell (p:=⟨w,0,none⟩) aq).trans j7)))
 have cN:=ar.trans (bf.mono ar.size);have ea:=ar.size;clear hO bf j7;go_wp2_with (refine C3.mono ?_;rintro r w3 ⟨v3,rfl,ed,g5⟩);go_ret;refine⟨_,rfl,?_,cN.trans (g5.mono ea)⟩;rw[<-cR];exact ed.lower ea
theorem Tn (y x:Ag)(b:Nat)(w:Ω)(J:w.heap[b]?=some (.cells #[x.e,x.p,x.f,x.w] 125 (0,0))):Ξ prog 229 #[y.val,.pointer b] w λr w'=>r=.returned (.bool (BQ x.e x.p y))/\Γ w w w':=by
 obtain⟨d0,d1,d2,d3⟩:=AG J;have b1:=AU J;have n1:¬b=w.heap.size:=ω;obtain⟨ye,yp,yf,yb⟩:=y;simp only[Ag.val];clear J
 by_cases he:ye=x.e
 .have S:=AA (show BQ x.e x.p ⟨ye,yp,yf,yb⟩=(yp==x.p) by simp[BQ,he,VS])
  have t:(ye==x.e)=true:=by simp[he]
  clear he;go_in;go_wp2;go_ret;exact⟨AF S.symm,AJ _ _⟩
 have S:=AA (show BQ x.e x.p ⟨ye,yp,yf,yb⟩=false by simp[BQ,he])
 have t:(ye==x.e)=false:=by simp[he]
 clear he;go_in;go_wp2;go_ret;exact⟨AF S.symm,AJ _ _⟩
theorem ZR{xs:List Ag}{x:Ag}{ys:List Ag}(h:ys=if(xs.filter λy=>!BQ x.e x.p y).length=4 then(xs.filter λy=>!BQ x.e x.p y).drop 1 else xs.filter λy=>!BQ x.e x.p y):ys++[x]=Ju xs x:=by rw[h];rfl
theorem VF (v:Φ)(xs:List Ag)(x:Ag)(w:Ω)(h:Do w v xs)(bi:Bk xs=true)(H:CQ x=true):Ξ prog 188 #[v,x.val] w λr w'=>∃v',r=.returned (.tuple #[v',τ])/\AQ w.heap.size 125 4 AY w' v' (Ju xs x)/\Γ w w w':=by
 have hl:=(Ey.1 bi).2.2;obtain⟨hc,b1⟩:=EU w (.cells #[x.e,x.p,x.f,x.w] 125);have C1:=AA (by have:=Jn v xs _ (BK.below h b1);rw[bi] at this;exact this);have CX:=AA (λW=>by have:=Lc x W;rw[H] at this;exact this);have C2:=AA (λW (hW:Γ w w W)=>Jo v xs W (BK.below h hW) ω);obtain⟨a,c,rfl,N,am⟩:=h.shape;have iv:(xs.filter λy=>!BQ x.e x.p y).length<=4:=yM (xv _ _) hl;clear h bi H;simp only[Ag.val] at CX ⊢;go_in;go_wp2_with fail;refine C1.mono ?_;rintro r w1 ⟨rfl,bt⟩;replace hc:=AB hc bt;have ar:=b1.trans (bt.mono b1.size);clear bt b1;obtain⟨d0,d1,d2,d3⟩:=AG hc;have HN:=AA hc;clear hc;go_wp2_with fail;refine(CX _).mono ?_;rintro r w2 ⟨rfl,bf⟩;have jC:=AA (AB HN bf);replace ar:=ar.trans (bf.mono ar.size);clear bf d0 d1 d2 d3 HN;go_wp2_with fail;refine(C2 _ ar).mono ?_;rintro r w3 ⟨v',rfl,hO,cN⟩;have N3:=AB jC cN;have aq:w.heap.size<w2.heap.size:=AU jC.u;have C3:=AA (JY 229 #[.pointer w] (BQ x.e x.p) v' xs w3 hO cN.size (λ_ _=>φ)
  (λy _ W hW=>Tn y x _ W ((hW.block _ aq).trans N3)))
 have g5:=ar.trans (cN.mono ar.size);have ea:=ar.size;have kk:=cN.size;have j8:=AA N3;clear hO cN N3 jC;go_wp2_with fail;refine C3.mono ?_;rintro r w4 ⟨v4,rfl,cP,g2⟩;have N4:=(g2.block _ aq).trans j8.u;have iR:=g5.trans (g2.mono ea);have jM:w2.heap.size<=w4.heap.size:=yM kk g2.size;obtain⟨a4,c4,rfl,kV,kz⟩:=cP.rd.shape;have jz:=AA cP;have jB:=AA N4;clear cP g2 g5 N4 j8
 by_cases hn:(xs.filter λy=>!BQ x.e x.p y).length=4
 .have t:(((xs.filter λy=>!BQ x.e x.p y).length:Int)==4)=true:=by simp[hn]
  have hk:=AA (ZR (xs:=xs) (x:=x) (ys:=(xs.filter λy=>!BQ x.e x.p y).drop 1) (by rw[if_pos hn]));have CD:=AA (Pi _ _ w4 jz jM hn);have ks:((xs.filter λy=>!BQ x.e x.p y).drop 1).length<=3:=by rw[xh];omega
  generalize(xs.filter λy=>!BQ x.e x.p y)=fs at*;clear hn jz iv;go_wp2_with fail;refine CD.mono ?_;rintro r w5 ⟨v5,rfl,g6,iQ⟩;have N5:=(iQ.block _ aq).trans jB.u;obtain⟨d0,d1,d2,d3⟩:=AG N5;have j1:=iR.trans (iQ.mono ea);have kM:w2.heap.size<=w5.heap.size:=yM jM iQ.size;have kF:=AA g6;clear g6 iQ iR N5 jB;generalize hgs:fs.drop 1=gs at*;clear hgs;go_wp2_with (at_builtin;go_must (refine Ek (lo:=w2.heap.size) (v:=v5) (n:=gs.length) (xs:=Ce AY gs) (m:=1) (news:=[.int .i64 x.e,.int .i64 x.p,.int .i64 x.f,.bool x.w]) rfl rfl 125 (.agg #[θ,θ,θ,υ]) 4 32 underlying26 Tryz.zP rfl ψ rfl (A8 kF (AJ _ _)) rfl (Rd.zM _ #[.int .i64 x.e,.int .i64 x.p,.int .i64 x.f,.bool x.w] _ 4 1 _ rfl χ ζ) (by simp[xR]) μ ω η ?_;intro v6 w6 k1 k2 k3));have R:AQ w2.heap.size 125 4 AY w6 v6 (gs++[x]):=by unfold AQ;rw[Bq,Eo,yz];exact k1
  rw[hk.u] at R;have RR:=AA R;clear k1 R;go_wp2;go_ret2;exact⟨_,rfl,RR.lower ea,(j1.trans ((AJ _ _).mono j1.size)).trans (k3.mono ea)⟩
 have t:(((xs.filter λy=>!BQ x.e x.p y).length:Int)==4)=false:=by rw[beq_eq_false_iff_ne];omega
 have hk:=AA (ZR (xs:=xs) (x:=x) (ys:=xs.filter λy=>!BQ x.e x.p y) (by rw[if_neg hn]));have ks:(xs.filter λy=>!BQ x.e x.p y).length<=3:=ω
 generalize(xs.filter λy=>!BQ x.e x.p y)=gs at*;clear hn iv;obtain⟨d0,d1,d2,d3⟩:=AG jB.u;go_wp2_with (at_builtin;go_must (refine Ek (lo:=w2.heap.size) (v:=.slice a4 gs.length c4) (n:=gs.length) (xs:=Ce AY gs) (m:=1) (news:=[.int .i64 x.e,.int .i64 x.p,.int .i64 x.f,.bool x.w]) rfl rfl 125 (.agg #[θ,θ,θ,υ]) 4 32 underlying26 Tryz.zP rfl ψ rfl (A8 jz (AJ _ _)) rfl (Rd.zM _ #[.int .i64 x.e,.int .i64 x.p,.int .i64 x.f,.bool x.w] _ 4 1 _ rfl χ ζ) (by simp[xR]) μ ω η ?_;intro v6 w6 k1 k2 k3));have R:AQ w2.heap.size 125 4 AY w6 v6 (gs++[x]):=by unfold AQ;rw[Bq,Eo,yz];exact k1
 rw[hk.u] at R;have RR:=AA R;clear k1 R;go_wp2;go_ret2;exact⟨_,rfl,RR.lower ea,(iR.trans ((AJ _ _).mono iR.size)).trans (k3.mono ea)⟩
theorem H5 (v:Φ)(ss:List ByteArray)(w:Ω)(h:BY w v ss)(V:DQ ss):Ξ prog 97 #[v] w λe w'=>e=.returned (.bool (BW ss))/\Γ w w w':=by
 obtain⟨a,c,rfl,N,am,H0⟩:=BK.open Fi ψ h;unfold maxLen at am;have Hs:=AA V;clear V h;go_in;go_wp2_with fail;go_loopw [7] (λi wr=>∃k:Nat,k<=ss.length/\i=.int .i64 k/\(∀j,j<k->DB ss j=true)/\Γ w w wr) (λi _=>ss.length - (intOf i).toNat)
 exact⟨0,yt _,rfl,λj X=>absurd X (xV _),yN _ _⟩
 obtain⟨k,E,rfl,ay,ac⟩:=hrel;have ax:=AA ay;clear ay
 by_cases aq:k<ss.length
 .obtain⟨b,D,rfl,D0⟩:=H0.str aq
  have bC:=yK w _ D0;have ab:=(ac.cell (p:=⟨b,D+k,none⟩) bC).trans D0;have C:=AA (λW=>Dp (Cw ss k) W (Hs.nth aq));cases bi:BR (Cw ss k)
  .have S:=AA (J8 aq (by simp[DB,bi]))
   have g8:=AA bi;clear bi D0;go_wp2_with (refine(C _).mono ?_;rintro e w2 ⟨rfl,Y⟩;rw[g8.u]);go_ret;exact⟨AF S.symm,ac.trans (Y.mono ac.size)⟩
  by_cases f8:k=0
  .have Ok:=AA (show DB ss k=true by simp[DB,bi];exact .inl f8)
   have g8:=AA bi;have t0:¬(0:Int)<k:=ω;clear bi D0 f8;go_wp2_with fail;refine(C _).mono ?_;rintro e w2 ⟨rfl,Y⟩;rw[g8.u];go_wp2;go_roundw;exact⟨k+1,ω,ξ,Am ax Ok.u,ac.trans (Y.mono ac.size)⟩;simp[intOf];omega
  obtain⟨b',ee,ft,E0⟩:=H0.str (ω:k - 1<ss.length)
  obtain⟨rfl,rfl⟩:b=b'/\D=ee:=by simpa using ft
  have hk:=(ac.cell (p:=⟨b,D+(k - 1),none⟩) bC).trans E0;have t0:(0:Int)<k:=ω;have s1:((k:Int) - 1).toNat=k - 1:=ω;have s3:(1:Int)<=k:=ω;have g8:=AA bi;clear D0 E0 ft;cases c7:OM (Cw ss (k - 1)) (Cw ss k)
  .have Ok:=AA (show DB ss k=true by simp[DB,bi,c7])
   have hL:wH (Cw ss (k - 1)).toList (Cw ss k).toList=true:=by simpa[OM] using c7
   have EE:=AA hk;clear bi c7;go_wp2_with fail;refine(C _).mono ?_;rintro e w2 ⟨rfl,Y⟩;rw[g8.u];have E2:=(Y.cell (yK _ _ EE.u)).trans EE.u;clear hk;go_wp2;go_roundw;exact⟨k+1,ω,ξ,Am ax Ok.u,ac.trans (Y.mono ac.size)⟩;simp[intOf];omega
  have S:=AA (J8 aq (by simp[DB,bi,c7,f8]))
  have hL:wH (Cw ss (k - 1)).toList (Cw ss k).toList=false:=by simpa[OM] using c7
  have EE:=AA hk;clear bi c7;go_wp2_with (refine(C _).mono ?_;rintro e w2 ⟨rfl,Y⟩;rw[g8.u];have E2:=(Y.cell (yK _ _ EE.u)).trans EE.u;clear hk);go_ret;exact⟨AF S.symm,ac.trans (Y.mono ac.size)⟩
 have S:=AA (Ni (ss:=ss) (λj X=>ax j ω))
 go_wp2;go_ret;exact⟨AF S.symm,ac⟩
theorem Qs (s g:ByteArray)(b:Nat)(w:Ω)(h:w.cell? b=some (.string g)):Ξ prog 228 #[.string s,.pointer b] w λe w'=>e=.returned (.bool (L8 g s))/\Γ w w w':=by go_in;go_wp2_with (refine(NV _ _ _).mono ?_;rintro e w' ⟨rfl,rfl⟩);go_ret;exact⟨rfl,yN _ _⟩
theorem Ri (v:Φ)(ss:List ByteArray)(g:ByteArray)(w:Ω)(h:BY w v ss)(V:DQ ss)(Z:g.size<=maxLen)(bi:BW ss=true)(hr:BR g=true):Ξ prog 187 #[v,.string g] w λr w'=>∃v',r=.returned v'/\AQ w.heap.size 9 1 A0 w' v' (Bi ss g)/\Γ w w w':=by
 have hl:=(Ev.1 bi).2.2;have b1:=AJ w (.cells #[g] 9);have ce:(w.alloc (.cells #[g] 9)).cell? w=some (.string g):=yy _ _ 0 _ _ _ (yx _ _);have aq:w.heap.size<(w.alloc (.cells #[g] 9)).heap.size:=χ;have C1:=AA (by have:=H5 v ss _ (BK.below h b1) V;rw[bi] at this;exact this);have CX:=AA (λW=>by have:=Dp g W Z;rw[hr] at this;exact this);have C2:=AA (λW (hW:Γ w w W)=>Jp v ss W (BK.below h hW) ω);obtain⟨a,c,rfl,N,am⟩:=h.shape;clear h bi V Z hr;go_in;go_wp2_with fail;refine C1.mono ?_;rintro r w1 ⟨rfl,bt⟩;replace ce:=(bt.cell (yK _ _ ce)).trans ce;have ar:=b1.trans (bt.mono b1.size);replace aq:w.heap.size<w1.heap.size:=yu aq bt.size;clear bt b1;have CE:=AA ce;go_wp2_with fail;refine(CX _).mono ?_;rintro r w2 ⟨rfl,bf⟩;have kG:=AA ((bf.cell (p:=⟨w,0,none⟩) aq).trans CE.u);replace aq:w.heap.size<w2.heap.size:=yu aq bf.size;replace ar:=ar.trans (bf.mono ar.size);clear bf ce CE;go_wp2_with fail;refine(C2 _ ar).mono ?_;rintro r w3 ⟨v',rfl,hO,cN⟩;have j5:=(cN.cell (p:=⟨w,0,none⟩) aq).trans kG.u;have C3:=AA (MD 228 #[.pointer w] (λs=>L8 g s) v' ss w3 hO cN.size (λ_ _=>φ)
  (λx _ W hW=>Qs x g _ W ((hW.cell (p:=⟨w,0,none⟩) aq).trans j5)))
 have g5:=ar.trans (cN.mono ar.size);have ea:=ar.size;clear hO cN j5;go_wp2_with (refine C3.mono ?_;rintro r w4 ⟨v4,rfl,cP,g2⟩);go_ret;exact⟨_,rfl,cP.lower ea,g5.trans (g2.mono ea)⟩
end Go.Proofs.YtlcnbkkcplllhaaGreatDoor
namespace Go.Proofs.YtlcnbkkcplllhaaGreatDoor
open Go.Proofs.Tryz Go.RowKit Go.Shelf
variable{cs:List Φ}
variable{b d e g hc i j k len lo n sz z:Nat}
variable{ci w w' w1:Ω}
theorem M8 (h:w.ownsRow lo e 1 (.slice g n z) n cs):∀(j:Nat) v,cs[j]?=some v->w.cell? (g,0+j)=some v:=by intro j v X;have hl:=h.1;have:=(yA.1 X).1;rw[wT,xO h j ω,X]
theorem aZ (h:w.ownsRow lo e 1 (.slice g n z) n cs):∃bn,w.heap[g]?=some (.cells bn e (0,0))/\n<=z/\z<=maxLen/\bn.size=z:=by
 rcases h.2 with⟨h0,_⟩|⟨g',cap',bn,hv,Y,Z,bx,am,cz,htake⟩
 .cases h0
 cases hv
 exact⟨bn,Z,bx,am,ω⟩
theorem Ko (hi B us:List Φ)(h:us.length<=B.length):FY (hi++B) hi.length 0 us=hi++us++B.drop us.length:=by
 have e:hi++B=hi++B.take us.length++B.drop us.length:=by rw[sq,wO]
 rw[e,Mg hi (B.take us.length) (B.drop us.length) us 0 (by rw[ym];omega) hi.length ω]
theorem Ut (ss:List ByteArray):∀u∈ss.map xZ,u.oneCell'=true:=by intro u hu;obtain⟨s,_,rfl⟩:=vU.1 hu;rfl
theorem FB (ss:List ByteArray):Ce A0 ss=ss.map xZ:=by
 induction ss with
 |nil=>rfl
 |cons s ss ih=>rw[Ia,ih];rfl
def Cl(ss:List ByteArray)(k:Nat)(x:ByteArray):List ByteArray:=ss.take k++x::ss.drop k
theorem J4{x:ByteArray}(E:k<=ss.length):(Cl ss k x).length=ss.length+1:=by simp[Cl];omega
theorem aF{zs:List Φ}{x:Φ}(hz:zs.length=n+1)(N:cs.length=n)(E:k<=n)(K:zs.take k=cs.take k):FY (FY zs k 0 [x]) (k+1) 0 (cs.drop k)=cs.take k++x::cs.drop k:=by
 have hA:(cs.take k).length=k:=by rw[ym];omega
 have e:zs=cs.take k++zs.drop k:=by rw[<-K,wO]
 have J:FY zs k 0 [x]=cs.take k++[x]++(zs.drop k).drop 1:=by have:=Ko (cs.take k) (zs.drop k) [x] η;rw[<-e,hA] at this;exact this
 rw[J];have:=Ko (cs.take k++[x]) ((zs.drop k).drop 1) (cs.drop k) η;rw[yz,hA] at this;rw[show[x].length=1 from rfl] at this;rw[this];have O:((zs.drop k).drop 1).drop (cs.drop k).length=[]:=xY η;rw[O];simp
theorem aG{zs:List Φ}{x:Φ}(hz:zs.length=n+1)(N:cs.length=n)(E:k<=n)(K:zs.take k=cs.take k):FY (FY zs (k+1) 0 (cs.drop k)) k 0 [x]=cs.take k++x::cs.drop k:=by
 have hA:(cs.take k).length=k:=by rw[ym];omega
 have hB:(zs.take (k+1)).length=k+1:=by rw[ym];omega
 have J:FY zs (k+1) 0 (cs.drop k)=zs.take (k+1)++cs.drop k:=by have:=Ko (zs.take (k+1)) (zs.drop (k+1)) (cs.drop k) η;rw[wO,hB] at this;rw[this];have O:(zs.drop (k+1)).drop (cs.drop k).length=[]:=xY η;rw[O,List.append_nil]
 rw[J];obtain⟨b,Y⟩:∃b,zs.take (k+1)=cs.take k++[b]:=⟨zs[k],by rw[<-K];exact ui ω⟩
 rw[Y];have:=Mg (cs.take k) [b] (cs.drop k) [x] 0 rfl k ω;rw[this];simp
theorem Vy{C:Nat}{arr:Array Φ}(V:arr.size=C)(hn:n<=C)(hm:C<=maxLen)(bm:lo<=w.heap.size):(w.alloc (.cells arr e)).ownsRow lo e 1 (.slice w n C) n (arr.toList.take n):=
 ⟨by rw[ym,sX];omega,.inr ⟨w,C,arr,rfl,bm,yx _ _,hn,hm,ω,by rw[wZ]⟩⟩
theorem ew (w:Ω)(g o:Nat)(us:List Φ):w.setCells g o us=IL w g o 0 us:=by rw[<-IH,xT]
theorem Pm{vb:Nat}(v:Φ)(ss:List ByteArray)(x:ByteArray)(w:Ω)(h:AQ lo 9 1 A0 w v ss)(bm:lo<=w.heap.size)(E:k<=ss.length)(hl:ss.length<=1000)
 (hN:w.heap[vb]?=some (.cells #[x] 9 (0,0)))(bb:∀g,v.ownBlock=some g->vb≠g):
 Ξ prog 226 #[v,.int .i64 k,.slice vb 1 1] w λe w'=>∃v',e=.returned v'/\AQ lo 9 1 A0 w' v' (Cl ss k x)/\Γ lo w w':=by
 have d9:∀(j:Nat) v,[xZ x][j]?=some v->w.cell? (vb,0+j)=some v:=by
  intro j v X
  match j,X with
  |0,X=>simp at X;subst X;exact yy w vb 0 _ _ _ hN
 have iU:∀v∈[xZ x],v.oneCell'=true:=by simp[xR]
 obtain⟨a,c,hv,N,am⟩:=h.rd.shape
 by_cases ej:ss.length+1<=c
 .
  have H:∃g,v=.slice (some ⟨g,0,none⟩) ss.length c/\lo<=g:=by
   rcases h.2 with⟨h0,_⟩|⟨g,z,bn,h0,Y,_⟩
   .rw[hv] at h0;simp only[xQ] at h0;omega
   rw[hv] at h0;cases h0;exact⟨g,hv,Y⟩
  obtain⟨g,rfl,Z⟩:=H;have hO:w.ownsRow lo 9 1 (.slice g ss.length c) ss.length (ss.map xZ):=by have:=h;unfold AQ at this;rwa [FB] at this
  obtain⟨ys,gr,bX⟩:=Sv hO (ω:ss.length<=ss.length+1) ej;have jE:=bX.1;rw[wZ] at gr jE;obtain⟨bn,jm,_,_,cz⟩:=aZ hO;have kj:vb≠g:=bb g rfl;have jK:∀j,j<ss.length+1->(w.cell? ⟨g,0+j,none⟩).isSome=true:=by intro j X;rw[M8 bX j _ (yG (ω:j<ys.length))];rfl
  have gk:∀j,w.frozen? ⟨g,0+j,none⟩=false:=λj=>xU hO _
  by_cases ja:k=ss.length
  .subst ja
   refine(Any2.slices_Insert_string_end_room Tryz.lays2n22 g 0 ss.length c vb 0 1 1 [.string x] w ψ ej (by unfold maxLen at am;omega) rfl (λj X=>by have:=jK (ss.length+j) ω;simpa[vq] using this) (λj _=>by have:=gk (ss.length+j);simpa[vq] using this) d9 iU).mono ?_;rintro e w' ⟨rfl,rfl⟩;obtain⟨r1,r2⟩:=Eb bX ss.length 0 [.string x];rw[show w.setCells g (0+ss.length) [.string x]=IL w g ss.length 0 [.string x] by rw[wT,<-IH,xT]];refine⟨_,rfl,?_,AM (yN _ _) r2 Z bm⟩;have e1:FY ys ss.length 0 [.string x]=(Cl ss ss.length x).map xZ:=by
    have e2:ys=ss.map xZ++ys.drop ss.length:=by rw[<-gr,wO]
    have:=Ko (ss.map xZ) (ys.drop ss.length) [.string x] η;rw[<-e2,vm] at this;rw[this];have:(ys.drop ss.length).drop 1=[]:=xY η;simp[Cl,this]
   unfold AQ;rw[J4 (yF _),FB,<-e1];exact r1
  have io:k<ss.length:=ω;refine(Any2.slices_Insert_string_shift Tryz.lays2n22 g 0 ss.length c k vb 0 1 1 (ss.map xZ) [.string x] w io ψ ej (by unfold maxLen at am;omega) kj χ rfl (M8 hO) jK (λj _=>gk j) d9 (Ut ss) iU
   9 9 1 c (by simp[World.shape?,hN]) (by simp[World.shape?,jm,cz]) ω (AI hN 0) (AI hN 1)).mono ?_
  rintro e w' ⟨rfl,rfl⟩;have en:Γ w w w.drew:=Ap (yN _ _) 1;have ed:=A8 bX en;obtain⟨r1,r2⟩:=Eb ed (k+1) 0 ((ss.map xZ).drop k);obtain⟨r3,r4⟩:=Eb r1 k 0 [.string x];rw[ew,ew,wT,wT];refine⟨_,rfl,?_,AM (AM (en.mono bm) r2 Z (yM bm en.size)) r4 Z (yM (yM bm en.size) r2.size)⟩;rw[aG (n:=ss.length) jE χ E (by rw[<-gr,vj,vL E])] at r3;unfold AQ;rw[J4 E,FB];simpa[Cl,tE,List.map_drop] using r3
 .have e7:∀a',a=some a'->∀(j:Nat) v,(ss.map xZ)[j]?=some v->w.cell? (a'.add j)=some v:=by
   rintro a' rfl j v X
   rcases h.2 with⟨h0,_⟩|⟨g,z,bn,h0,Y,_⟩
   .rw[hv] at h0;cases h0
   rw[hv] at h0
   cases h0;have hO:=h;unfold AQ at hO;rw[hv,FB] at hO;have:=M8 hO j v X;rw[wT] at this;rw[<-this];unfold uE
   split<;>simp_all
  have j4:=grownCap_ge w (ss.length+1) c 9;have j3:=grownCap_le_maxLen w (ss.length+1) c 9 μ;rw[hv]
  by_cases ja:k=ss.length
  .subst ja
   refine(Any2.slices_Insert_string_end_grow Tryz.lays2n22 a ss.length c vb 0 1 1 (ss.map xZ) [.string x] w ψ N ω ω χ rfl (by rintro rfl;obtain⟨a',c',jH,_,_,_,az,_⟩:=h.rd;rw[hv] at jH;cases jH;have:=az rfl;omega) e7 d9 iU).mono ?_
   rintro e w' ⟨rfl,rfl⟩;refine⟨_,rfl,?_,((Ap (yN _ _) 1:Γ lo w (w.drewN 1))).alloc bm _⟩;have:=Vy (lo:=lo) (e:=9) (n:=ss.length+1) (C:=grownCap w (ss.length+1) c 9) (w:=w.drew) (arr:=(ss.map xZ++[xZ x]).toArray++xX (xZ ⟨#[]⟩).cells (grownCap w (ss.length+1) c 9 - (ss.length+1))) (by simp[xX,uG];omega) j4 j3 bm;have e1:((ss.map xZ++[xZ x]).toArray++xX (xZ ⟨#[]⟩).cells (grownCap w (ss.length+1) c 9 - (ss.length+1))).toList.take (ss.length+1)=(Cl ss ss.length x).map xZ:=by rw[ux,vz χ];simp[Cl]
   rw[e1] at this;unfold AQ;rw[J4 (yF _),FB];exact this
  have io:k<ss.length:=ω;obtain⟨g,rfl,hcg⟩:∃g,a=some ⟨g,0,none⟩/\True:=by
   rcases h.2 with⟨h0,_⟩|⟨g,z,bn,h0,Y,_⟩
   .rw[hv] at h0;simp only[xQ] at h0;omega
   rw[hv] at h0;cases h0;exact⟨g,rfl,trivial⟩
  have hO:w.ownsRow lo 9 1 (.slice g ss.length c) ss.length (ss.map xZ):=by have:=h;unfold AQ at this;rw[hv,FB] at this;exact this
  have d7:=Any2.slices_Insert_string_grow Tryz.lays2n22 g 0 ss.length c k vb 0 1 1 (ss.map xZ) [.string x] w io ψ N ω ω χ rfl (M8 hO) d9 (Ut ss) iU
  change Ξ prog 226 _ _ (λe w'=>e=.returned (.slice w (ss.length+1) (grownCap w (ss.length+1) c 9))/\w'=(((w.alloc (.cells (((ss.map xZ).take k).toArray++xX (xZ ⟨#[]⟩).cells (ss.length+1 - k)++xX (xZ ⟨#[]⟩).cells (grownCap w (ss.length+1) c 9 - (ss.length+1))) 9)).drew.setCells w.heap.size k [xZ x]).drew).setCells w.heap.size (k+1) ((ss.map xZ).drop k)) at d7
  refine d7.mono ?_;rintro e w' ⟨rfl,rfl⟩;have iS:=Vy (lo:=lo) (e:=9) (n:=ss.length+1) (C:=grownCap w (ss.length+1) c 9) (w:=w) (arr:=((ss.map xZ).take k).toArray++xX (xZ ⟨#[]⟩).cells (ss.length+1 - k)++xX (xZ ⟨#[]⟩).cells (grownCap w (ss.length+1) c 9 - (ss.length+1))) (by simp[xX,uG];omega) j4 j3 bm;have iT:Γ lo w (w.alloc (.cells (((ss.map xZ).take k).toArray++xX (xZ ⟨#[]⟩).cells (ss.length+1 - k)++xX (xZ ⟨#[]⟩).cells (grownCap w (ss.length+1) c 9 - (ss.length+1))) 9)):=(yN lo w).alloc bm _;have hT:(((ss.map xZ).take k).toArray++xX (xZ ⟨#[]⟩).cells (ss.length+1 - k)++xX (xZ ⟨#[]⟩).cells (grownCap w (ss.length+1) c 9 - (ss.length+1))).toList.take k=(ss.map xZ).take k:=by rw[ux,ux,sq,vz η]
  generalize(((ss.map xZ).take k).toArray++xX (xZ ⟨#[]⟩).cells (ss.length+1 - k)++xX (xZ ⟨#[]⟩).cells (grownCap w (ss.length+1) c 9 - (ss.length+1)))=arr at iS iT hT ⊢;generalize hwa:w.alloc (.cells arr 9)=wa at iS iT ⊢;have jl:Γ wa wa wa.drew:=Ap (yN _ _) 1;obtain⟨r1,r2⟩:=Eb (A8 iS jl) k 0 [.string x];have jk:Γ (IL wa.drew w k 0 [.string x]).heap.size (IL wa.drew w k 0 [.string x]) (IL wa.drew w k 0 [.string x]).drew:=Ap (yN _ _) 1;obtain⟨r3,r4⟩:=Eb (A8 r1 jk) (k+1) 0 ((ss.map xZ).drop k);rw[ew,ew];have s0:lo<=wa.heap.size:=yM bm iT.size;have b1:=AM (iT.trans (jl.mono s0)) r2 bm (yM s0 jl.size);have s1:lo<=(IL wa.drew w k 0 [.string x]).heap.size:=yM bm b1.size;refine⟨_,rfl,?_,AM (b1.trans (jk.mono s1)) r4 bm (yM s1 jk.size)⟩;have kd:=iS.1;rw[aF (n:=ss.length) (by simpa using kd) χ E (by rw[vj,vL ω];exact hT)] at r3;unfold AQ;rw[J4 E,FB];simpa[Cl,tE,List.map_drop] using r3
end Go.Proofs.YtlcnbkkcplllhaaGreatDoor
