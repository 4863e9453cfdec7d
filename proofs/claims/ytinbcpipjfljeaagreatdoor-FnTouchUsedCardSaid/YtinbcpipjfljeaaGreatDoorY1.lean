/-
  Packed:15 texts.
-/
import Derived.Lib.Strings
import Derived.Test.YtinbcpipjfljeaaGreatDoorRows
import Derived.WalkKit
import Derived.WalkSpells
import Derived.WalkLawsBesides
import Derived.Deep.QuietTactic
import Derived.BigQuiet
import Derived.Deep.LoopGhost
import Derived.Deep.RegionHeld3
import Derived.Lib.Hide
import Derived.Handy
import Derived.Laws.AppendOwnNone
import Derived.StillTailTactics
import Derived.Maps.AppendAt
set_option linter.unusedVariables false
set_option linter.unusedSimpArgs false
set_option maxHeartbeats 16000000
set_option maxRecDepth 100000
open Go Go.Proofs.YtinbcpipjfljeaaGreatDoor
open _root_.Array renaming all_eq_true'->vJ,ext_getElem?->tO,getD_eq_getD_getElem?->xo,getElem?_eq_some_iff->wm,getElem?_setIfInBounds_ne->xL,replicate->wJ
open Bool renaming and_eq_true->yt,false_ne_true->tH
open Go.Act renaming put->vN
open Go.Addr renaming add->tS
open Go.Code renaming region->vD
open Go.Ending renaming returned->tu
open Go.Instr renaming fieldAt->vC,loadAt->xJ
open Go.Oper renaming upon_enter->ur,wp->vE
open Go.Region renaming binds->uk,ready->uj,waitsFor->ym,waitsFor_spec->wW,wanted->xI
open Go.Result renaming andThen_ok->wD
open Go.RowKit.Below renaming refl->yF
open Go.RowKit renaming Hid->vy
open Go.Sem renaming run_bind->vM
open Go.Value renaming int->yf,ownBlock->uQ
open Go.World renaming block_lt_of_cell?->yC,cell?_of_block->wt
open Go.World.ownsRow renaming kept->vt,stored->wA
open Go renaming cell_of_row->yi,getD_both->tG,getD_replicate_false->xM,getD_set_ne->wC,heap_setCell_same->yu,mem_ready->ut,wpAny->tI,wpList_append_own_none->tr
open List renaming all_eq_true->yk,eq_nil_of_length_eq_zero->xT,filter_congr->tq,filter_eq_self->uL,filter_filter->tF,find?_eq_none->tE,find?_some->th,getD_eq_getElem?_getD->xU,getElem?_append_left->wY,getElem?_eq_getElem->yx,getElem?_eq_some_iff->yq,getElem?_map->wQ,length_erase_of_mem->ui,length_pos_of_mem->vp,length_take->xW,mem_cons->xm,mem_filter->wX,mem_of_getElem?->yg,mem_range->yj,nodup_range->tp,range->yE,replicate->xX
open Nat renaming eq_zero_or_pos->vP,le_refl->yv,le_trans->yD,lt_of_lt_of_le->xZ,lt_or_ge->tX,lt_succ_iff_lt_or_eq->xq,not_lt_zero->xR,succ_mul->uF
open Ne renaming symm->wH
open Option renaming bind_some->vB,getD_some->tD,isSome_iff_exists->vG
open Option.some renaming injEq->vq
variable {ae d id k lo' t:Nat} {w0 wr:World} {a3:List (List Int)} {c m:Value} {vs:List Value}
namespace Go.Proofs.YtinbcpipjfljeaaGreatDoor
open Go.Proofs.Tryz
theorem Lu_ {L:Nat->Bool} {W:Nat->Nat->Bool} {i:Nat} {B:Prop} (H:vy (L i=false/\B/\∀j j',L j=true->W j j'=true->L j'=true)) (s:Nat) (h:W s i=true:=by kernel_rfl):L s=false:=by
 cases hx:L s
 .rfl
 .exact absurd (H.2.2 s i hx h) (by rw[H.1];decide)
theorem yH.{u_} {α:Type u_} {a b:α} (h:some a=some b):a=b:=Option.some.inj h
theorem AA {p:Prop} (h:p):vy p:=h
theorem BT {P:Nat->Prop} {Q:∀i,P i->Prop} (H:vy (∀i (h:P i),Q i h)) (i:Nat) (h:P i:=by kernel_rfl):Q i h:=H i h
theorem DT {P R:Nat->Prop} {Q:∀i,P i->R i->Prop} {A C:Prop} {S:Nat->Prop} (H:vy (∀i (h:P i) (g:R i),Q i h g)) (L:vy (A/\(∀i,S i->P i)/\C)) (i:Nat) (h:S i:=by kernel_rfl) (g:R i:=by decide):Q i (L.2.1 i h) g:=H i (L.2.1 i h) g
theorem OV {A B:Prop} {P:Nat->Prop} {Q:∀i,P i->Prop} (H:vy (A/\B/\∀i (h:P i),Q i h)) (i:Nat) (h:P i:=by decide):Q i h:=H.2.2 i h
theorem BZ {P:Nat->Prop} {Q:∀i,P i->Prop} (H:∀i (h:P i),Q i h) (i:Nat) (h:P i:=by decide):Q i h:=H i h
structure Ab where
 k:Int
 e:Int
 a:Int
 b:Int
 c:Int
 nm:ByteArray
structure AU where
 k:Int
 g:ByteArray
 r:Int
 deriving DecidableEq
def AU.zero:AU:=⟨0,⟨#[]⟩,0⟩
structure Ak where
 e:Int
 p:Int
 f:Int
 w:Bool
 deriving DecidableEq
structure EN where
 zV:List ByteArray
 root:Int
 deriving DecidableEq
structure AN where
 mem:List (List Int)
 Os:List AU
 zZ:List EN
 zY:List Ak
 deriving DecidableEq
def Bd (n lo hi:Int):Bool:=decide (lo<=n)&&decide (n<=hi)
theorem Ac {n lo hi:Int}:Bd n lo hi=true↔lo<=n/\n<=hi:=by simp[Bd]
theorem VX {n lo hi:Int}:Bd n lo hi=false↔n<lo∨hi<n:=by by_cases h1:lo<=n<;>by_cases h2:n<=hi<;>simp[Bd,h1,h2]<;>omega
def E9 (c:UInt8):Bool:=decide (97<=c.toNat)&&decide (c.toNat<=99)
def BN (s:ByteArray):Bool:=s.data.toList.all E9&&decide (s.size<=4)
def DZ (ss:List ByteArray) (k:Nat):ByteArray:=ss.getD k ⟨#[]⟩
theorem IH {ss:List ByteArray} (h:k<ss.length):ss[k]? =some (DZ ss k):=by simp[DZ,h]
def Th (a b:ByteArray):Bool:=!Op.bytesLess a.toList b.toList
def Cq (ss:List ByteArray) (i:Nat):Bool:=BN (DZ ss i)&&(decide (i=0)||!Th (DZ ss (i - 1)) (DZ ss i))
def BO (ss:List ByteArray):Bool:=(yE ss.length).all (Cq ss)&&decide (ss.length<=6)
def Ku (a b:ByteArray):Bool:=a.data.toList.isPrefixOf b.data.toList
def Bv (zV:List ByteArray) (g:ByteArray):Bool:=zV.any fun s=>Ku s g
def Dy (n:Int):Bool:=Bd n 0 9999
def Dh (r:List Int):Bool:=r.all Dy&&decide (r.length=4)
def Bs (m:List (List Int)):Bool:=m.all Dh&&decide (m.length=12)
def Bf (w:Int):Bool:=decide (0<w)&&decide (w%2=1)&&decide (w<48)
def A8 (w:Int):Nat:=(w/4).toNat
def KF (w:Int):Bool:=decide (w%4=3)
def AH (m:List (List Int)) (f:Nat):List Int:=m.getD f []
def As (m:List (List Int)) (f i:Nat):Int:=(AH m f).getD i 0
def zU (l:List AU) (f:Nat):AU:=l.getD f AU.zero
def AJ (l:List EN) (f:Nat):EN:=l.getD f ⟨[],0⟩
def DH (x:AU):Bool:=decide (x=AU.zero)||(Bd x.k 1 3&&BN x.g&&Bd x.r 0 50)
def BK (l:List AU):Bool:=l.all DH&&decide (l.length=12)
def named (r:List Int):List Nat:=(r.filter Bf).map A8
def Bb (k:Int):Bool:=decide (k=2)||decide (k=3)
def Ua (k:Int):Int:=if Bb k then k - 1 else 0
def BY (m:List (List Int)) (root:Int):List Nat:=
 if root<0 then[] else root.toNat::(named (AH m root.toNat)++(named (AH m root.toNat)).flatMap fun t=>named (AH m t))
def BC (Os:List AU) (fs:List Nat) (zV:List ByteArray):Bool:=fs.all fun f=>Bv zV (zU Os f).g
def FJ (Os:List AU) (f:Nat) (kind:Int) (zV:List ByteArray) (w:Int):Bool:=
 if Bf w then decide (A8 w≠f)&&decide ((zU Os (A8 w)).k=kind - 1)&&Bv zV (zU Os (A8 w)).g else decide (w=0)
def Im (m:List (List Int)) (Os:List AU) (f:Nat) (kind:Int) (zV:List ByteArray):Bool:=(AH m f).all (FJ Os f kind zV)
def countP (m:List (List Int)) (Os:List AU) (g:Nat):Nat:=
 ((yE 12).map fun t=>if Bb (zU Os t).k then(named (AH m t)).count g else 0).sum
def EI (zZ:List EN) (g:Nat):Nat:=zZ.countP fun e=>decide (e.root=(g:Int))
def CU (x:Ak):Bool:=Bd x.e 0 2&&Bd x.p 0 15&&Bd x.f 0 11
def Bj (e p:Int) (y:Ak):Bool:=decide (y.e=e)&&decide (y.p=p)
def Hj (c:List Ak) (e p:Int):Int:=if c.any (Bj e p) then(c.findIdx (Bj e p):Nat) else -1
def AT (c:List Ak) (i:Nat):Ak:=c.getD i ⟨0,0,0,false⟩
def Ct (c:List Ak) (i:Nat):Bool:=CU (AT c i)&&!(c.take i).any (Bj (AT c i).e (AT c i).p)
def BQ (c:List Ak):Bool:=(yE c.length).all (Ct c)&&decide (c.length<=4)
def Bu (m:List (List Int)) (root a:Nat):Int×Nat×Bool:=
 if Bf (As m root (a/16)) then
  if Bf (As m (A8 (As m root (a/16))) (a/4%4)) then(0,A8 (As m (A8 (As m root (a/16))) (a/4%4)),KF (As m root (a/16))&&KF (As m (A8 (As m root (a/16))) (a/4%4)))
  else(2,0,false)
 else(1,0,false)
def Dp (k:AN) (e:EN):Bool:=BO e.zV&&(decide (e.root= -1)||(Bd e.root 0 11&&decide ((zU k.Os e.root.toNat).k=3)))&&BC k.Os (BY k.mem e.root) e.zV
def Ig (k:AN):Bool:=k.zZ.all (Dp k)&&decide (k.zZ.length=3)
def DY (k:AN) (f:Nat):Bool:=!Bb (zU k.Os f).k||Im k.mem k.Os f (zU k.Os f).k [⟨#[]⟩]
def Gl (k:AN) (f:Nat):Bool:=decide ((zU k.Os f).r=(countP k.mem k.Os f:Int)+(EI k.zZ f:Int))
def Cm (k:AN) (x:Ak):Bool:=decide (0<=(AJ k.zZ x.e.toNat).root)&&decide (Bu k.mem (AJ k.zZ x.e.toNat).root.toNat (4*x.p.toNat)=(0,x.f.toNat,x.w))
def Cj (k:AN):Bool:=Bs k.mem&&BK k.Os&&BQ k.zY&&Ig k&&(yE 12).all (DY k)&&(yE 12).all (Gl k)&&k.zY.all (Cm k)
def Ar {α:Type} (l:List α) (i:Nat) (f:α->α):List α:=match l[i]? with
 |some x=>l.set i (f x)
 |none=>l
def JJ (n:Int) (x:AU):AU:= {x with r:=x.r+n}
def Bg (Os:List AU) (fs:List Nat) (n:Int):List AU:=fs.foldl (fun l g=>Ar l g (JJ n)) Os
def Am (Os:List AU):Int:=if Os.any (fun x=>decide (x.k=0)) then(Os.findIdx (fun x=>decide (x.k=0)):Nat) else -1
def EJ (kind:Int) (x:AU):AU:= {x with k:=kind}
def Gz (m:List (List Int)) (Os:List AU) (f:Nat) (kind:Int) (zV:List ByteArray):List AU×Int:=
 if(zU Os f).k≠1∨(zU Os f).r≠0 then(Os,1)
 else if Im m Os f kind zV=false then(Os,2)
 else if BK (Ar (Bg Os (named (AH m f)) 1) f (EJ kind)) then(Ar (Bg Os (named (AH m f)) 1) f (EJ kind),0) else(Os,1)
def Di (m:List (List Int)) (Os:List AU) (f:Nat):List AU×Int:=
 if Bb (zU Os f).k=false∨(zU Os f).r≠0 then(Os,1)
 else if BK (Ar (Bg Os (named (AH m f)) (-1)) f (EJ 1)) then(Ar (Bg Os (named (AH m f)) (-1)) f (EJ 1),0) else(Os,2)
def SV (ss:List ByteArray) (s:ByteArray):List ByteArray:=ss.takeWhile (fun x=>!Th x s)++s::ss.dropWhile (fun x=>!Th x s)
def Cl (ss:List ByteArray) (s:ByteArray):List ByteArray×Bool:=if ss.any (fun x=>decide (x=s)) then(ss,true) else if ss.length=6 then(ss,false) else(SV ss s,true)
def DB (ss:List ByteArray) (s:ByteArray):List ByteArray:=ss.filter fun r=>!Ku s r
def Mk (c:List Ak) (x:Ak):List Ak:=
 (if(c.filter fun y=>!Bj x.e x.p y).length=4 then(c.filter fun y=>!Bj x.e x.p y).drop 1 else c.filter fun y=>!Bj x.e x.p y)++[x]
def Fu (c:List Ak) (e:Int):List Ak:=c.filter fun y=>decide (y.e≠e)
def CZ (m:List (List Int)) (f i:Nat) (w:Int):List (List Int):=Ar m f fun r=>r.set i w
def FV (k:AN) (e:Int) (g:ByteArray):Bool:=Bv (AJ k.zZ e.toNat).zV g
abbrev L8:=AN×Int×Int
def Io (k:AN) (c:Ab):L8:=
 if BN c.nm=false then(k,0,3)
 else if FV k c.e c.nm=false then(k,0,1)
 else if Am k.Os<0 then(k,0,4)
 else({k with Os:=k.Os.set (Am k.Os).toNat ⟨1,c.nm,0⟩,mem:=k.mem.set (Am k.Os).toNat [0,0,0,0]},Am k.Os,0)
def Jw (k:AN) (c:Ab):L8:=
 if(zU k.Os c.a.toNat).k≠1 then(k,0,3)
 else if(zU k.Os c.a.toNat).r≠0 then(k,0,2)
 else({k with Os:=k.Os.set c.a.toNat AU.zero},0,0)
def J2 (k:AN) (c:Ab):L8:=
 if(zU k.Os c.a.toNat).k≠1∨Bd c.b 0 3=false∨Dy c.c=false then(k,0,3)
 else({k with mem:=CZ k.mem c.a.toNat c.b.toNat c.c},0,0)
def Mi (n:Int):Int:=if n=0 then 0 else if n=1 then 2 else 3
def EA (k:AN) (r:List AU×Int):L8:=if r.2=0 then({k with Os:=r.1},0,0) else(k,0,Mi r.2)
def DJ (k:AN) (w:Int):List Nat:=if Bf w then A8 w::(if Bb (zU k.Os (A8 w)).k then named (AH k.mem (A8 w)) else[]) else[]
def FY (k:AN) (a:Nat):List Nat:=(yE 3).filter fun e=>(BY k.mem (AJ k.zZ e).root).contains a
def A3 (Os:List AU) (w:Int) (n:Int):List AU:=if Bf w then Ar Os (A8 w) (JJ n) else Os
def Dg (k:AN) (c:Ab):Bool:=if Bf c.c then decide ((zU k.Os (A8 c.c)).k=(zU k.Os c.a.toNat).k - 1) else decide (c.c=0)
def Gt (k:AN) (c:Ab):L8:=
 if Bb (zU k.Os c.a.toNat).k=false∨Bd c.b 0 3=false∨Dg k c=false then(k,0,3)
 else if(FY k c.a.toNat).all (fun e=>BC k.Os (DJ k c.c) (AJ k.zZ e).zV)=false then(k,0,1)
 else if Bf c.c=true/\FV k c.e (zU k.Os (A8 c.c)).g=false then(k,0,1)
 else({k with mem:=CZ k.mem c.a.toNat c.b.toNat c.c,Os:=A3 (A3 k.Os (As k.mem c.a.toNat c.b.toNat) (-1)) c.c 1,zY:=(FY k c.a.toNat).foldl (fun c e=>Fu c (e:Nat)) k.zY},0,0)
def Dk (n:Int) (e:EN):EN:= {e with root:=n}
def OK (k:AN) (c:Ab):L8:=
 if c.a≠ -1/\(Bd c.a 0 11=false∨(zU k.Os c.a.toNat).k≠3) then(k,0,3)
 else if BC k.Os (BY k.mem c.a) (AJ k.zZ c.e.toNat).zV=false then(k,0,1)
 else
  let i1:=if 0<=(AJ k.zZ c.e.toNat).root then Ar k.Os (AJ k.zZ c.e.toNat).root.toNat (JJ (-1)) else k.Os
  ({k with Os:=if 0<=c.a then Ar i1 c.a.toNat (JJ 1) else i1,zZ:=Ar k.zZ c.e.toNat (Dk c.a),zY:=Fu k.zY c.e},0,0)
def BV (ss:List ByteArray) (e:EN):EN:= {e with zV:=ss}
def Kx (k:AN) (c:Ab):L8:=
 if Bd c.a 0 2=false∨BN c.nm=false then(k,0,3)
 else if FV k c.e c.nm=false then(k,0,1)
 else if(Cl (AJ k.zZ c.a.toNat).zV c.nm).2=false then(k,0,4)
 else({k with zZ:=Ar k.zZ c.a.toNat (BV (Cl (AJ k.zZ c.a.toNat).zV c.nm).1)},0,0)
def Jg (k:AN) (c:Ab):L8:=
 if Bd c.a 0 2=false∨c.a=c.e∨BN c.nm=false then(k,0,3)
 else if FV k c.e c.nm=false then(k,0,1)
 else if BC k.Os (BY k.mem (AJ k.zZ c.a.toNat).root) (DB (AJ k.zZ c.a.toNat).zV c.nm)=false then(k,0,2)
 else({k with zZ:=Ar k.zZ c.a.toNat (BV (DB (AJ k.zZ c.a.toNat).zV c.nm))},0,0)
def QI (k:AN) (c:Ab):L8:=
 let root:=(AJ k.zZ c.e.toNat).root
 if Bd c.a 0 63=false∨root<0∨(c.k=11/\Dy c.b=false) then(k,0,3)
 else
  let x:=Bu k.mem root.toNat c.a.toNat
  if x.1≠0 then(k,0,3)
  else if c.k=11/\x.2.2=false then(k,0,1)
  else
   let zY:=if Hj k.zY c.e (c.a/4)<0 then Mk k.zY ⟨c.e,c.a/4,x.2.1,x.2.2⟩ else k.zY
   if c.k=11 then({k with mem:=CZ k.mem x.2.1 (c.a%4).toNat c.b,zY:=zY},0,0)
   else({k with zY:=zY},As k.mem x.2.1 (c.a%4).toNat,0)
def Gb (k:AN) (c:Ab):L8:=
 if Bd c.a 0 11=false∨(zU k.Os c.a.toNat).k=0∨(c.k=4/\Bb c.b=false) then(k,0,3)
 else if FV k c.e (zU k.Os c.a.toNat).g=false then(k,0,1)
 else if c.k=2 then Jw k c
 else if c.k=3 then J2 k c
 else if c.k=4 then EA k (Gz k.mem k.Os c.a.toNat c.b (AJ k.zZ c.e.toNat).zV)
 else if c.k=5 then EA k (Di k.mem k.Os c.a.toNat)
 else Gt k c
def Ad (k:AN) (c:Ab):L8:=
 if c.k=1 then Io k c
 else if Bd c.k 2 6 then Gb k c
 else if c.k=7 then OK k c
 else if c.k=8 then Kx k c
 else if c.k=9 then Jg k c
 else if c.k=10∨c.k=11 then QI k c
 else(k,0,3)
open Go.RowKit
def nth (xs:List Int) (k:Nat):Int:=xs.getD k 0
def Rd (w:World) (v:Value) (sz n:Nat) (xs:List Value):Prop:=
 ∃a ae,v= .slice a n ae/\n<=ae/\ae<=maxLen/\xs.length=n*sz/\(a=none->ae=0)/\
  (0<n->∃b ac,a=some ⟨b,ac,none⟩/\∀j,j<n*sz->w.cell? ⟨b,ac+j,none⟩=xs[j]?)
theorem Rd.of_owns {w:World} {base e sz n:Nat} {v:Value} {xs:List Value} (h:w.ownsRow base e sz v n xs):Rd w v sz n xs:=by
 rcases h.2 with⟨rfl,rfl⟩|⟨g,ae,a9,rfl,hb,hg,bv,a5,hcs,htake⟩
 .exact⟨none,0,rfl,yv _,by simp[maxLen],h.1,fun _=>rfl,fun h=>absurd h (Nat.lt_irrefl _)⟩
 .refine⟨_,_,rfl,bv,a5,h.1,(fun h=>by cases h),fun _=>⟨g,0,rfl,fun j hj=>?_⟩⟩
  have:=h.cellAt j hj;simpa using this
theorem Rd.keep {w w':World} {sz n:Nat} {v:Value} {xs:List Value} (h:Rd w v sz n xs) (hk:∀k,k<w.heap.size->w'.heap[k]? =w.heap[k]?):Rd w' v sz n xs:=by
 obtain⟨a,ae,rfl,bv,a5,hl,az,hc⟩:=h;refine⟨a,ae,rfl,bv,a5,hl,az,fun hn=>?_⟩;obtain⟨b,ac,rfl,ar⟩:=hc hn;refine⟨b,ac,rfl,fun j hj=>?_⟩;have h1:=ar j hj;have b7:∃u,xs[j]? =some u:=⟨xs[j]'(by omega),yx (by omega)⟩
 obtain⟨u,hu⟩:=b7;rw[hu] at h1 ⊢;have ay:=yC w _ h1;exact(wt (hk _ ay)).trans h1
theorem Rd.below {w w':World} {sz n:Nat} {v:Value} {xs:List Value} (h:Rd w v sz n xs) (hb:Below w.heap.size w w'):Rd w' v sz n xs:=h.keep hb.block
theorem Rd.drewN {w:World} {sz n:Nat} {v:Value} {xs:List Value} (h:Rd w v sz n xs) (k:Nat):Rd (w.drewN k) v sz n xs:=h.keep (fun _ _=>rfl)
theorem Rd.alloc {w:World} {sz n:Nat} {v:Value} {xs:List Value} (h:Rd w v sz n xs) (o:Obj):Rd (w.alloc o) v sz n xs:=h.keep (fun k hk=>(World.grownBy_alloc w o none).block k hk (by simp))
def Ax (w:World) (v:Value) (xs:List Int):Prop:=Rd w v 1 xs.length (xs.map (yf .i64))
def Ie (w:World) (a:Option Addr) (xs:List Int):Prop:=
 ∀k,k<xs.length->∃b ac,a=some ⟨b,ac,none⟩/\∀j,j<xs.length->w.cell? ⟨b,ac+j,none⟩=some (.int .i64 (nth xs j))
theorem Pc {xs:List Int} (h:k<xs.length):xs[k]? =some (nth xs k):=by simp[nth,h]
theorem MG {xs:List Int} (h:k<xs.length):nth xs k=xs[k]:=by simp[nth,h]
theorem Ax.open {w:World} {v:Value} {xs:List Int} (h:Ax w v xs):
 ∃a ae,v= .slice a xs.length ae/\xs.length<=ae/\ae<=maxLen/\Ie w a xs:=by
 obtain⟨a,ae,rfl,bv,a5,hl,_,hc⟩:=h;refine⟨a,ae,rfl,bv,a5,fun k hk=>?_⟩;obtain⟨b,ac,rfl,ar⟩:=hc (by omega);refine⟨b,ac,rfl,fun j hj=>?_⟩;rw[ar j (by omega),wQ,Pc hj];rfl
theorem Ie.at {w:World} {a:Option Addr} {xs:List Int} (h:Ie w a xs) {k:Nat} (hk:k<xs.length):
 ∃b ac,a=some ⟨b,ac,none⟩/\w.cell? ⟨b,ac+k,none⟩=some (.int .i64 (nth xs k)):=by
 obtain⟨b,ac,rfl,hc⟩:=h k hk;exact⟨b,ac,rfl,hc k hk⟩
theorem Ie.keep {w w':World} {a:Option Addr} {xs:List Int} (h:Ie w a xs) (hk:∀k,k<w.heap.size->w'.heap[k]? =w.heap[k]?):Ie w' a xs:=by
 intro k cN;obtain⟨b,ac,rfl,hc⟩:=h k cN;exact⟨b,ac,rfl,fun j hj=>(wt (hk _ (yC w _ (hc j hj)))).trans (hc j hj)⟩
theorem Ie.below {w w':World} {a:Option Addr} {xs:List Int} (h:Ie w a xs) (hb:Below w.heap.size w w'):Ie w' a xs:=h.keep hb.block
theorem Ax.below {w w':World} {v:Value} {xs:List Int} (h:Ax w v xs) (hb:Below w.heap.size w w'):Ax w' v xs:=Rd.below h hb
theorem Ax.drewN {w:World} {v:Value} {xs:List Int} (h:Ax w v xs) (k:Nat):Ax (w.drewN k) v xs:=Rd.drewN h k
theorem Ax.keep {w w':World} {v:Value} {xs:List Int} (h:Ax w v xs) (hk:∀k,k<w.heap.size->w'.heap[k]? =w.heap[k]?):Ax w' v xs:=Rd.keep h hk
theorem Ax.alloc {w:World} {v:Value} {xs:List Int} (h:Ax w v xs) (o:Obj):Ax (w.alloc o) v xs:=Rd.alloc h o
def AG (lo:Nat) (w:World) (v:Value) (xs:List Int):Prop:=w.ownsRow lo 3 1 v xs.length (xs.map (yf .i64))
theorem AG.rd {lo:Nat} {w:World} {v:Value} {xs:List Int} (h:AG lo w v xs):Ax w v xs:=Rd.of_owns h
theorem AI {a b:Bool} (h:a=b):tu (.bool a)= .returned (.bool b):=by rw[h]
theorem Cn {a b:Int} (h:a=b):tu (.int .i64 a)= .returned (.int .i64 b):=by rw[h]
theorem Kv (w:World) (a b:Nat):(w.drewN a).drewN b=w.drewN (a+b):=by simp[World.drewN,Nat.add_assoc]
theorem YK (w:World) (a:Nat):∃n,w.drewN a=w.drewN n:=⟨a,rfl⟩
theorem YL (w:World) (a b:Nat):∃n,(w.drewN a).drewN b=w.drewN n:=⟨a+b,Kv w a b⟩
theorem A9 {B:Nat} {a w:World} (h:Below B a w) (n:Nat):Below B a (w.drewN n):=⟨h.os,h.tape,h.output,h.size,h.block⟩
def Fm (w:World) (v:Value) (bs:List Int):Prop:=Rd w v 1 bs.length (bs.map (yf .u8))/\∀b∈bs,0<=b/\b<256
theorem Rm (k:IntKind) {w:World} {a:Option Addr} {len ae:Nat} {zs:List Int}
 (h:(a=none/\len=0/\ae=0/\zs=[])∨∃x,a=some x/\len<=ae/\ae<=maxLen/\zs.length=ae/\(∀i,i<zs.length->w.cell? (x.add i)=some (.int k (zs.getD i 0)))/\∀n∈zs,(Lit.int k n).wf=true):
 Rd w (.slice a len ae) 1 (zs.take len).length ((zs.take len).map (yf k))/\∀n∈zs.take len,(Lit.int k n).wf=true:=by
 rcases h with⟨rfl,rfl,rfl,rfl⟩|⟨x,rfl,hlc,a5,hz,hc,hwf⟩
 .exact⟨⟨none,0,by simp,by simp,by simp[maxLen],by simp,fun _=>rfl,by simp⟩,by simp⟩
 .have hl:(zs.take len).length=len:=by rw[xW];omega
  refine⟨⟨some x,ae,by rw[hl],by omega,a5,by simp,(fun h=>by cases h),fun hn=>?_⟩,fun n hn=>hwf n (List.mem_of_mem_take hn)⟩;rw[hl] at hn ⊢;have h0:=hc 0 (by omega);obtain⟨b,ac,ck⟩:=x;cases ck with
  |some q=>simp[tS,World.cell?] at h0;split at h0<;>simp_all
  |none=>
   refine⟨b,ac,rfl,fun j hj=>?_⟩;have ci:=hc j (by omega);have bp:(⟨b,ac,none⟩:Addr).add j=⟨b,ac+j,none⟩:=by unfold tS;split<;>simp_all
   rw[bp] at ci;rw[ci,wQ,List.getElem?_take,if_pos (by omega)];simp[yx (show j<zs.length by omega)]
theorem LE {w:World} {a:Option Addr} {len:Nat} {zs:List Int}
 (h:(a=none/\len=0/\ae=0/\zs=[])∨∃x,a=some x/\len<=ae/\ae<=maxLen/\zs.length=ae/\(∀i,i<zs.length->w.cell? (x.add i)=some (.int .u8 (zs.getD i 0)))/\∀n∈zs,(Lit.int .u8 n).wf=true):
 Fm w (.slice a len ae) (zs.take len):=by
 refine⟨(Rm .u8 h).1,fun b hb=>?_⟩;have:=(Rm .u8 h).2 b hb;simp only[Lit.wf,yt,decide_eq_true_eq] at this;have h1:IntKind.min .u8=0:=by decide
 have h2:IntKind.max .u8=255:=by decide
 omega
theorem Cv (n lo hi:Int) (w:World):
 Calls prog 24 #[.int .i64 n, .int .i64 lo, .int .i64 hi] w fun e w'=>e= .returned (.bool (Bd n lo hi))/\w=w':=by
 by_cases h1:lo<=n
 .have e1:Bd n lo hi=decide (n<=hi):=by simp[Bd,h1]
  have H:=AA e1;clear e1;go_in;go_wp2;go_ret;exact⟨AI H.out.symm,rfl⟩
 .have e1:Bd n lo hi=false:=by simp[Bd,h1]
  have H:=AA e1;clear e1;go_in;go_wp2;go_ret;exact⟨AI H.out.symm,rfl⟩
theorem Do (n lo hi:Int) (w:World):
 Calls prog 35 #[.int .i64 n, .int .i64 lo, .int .i64 hi] w fun e w'=>e= .returned (.bool (Bd n lo hi))/\w=w':=by
 by_cases h1:lo<=n
 .have e1:Bd n lo hi=decide (n<=hi):=by simp[Bd,h1]
  have H:=AA e1;clear e1;go_in;go_wp2;go_ret;exact⟨AI H.out.symm,rfl⟩
 .have e1:Bd n lo hi=false:=by simp[Bd,h1]
  have H:=AA e1;clear e1;go_in;go_wp2;go_ret;exact⟨AI H.out.symm,rfl⟩
theorem XH (n:Int) (w:World):
 Calls prog 165 #[.int .i64 n] w fun e w'=>e= .returned (.bool (Bd n 0 2))/\w=w':=by
 go_in;go_wp2_with (go_at_call 35;refine(Do _ _ _ _).mono ?_;rintro e w' ⟨rfl,rfl⟩);go_ret;exact⟨rfl,rfl⟩
def findIdx (p:Int->Bool) (xs:List Int):Int:=if xs.any p then(xs.findIdx p:Int) else -1
theorem Sg {p:Int->Bool} {xs:List Int} (h:∀j,j<xs.length->p (nth xs j)=false):findIdx p xs= -1:=by
 unfold findIdx;have:xs.any p=false:=by rw[List.any_eq_false];intro x hx;obtain⟨j,hj,rfl⟩:=List.getElem_of_mem hx;have:=h j hj;rw[MG hj] at this;simp[this]
 simp[this]
theorem VN {p:Int->Bool} {xs:List Int} (hk:k<xs.length) (h:∀j,j<k->p (nth xs j)=false) (hp:p (nth xs k)=true):findIdx p xs=k:=by
 unfold findIdx;rw[MG hk] at hp;have h1:xs.any p=true:=List.any_eq_true.2 ⟨xs[k],List.getElem_mem hk,hp⟩;have h2:xs.findIdx p=k:=by
  rw[List.findIdx_eq hk];refine⟨hp,fun j hj=>?_⟩;have:=h j hj
  rwa [MG (by omega)] at this
 simp[h1,h2]
theorem VO {p:Int->Bool} {xs:List Int}:decide (0<=findIdx p xs)=xs.any p:=by unfold findIdx;cases xs.any p<;>simp
theorem QS (F:Nat) (ba:Array Value) (p:Int->Bool) (v:Value) (xs:List Int) (w:World) (h:Ax w v xs)
 (hF:∀args w,(callFunc F args).run prog w= .ok (.enter F args) w) (hf:∀x w,Calls prog F (#[.int .i64 x]++ba) w fun e w'=>e= .returned (.bool (p x))/\w=w'):
 Calls prog 169 #[v, .func (.func F) #[] ba] w fun e w'=>e= .returned (.int .i64 (findIdx p xs))/\w=w':=by
 obtain⟨a,c,rfl,hc,a5,H⟩:=h.open;clear h;unfold maxLen at a5;have Hf:=AA hf;clear hf;go_in;go_wp2;go_loop [8] (fun i=>∃k:Nat,k<=xs.length/\i= .int .i64 k/\∀j,j<k->p (nth xs j)=false) (fun i=>xs.length - (intOf i).toNat)
 case atStart=>exact⟨0,Nat.zero_le _,rfl,fun j hj=>absurd hj (xR _)⟩
 case round=>
  obtain⟨k,hk,rfl,bg⟩:=hrel;have bd:=AA bg;clear bg
  by_cases ay:k<xs.length
  .obtain⟨b,ac,rfl,D⟩:=H.at ay
   clear H;cases hp:p (nth xs k)
   .have Hp:=AA hp;clear hp
    go_wp2_with (refine(Hf.out _ _).mono ?_;rintro e w' ⟨rfl,rfl⟩;rw[Hp.out]);go_round
    case rel=>exact⟨k+1,by omega,by go_num,fun j hj=>by
     rcases xq.1 hj with h|h
     .exact bd.out j h
     .subst h;exact Hp.out⟩
    case measure=>simp[intOf];omega
   .have Hp:=AA hp;clear hp
    have bC:=AA (VN (p:=p) ay bd.out Hp.out);go_wp2_with (refine(Hf.out _ _).mono ?_;rintro e w' ⟨rfl,rfl⟩;rw[Hp.out]);go_ret;exact⟨Cn bC.out.symm,rfl⟩
  .have bC:=AA (Sg (p:=p) (xs:=xs) (fun j hj=>bd.out j (by omega)))
   go_wp2;go_ret;exact⟨Cn bC.out.symm,rfl⟩
theorem M9 (F:Nat) (ba:Array Value) (p:Int->Bool) (v:Value) (xs:List Int) (w:World) (h:Ax w v xs)
 (hF:∀args w,(callFunc F args).run prog w= .ok (.enter F args) w) (hf:∀x w,Calls prog F (#[.int .i64 x]++ba) w fun e w'=>e= .returned (.bool (p x))/\w=w'):
 Calls prog 128 #[v, .func (.func F) #[] ba] w fun e w'=>e= .returned (.bool (xs.any p))/\w=w':=by
 have Hf:=AA hf;clear hf;go_in;go_wp2_with (go_at_call 169;refine(QS F ba p v xs _ h hF Hf.out).mono ?_;rintro e w' ⟨rfl,rfl⟩);go_ret;exact⟨AI VO,rfl⟩
theorem Aj {p:Nat->Prop} (h:∀j,j<k->p j) (hk:p k):∀j,j<k+1->p j:=fun j hj=>by
 rcases xq.1 hj with h'|h'
 .exact h j h'
 .subst h';exact hk
theorem Tryz.zK:(prog.info? 3).map (fun i=>(i.zero,i.size,i.bytes))=some (some (.int .i64 0),1,8):=by kernel_rfl
theorem AG.below {lo:Nat} {w w':World} {v:Value} {xs:List Int} (h:AG lo w v xs) (hb:Below w.heap.size w w'):AG lo w' v xs:=by
 refine vt (row:=none) h ⟨hb.os,hb.tape,hb.output,hb.size,fun k hk _=>hb.block k hk⟩ ?_;cases v.ownBlock<;>simp
theorem Co {lo:Nat} {w w':World} {v:Value} {e sz n:Nat} {xs:List Value} (h:w.ownsRow lo e sz v n xs) (hb:Below w.heap.size w w'):w'.ownsRow lo e sz v n xs:=by
 refine vt (row:=none) h ⟨hb.os,hb.tape,hb.output,hb.size,fun k hk _=>hb.block k hk⟩ ?_;cases v.ownBlock<;>simp
theorem Below.zw {w w':World} (h:w.grownBy w' none):Below w.heap.size w w':=⟨h.os,h.tape,h.output,h.size,fun k hk=>h.block k hk (by simp)⟩
theorem UX (z:Value) (hz:z.cells= #[z]) (n:Nat):(madeCells z.cells (n*1)).toList=xX n z:=by rw[hz,Nat.mul_one,toList_madeCells_one]
theorem Of {w:World} {ops:Array Oper} {rest:List Oper} {o:Oper} {a:Act} {Q:Exit->Act->World->Prop} {l:Operand} {t:TypeId} {n:Nat}
 (hg:o.guard=none) (bh:o.op=Op.makeSlice t l l) (e:TypeId) (z:Value) (bytes:Nat) (h1:prog.underlying t=some (.slice e))
 (h2:(prog.info? e).map (fun i=>(i.zero,i.size,i.bytes))=some (some z,1,bytes)) (hz:z.cells= #[z])
 (hl:a.eval l= .int .i64 n) (b2:bytes*n<=281474976710656) (b3:n<=maxLen)
 (hK:∀w',w'.ownsRow w.heap.size e 1 (.slice (some ⟨w.heap.size,0,none⟩) n n) n (xX n z)->Below w.heap.size w w'->w.heap.size<w'.heap.size->
  wpList prog ops Q rest (a.put o.dst (.slice (some ⟨w.heap.size,0,none⟩) n n)) w'):wpList prog ops Q (o::rest) a w:=by
 obtain⟨i0,hi,b6,b5,b4⟩:=info_parts h2;refine wpList_make_full w hg l l t bh w.heap.size e i0 z 1 h1 hi b6 b5 .i64 .i64 n n n hl hl rfl rfl (by rw[b4];exact b2) b3 (yv _) fun w' h h'=>?_
 rw[UX z hz] at h;exact hK w' h (Below.zw h') (h.lt _ rfl).2
theorem LZ {xs ys:List Int} (hl:xs.length=ys.length) (h:∀j,j<xs.length->nth xs j=nth ys j):xs=ys:=by
 refine List.ext_getElem hl fun j h1 h2=>?_
 have:=h j h1
 rwa [MG h1,MG h2] at this
theorem XV {xs ys:List Int} (h:nth xs k≠nth ys k):decide (xs=ys)=false:=by simp only[decide_eq_false_iff_not];rintro rfl;exact h rfl
theorem XU {xs ys:List Int} (h:xs.length≠ys.length):decide (xs=ys)=false:=by simp only[decide_eq_false_iff_not];rintro rfl;exact h rfl
theorem TS (v1 v2:Value) (xs ys:List Int) (w:World) (h1:Ax w v1 xs) (h2:Ax w v2 ys):
 Calls prog 13 #[v1,v2] w fun e w'=>e= .returned (.bool (decide (xs=ys)))/\∃n,w'=w.drewN n:=by
 obtain⟨a1,c1,rfl,cU,cw,H1⟩:=h1.open;obtain⟨a2,c2,rfl,cT,cv,H2⟩:=h2.open;clear h1 h2;unfold maxLen at cw cv
 by_cases bx:(xs.length:Int)=ys.length
 .have hb:((xs.length:Int) !=ys.length)=false:=by simp[bx]
  have cD:xs.length<=ys.length/\ys.length<=xs.length:=by omega
  clear bx;go_in;go_wp2;go_loopw [5] (fun i wr=>∃k:Nat,k<=xs.length/\i= .int .i64 k/\(∀j,j<k->nth xs j=nth ys j)/\∃n,wr=w.drewN n) (fun i _=>xs.length - (intOf i).toNat)
  case atStart=>exact⟨0,Nat.zero_le _,rfl,fun j hj=>absurd hj (xR _),0,rfl⟩
  case round=>
   obtain⟨k,hk,rfl,bg,n,rfl⟩:=hrel;have bd:=AA bg;clear bg
   by_cases ay:k<xs.length
   .obtain⟨b1,o1,rfl,D1⟩:=H1.at ay
    have cr:k<ys.length:=by omega
    obtain⟨b2,o2,rfl,D2⟩:=H2.at cr;clear H1 H2
    by_cases he:nth xs k=nth ys k
    .have cR:(nth xs k !=nth ys k)=false:=by simp[he]
     have He:=AA he;clear he;go_wp2;go_quiet (fail);go_wp2;go_roundw
     case rel=>exact⟨k+1,by omega,by go_num,Aj bd.out He.out,_,rfl⟩
     case measure=>simp[intOf];omega
    .have cR:(nth xs k !=nth ys k)=true:=by simp[he]
     have bb:=AA (XV he);clear he;go_wp2;go_quiet (fail);go_wp2;go_ret
     first|exact⟨AI bb.out.symm,YL _ _ _⟩|exact⟨AI bb.out.symm,YK _ _⟩
   .have bb:=AA (LZ (xs:=xs) (ys:=ys) (by omega) (fun j hj=>bd.out j (by omega)))
    go_wp2;go_ret;exact⟨AI (by simp[bb.out]),_,rfl⟩
 .have hb:((xs.length:Int) !=ys.length)=true:=by simp[bx]
  have bb:=AA (XU (xs:=xs) (ys:=ys) (by omega));clear bx;go_in;go_wp2;go_ret;exact⟨AI bb.out.symm,0,rfl⟩
theorem Eg {lo:Nat} {w:World} {ops:Array Oper} {rest:List Oper} {o:Oper} {a:Act} {Q:Exit->Act->World->Prop} {s x:Operand} {t:TypeId}
 (bA:o.guard=none) (ho:o.op= .call {callee:= .builtin .append,args:= #[s,x],argTypes:= #[t,t]})
 (e:TypeId) (z:Value) (sz bytes:Nat) (ht:prog.underlying t=some (.slice e)) (hi:(prog.info? e).map (fun i=>(i.zero,i.size,i.bytes))=some (some z,sz,bytes))
 (cl:z.cells.size=sz) (a7:0<sz) {v u:Value} {n m:Nat} {xs news:List Value} (hs:a.eval s=v) (au:w.ownsRow lo e sz v n xs)
 (hx:a.eval x=u) (hr:Rd w u sz m news) (h1:∀u∈news,u.oneCell'=true) (cz:n+m<=maxLen) (a6:(n+m)*bytes<=140737488355328) (b8:lo<=w.heap.size)
 (hK:∀v' w',w'.ownsRow lo e sz v' (n+m) (xs++news)->w.grownBy w' v.ownBlock->Below lo w w'->wpList prog ops Q rest (a.put o.dst v') w'):wpList prog ops Q (o::rest) a w:=by
 obtain⟨i0,bW,b6,b5,b4⟩:=info_parts hi;obtain⟨ao,c,rfl,cM,a5,hl,az,hc⟩:=hr;have bo:∀w',w.grownBy w' v.ownBlock->Below lo w w':=fun w' hg=>(yF lo w).grown hg b8 (fun k hk=>(au.lt k hk).1)
 cases ao with
 |none=>
  have cf:=az rfl;subst cf;obtain rfl:m=0:=by omega
  have bi:news=[]:=xT (by simpa using hl);subst bi;refine tr bA s x t ho lo e i0 sz ht bW v n xs hs au hx ?_;exact hK v w (by simpa using au) ⟨rfl,rfl,rfl,yv _,fun _ _ _=>rfl⟩ (yF _ _)
 |some ad=>
  refine wpList_append_own w bA s x t ho lo e i0 z sz bytes ht bW b6 b5 b4 cl a7 v n xs hs au ad m c news hx hl ?_ h1 cz a6 b8 (fun v' w' h2 h3 _=>hK v' w' h2 h3 (bo w' h3));intro j u hu
  rcases vP m with rfl|hm
  .simp at hl
   simp[hl] at hu
  .obtain⟨b,ac,cx,ar⟩:=hc hm
   obtain rfl:ad=⟨b,ac,none⟩:=by simpa using cx
   have hj:j<news.length:=(yq.1 hu).1;have bp:(⟨b,ac,none⟩:Addr).add j=⟨b,ac+j,none⟩:=by unfold tS;split<;>simp_all
   rw[bp,ar j (by omega),hu]
theorem Rd.news (w:World) (cs:Array Value) (e:TypeId) (sz n:Nat) (hs:cs.size=n*sz) (hn:n<=maxLen):Rd (w.alloc (.cells cs e)) (.slice (some ⟨w.heap.size,0,none⟩) n n) sz n cs.toList:=
 Rd.of_owns (World.ownsRow_lit (base:=w.heap.size) w cs n (yv _) hn hs)
theorem LB {xs:List Int}:∀u∈xs.map (yf .i64),u.oneCell'=true:=by intro u hu;obtain⟨x,_,rfl⟩:=List.mem_map.1 hu;rfl
theorem Cp (w:World) (e sz:Nat):(w.alloc (.cells #[] e)).ownsRow w.heap.size e sz (.slice (some ⟨w.heap.size,0,none⟩) 0 0) 0 []:=
 World.ownsRow_made w #[] 0 (yv _) (by simp[maxLen]) (by simp)
theorem ID (v:Value) (xs:List Int) (w:World) (h:Ax w v xs) (hs:xs.length<=1048576):
 Calls prog 51 #[v] w fun e w'=>∃v',e= .returned v'/\AG w.heap.size w' v' xs/\Below w.heap.size w w':=by
 have h':=h;obtain⟨a,c,rfl,bv,a5,hl,az,hc⟩:=h';have hq:=fun w=>Lib.run_eql_slice_nil (P:=prog) w 29 3 a xs.length c 0 0 underlying29
 cases a with
 |none=>have cf:=az rfl;subst cf;have h0:xs=[]:=xT (by omega);subst h0;simp only[List.length_nil] at hq;go_in;go_wp2;go_ret;exact⟨_,rfl,World.ownsRow_nil _ _ _ _,yF _ _⟩
 |some ad=>clear hc az;go_in;go_wp2_with (refine Eg (lo:=w.heap.size) (v:= .slice (some ⟨w.heap.size,0,none⟩) 0 0) (n:=0) (xs:=[]) (m:=xs.length) (news:=xs.map (yf .i64)) rfl rfl 3 (.int .i64 0) 1 8 underlying29 Tryz.zK rfl (by decide) rfl (Cp _ _ _) rfl (h.alloc _) LB (by unfold maxLen;omega) (by omega) (by simp) ?_;intro v' w' au _ bo);go_ret;refine⟨_,rfl,by simpa[AG] using au,((yF _ _).alloc (yv _) _).trans bo⟩
theorem JE {w:World} {lo e sz n:Nat} {v:Value} {xs:List Value} (h:w.ownsRow lo e sz v n xs) (hn:0<n):∃g ae,v= .slice (some ⟨g,0,none⟩) n ae/\lo<=g/\g<w.heap.size:=by
 have ay:=h.lt
 rcases h.2 with⟨_,rfl⟩|⟨g,ae,a9,rfl,hb,hg,_⟩
 .omega
 .exact⟨g,ae,rfl,hb,(ay g rfl).2⟩
theorem FQ {xs:List Int} {a:Nat} (h:a<xs.length):(xs.map (yf .i64))[a]? =some (.int .i64 (nth xs a)):=by rw[wQ,Pc h];rfl
theorem Zl {lo:Nat} {w:World} {v:Value} {xs:List Int} {a:Nat} {x:Int} (h:w.ownsRow lo 3 1 v xs.length ((xs.map (yf .i64)).set a (.int .i64 x))):AG lo w v (xs.set a x):=by unfold AG;rw[List.length_set,List.map_set];exact h
theorem Sz {xs:List Int} {a j:Nat} {x:Int} (ha:a<xs.length):nth (xs.set a x) j=if j=a then x else nth xs j:=by
 unfold nth;rw[xU,xU,List.getElem?_set]
 by_cases h:a=j
 .subst h;simp[ha]
 .have h':j≠a:=fun e=>h e.symm
  simp[h,h']
def lenOf:Value->Nat| .slice _ n _=>n|_=>0
def Ch {α:Type} (cs:α->List Value) (xs:List α):List Value:=xs.flatMap cs
theorem H5 {α:Type} (cs:α->List Value) (x:α) (xs:List α):Ch cs (x::xs)=cs x++Ch cs xs:=rfl
theorem Bl {α:Type} (cs:α->List Value) (xs ys:List α):Ch cs (xs++ys)=Ch cs xs++Ch cs ys:=List.flatMap_append
theorem El {α:Type} (cs:α->List Value) (x:α):Ch cs [x]=cs x:=by simp[Ch]
theorem Jv {α:Type} {cs:α->List Value} {sz:Nat} (hs:∀x,(cs x).length=sz) (xs:List α):(Ch cs xs).length=xs.length*sz:=by
 induction xs with
 |nil=>simp[Ch]
 |cons x xs ih=>rw[H5,List.length_append,hs,ih,List.length_cons,uF];omega
theorem Oa {α:Type} {cs:α->List Value} {sz:Nat} (hs:∀x,(cs x).length=sz) {xs:List α} {k:Nat} {x:α} (h:xs[k]? =some x) {j:Nat} (hj:j<sz):(Ch cs xs)[k*sz+j]? =(cs x)[j]? :=by
 induction xs generalizing k with
 |nil=>simp at h
 |cons y ys ih=>
  cases k with
  |zero=>simp only[List.getElem?_cons_zero,vq] at h;subst h;rw[H5,wY (by rw[hs];omega)];simp
  |succ k=>
   rw[List.getElem?_cons_succ] at h;rw[H5,List.getElem?_append_right (by rw[hs,uF];omega),hs,<-ih h]
   congr 1
   rw[uF];omega
def SJ {α:Type} (sz:Nat) (cs:α->List Value) (w:World) (a:Option Addr) (xs:List α):Prop:=
 ∀(k:Nat) x,xs[k]? =some x->∃b ac,a=some ⟨b,ac,none⟩/\b<w.heap.size/\∀(j:Nat) u,(cs x)[j]? =some u->w.cell? ⟨b,ac+k*sz+j,none⟩=some u
theorem SJ.below {α:Type} {sz:Nat} {cs:α->List Value} {w w':World} {a:Option Addr} {xs:List α} (h:SJ sz cs w a xs) (hb:Below w.heap.size w w'):SJ sz cs w' a xs:=by
 intro k x hk;obtain⟨b,ac,rfl,ay,hc⟩:=h k x hk;exact⟨b,ac,rfl,xZ ay hb.size,fun j u hu=>(hb.cell (p:=⟨b,ac+k*sz+j,none⟩) ay).trans (hc j u hu)⟩
theorem SJ.of {α:Type} {sz:Nat} {cs:α->List Value} (hs:∀x,(cs x).length=sz) (a7:0<sz) {w:World} {a:Option Addr} {n c:Nat} {xs:List α} (h:Rd w (.slice a n c) sz xs.length (Ch cs xs)):SJ sz cs w a xs:=by
 obtain⟨a',ae,hv,bv,a5,hl,_,hc⟩:=h;simp only[Value.slice.injEq] at hv;obtain⟨rfl,rfl,rfl⟩:=hv;intro k x hk;have ay:=(yq.1 hk).1;obtain⟨b,ac,rfl,ar⟩:=hc (by omega);have cB:∀(j:Nat) u,(cs x)[j]? =some u->w.cell? ⟨b,ac+k*sz+j,none⟩=some u:=by
  intro j u hu;have hj:j<sz:=by rw[<-hs x];exact(yq.1 hu).1
  have hm:k*sz+sz<=xs.length*sz:=by rw[<-uF];exact Nat.mul_le_mul_right _ ay
  rw[Nat.add_assoc,ar (k*sz+j) (by omega),Oa hs hk hj,hu]
 refine⟨b,ac,rfl,?_,cB⟩;have h0:(cs x)[0]? =some ((cs x)[0]'(by rw[hs];omega)):=yx _;exact yC w _ (cB 0 _ h0)
theorem Rd.shape {w:World} {v:Value} {sz n:Nat} {xs:List Value} (h:Rd w v sz n xs):∃a ae,v= .slice a n ae/\n<=ae/\ae<=maxLen:=by obtain⟨a,ae,rfl,bv,a5,_⟩:=h;exact⟨a,ae,rfl,bv,a5⟩
def Lk (w:World) (g o:Nat):Nat->List Value->World
 |_,[]=>w
 |j,u::us=>Lk (w.setCell ⟨g,o+j,none⟩ u) g o (j+1) us
def Iw (xs:List Value) (o:Nat):Nat->List Value->List Value
 |_,[]=>xs
 |j,u::us=>Iw (xs.set (o+j) u) o (j+1) us
theorem Uk (A B C us:List Value) (j:Nat) (hB:B.length=us.length) (o:Nat) (ho:A.length=o+j):Iw (A++B++C) o j us=A++us++C:=by
 induction us generalizing A B j with
 |nil=>simp at hB;subst hB;simp[Iw]
 |cons u us ih=>
  cases B with
  |nil=>simp at hB
  |cons b B=>
   rw[Iw,<-ho];have e:(A++b::B++C).set A.length u=(A++[u])++B++C:=by simp[List.set_append_right]
   rw[e,ih (A++[u]) B (j+1) (by simpa using hB) (by simp;omega)];simp
theorem IX {w:World} {lo e sz g n:Nat} {xs:List Value} (h:w.ownsRow lo e sz (.slice (some ⟨g,0,none⟩) n ae) n xs) (o j:Nat) (us:List Value):
 (Lk w g o j us).ownsRow lo e sz (.slice (some ⟨g,0,none⟩) n ae) n (Iw xs o j us)/\w.grownBy (Lk w g o j us) (some g):=by
 induction us generalizing w xs j with
 |nil=>exact⟨h,⟨rfl,rfl,rfl,yv _,fun _ _ _=>rfl⟩⟩
 |cons u us ih=>obtain⟨s1,s2⟩:=wA h (o+j) u;obtain⟨t1,t2⟩:=ih s1 (j+1);exact⟨t1,⟨t2.os.trans s2.os,t2.tape.trans s2.tape,t2.output.trans s2.output,yD s2.size t2.size,fun b hb an=>(t2.block b (xZ hb s2.size) an).trans (s2.block b hb an)⟩⟩
theorem Cw {α:Type} {xs:List α} {x:α} (h:xs[k]? =some x):xs.take (k+1)=xs.take k++[x]:=by obtain⟨ay,rfl⟩:=yq.1 h;exact List.take_succ_eq_append_getElem ay
theorem UB {α:Type} {cs:α->List Value} {sz:Nat} (hs:∀x,(cs x).length=sz) {xs:List α} {k:Nat} (hk:k<xs.length) (y:α):Iw (Ch cs xs) (k*sz) 0 (cs y)=Ch cs (xs.set k y):=by
 have e1:xs=xs.take k++[xs[k]]++xs.drop (k+1):=by simp
 have e2:xs.set k y=xs.take k++[y]++xs.drop (k+1):=by rw[List.set_eq_take_append_cons_drop,if_pos hk];simp
 rw[e2]
 conv=>lhs;rw[e1]
 rw[Bl,Bl,Bl,Bl,El,El];exact Uk _ _ _ _ 0 (by rw[hs,hs]) _ (by rw[Jv hs,xW];congr 1;omega)
def IE (w:World) (lo e sz g n ae:Nat) (wr:World):Prop:=∃cs:List Value,wr.ownsRow lo e sz (.slice (some ⟨g,0,none⟩) n ae) n cs/\w.grownBy wr (some g)
theorem IE.set {w:World} {lo e sz g n:Nat} (h:IE w lo e sz g n ae wr) (j:Nat) (u:Value):IE w lo e sz g n ae (wr.setCell ⟨g,j,none⟩ u):=by
 obtain⟨cs,h1,h2⟩:=h;obtain⟨s1,s2⟩:=wA h1 j u;exact⟨_,s1,s2.os.trans h2.os,s2.tape.trans h2.tape,s2.output.trans h2.output,yD h2.size s2.size,fun b hb an=>(s2.block b (xZ hb h2.size) an).trans (h2.block b hb an)⟩
theorem IE.below {w w1:World} {lo e sz g n:Nat} (h:IE w lo e sz g n ae wr) (hb:Below wr.heap.size wr w1):IE w lo e sz g n ae w1:=by
 obtain⟨cs,h1,h2⟩:=h;exact⟨_,Co h1 hb,hb.os.trans h2.os,hb.tape.trans h2.tape,hb.output.trans h2.output,yD h2.size hb.size,fun b cE an=>(hb.block b (xZ cE h2.size)).trans (h2.block b cE an)⟩
theorem IE.cell {w:World} {lo e sz g n:Nat} (h:IE w lo e sz g n ae wr) (j:Nat) (hj:j<n*sz):∃u,wr.cell? ⟨g,j,none⟩=some u:=by obtain⟨cs,h1,h2⟩:=h;have hl:=h1.1;exact⟨_,(h1.cellAt j hj).trans (yx (by omega))⟩
theorem IE.frozen {w:World} {lo e sz g n:Nat} (h:IE w lo e sz g n ae wr) (j:Nat):wr.frozen? ⟨g,j,none⟩=false:=h.choose_spec.1.frozenAt j
theorem AD (w:World) (a:Obj):Below w.heap.size w (w.alloc a):=(yF _ _).alloc (yv _) _
theorem Gu (w:World) (a b:Obj):Below w.heap.size w ((w.alloc a).alloc b):=(AD w a).alloc (by simp) _
theorem YC (w:World) (a b c:Obj):Below w.heap.size w (((w.alloc a).alloc b).alloc c):=(Gu w a b).alloc (by simp;omega) _
theorem aC (w:World) (a b c d:Obj):Below w.heap.size w ((((w.alloc a).alloc b).alloc c).alloc d):=(YC w a b c).alloc (by simp;omega) _
theorem Zy {W w1:World} (hb:Below W.heap.size W w1):(∀b o,b<W.heap.size->w1.cell? ⟨b,o,none⟩=W.cell? ⟨b,o,none⟩)/\(∀b o,b<W.heap.size->w1.frozen? ⟨b,o,none⟩=W.frozen? ⟨b,o,none⟩):=
 ⟨fun b o h=>hb.cell (p:=⟨b,o,none⟩) h,fun b o h=>hb.frozen (p:=⟨b,o,none⟩) h⟩
theorem Be {lo:Nat} {w:World} {ops:Array Oper} {rest:List Oper} {o:Oper} {a:Act} {Q:Exit->Act->World->Prop} {s x:Operand} {t:TypeId}
 (bA:o.guard=none) (ho:o.op= .call {callee:= .builtin .append,args:= #[s,x],argTypes:= #[t,t]})
 (e:TypeId) (z:Value) (sz bytes:Nat) (ht:prog.underlying t=some (.slice e)) (hi:(prog.info? e).map (fun i=>(i.zero,i.size,i.bytes))=some (some z,sz,bytes))
 (cl:z.cells.size=sz) (a7:0<sz) {v u:Value} {n m:Nat} {xs news:List Value} (hs:a.eval s=v) (au:w.ownsRow lo e sz v n xs)
 (hx:a.eval x=u) (hr:Rd w u sz m news) (h1:∀u∈news,u.oneCell'=true) (cz:n+m<=maxLen) (a6:(n+m)*bytes<=140737488355328) (b8:lo<=w.heap.size)
 (hK:∀v' w',w'.ownsRow lo e sz v' (n+m) (xs++news)->w.grownBy w' v.ownBlock->(v'.ownBlock=v.ownBlock∨v'.ownBlock=some w.heap.size)->Below lo w w'->wpList prog ops Q rest (a.put o.dst v') w'):wpList prog ops Q (o::rest) a w:=by
 obtain⟨i0,bW,b6,b5,b4⟩:=info_parts hi;obtain⟨ao,c,rfl,cM,a5,hl,az,hc⟩:=hr;have bo:∀w',w.grownBy w' v.ownBlock->Below lo w w':=fun w' hg=>(yF lo w).grown hg b8 (fun k hk=>(au.lt k hk).1)
 cases ao with
 |none=>
  have cf:=az rfl;subst cf;obtain rfl:m=0:=by omega
  have bi:news=[]:=xT (by simpa using hl);subst bi;refine tr bA s x t ho lo e i0 sz ht bW v n xs hs au hx ?_;exact hK v w (by simpa using au) ⟨rfl,rfl,rfl,yv _,fun _ _ _=>rfl⟩ (.inl rfl) (yF _ _)
 |some ad=>
  refine wpList_append_own_at w bA s x t ho lo e i0 z sz bytes ht bW b6 b5 b4 cl a7 v n xs hs au ad m c news hx hl ?_ h1 cz a6 b8 (fun v' w' h2 h3 _ h5=>hK v' w' h2 h3 h5 (bo w' h3));intro j u hu
  rcases vP m with rfl|hm
  .simp at hl
   simp[hl] at hu
  .obtain⟨b,ac,cx,ar⟩:=hc hm
   obtain rfl:ad=⟨b,ac,none⟩:=by simpa using cx
   have hj:j<news.length:=(yq.1 hu).1;have bp:(⟨b,ac,none⟩:Addr).add j=⟨b,ac+j,none⟩:=by unfold tS;split<;>simp_all
   rw[bp,ar j (by omega),hu]
theorem Rd.zE (w:World) (cs:Array Value) (e:TypeId) (sz n g:Nat) (hg:g=w.heap.size) (hs:cs.size=n*sz) (hn:n<=maxLen):Rd (w.alloc (.cells cs e)) (.slice (some ⟨g,0,none⟩) n n) sz n cs.toList:=by subst hg;exact Rd.news w cs e sz n hs hn
theorem Au {lo e sz n:Nat} {w w':World} {v:Value} {xs:List Value} {row:Option Nat} (h:w.ownsRow lo e sz v n xs) (hg:w.grownBy w' row) (an:v.ownBlock=none∨v.ownBlock≠row):w'.ownsRow lo e sz v n xs:=vt h hg an
theorem BR {lo e sz n:Nat} {w:World} {v:Value} {xs:List Value} (h:w.ownsRow lo e sz v n xs) (hl:lo'<=lo):w.ownsRow lo' e sz v n xs:=by
 refine⟨h.1,?_⟩
 rcases h.2 with h'|⟨g,ae,a9,rfl,hb,rest⟩
 .exact .inl h'
 .exact .inr ⟨g,ae,a9,rfl,yD hl hb,rest⟩
theorem AO {w w' cA:World} {row:Option Nat} (h:w.grownBy w' row) (h':w'.grownBy cA row):w.grownBy cA row:=
 ⟨h'.os.trans h.os,h'.tape.trans h.tape,h'.output.trans h.output,yD h.size h'.size,fun b hb an=>(h'.block b (xZ hb h.size) an).trans (h.block b hb an)⟩
theorem AW {w w':World} (h:Below w.heap.size w w') (row:Option Nat):w.grownBy w' row:=⟨h.os,h.tape,h.output,h.size,fun b hb _=>h.block b hb⟩
def Fa (v1 v2:Value):Prop:=∀k,v1.ownBlock=some k->v2.ownBlock≠some k
theorem Fa.symm {v1 v2:Value} (h:Fa v1 v2):Fa v2 v1:=fun k h1 h2=>h k h2 h1
theorem Fa.ne {v1 v2:Value} (h:Fa v1 v2):v1.ownBlock=none∨v1.ownBlock≠v2.ownBlock:=by
 cases hv:v1.ownBlock with
 |none=>exact .inl rfl
 |some k=>exact .inr fun e=>h k hv e.symm
theorem Fa.grown {v v' u:Value} {B:Nat} (h:Fa v u) (hv:v'.ownBlock=v.ownBlock∨v'.ownBlock=some B) (hu:∀k,u.ownBlock=some k->k<B):Fa v' u:=by
 intro k hk cC
 rcases hv with e|e
 .exact h k (e▸hk) cC
 .rw[e] at hk
  cases hk;exact absurd (hu _ cC) (Nat.lt_irrefl _)
theorem mixed:prog.follows .mixedOrders=true:=by kernel_rfl
section
variable {P:Program}
def AV (l:List Oper) (i:Nat):Nat:=((l[i]?).bind (·.dst)).getD 0
def Al (l:List Oper) (is:List Nat) (vs:Nat->Value) (b:Array Value):Array Value:=is.foldl (fun b i=>b.setIfInBounds (AV l i) (vs i)) b
def IA (l:List Oper) (n:Nat):Bool:=
 decide (n<l.length)&&Region.sinkB .any l.toArray n&&Region.chainB .any l.toArray n&&
 ((yE n).all fun i=>match l[i]? with|some o=>o.dst.isSome|none=>false)&&
 ((yE n).all fun i=>(yE n).all fun j=>i==j||AV l i !=AV l j)&&
 Region.seqB .any l.toArray (l.length - n) n (Array.ofFn (n:=l.length) fun i=>decide (i.val<n))&&
 ((yE l.length).all fun j=>match l[j]? with|some o=>o.after.all fun e=>!uk .any e||decide (e.on<j)|none=>false)
def F8 (L:Nat->Bool) (i:Nat):Nat->Bool:=fun j=>if j=i then true else L j
theorem DQ {L:Nat->Bool} {i j:Nat} (h:F8 L i j=false):L j=false:=by
 unfold F8 at h
 split at h
 .cases h
 .exact h
def AX (P:Program) (l:List Oper) (o:Oper) (a:Act) (w:World) (K:Act->World->Prop) (Q:Exit->Act->World->Prop):Prop:=
 (xI o (yielded l.toArray a.tmps)=true->vE P o a w K Q)/\(xI o (yielded l.toArray a.tmps)=false->K (a.put o.dst undef) w)
theorem AX.of {P:Program} {l:List Oper} {o:Oper} {a:Act} {w:World} {K:Act->World->Prop} {Q:Exit->Act->World->Prop} (hg:o.guard=none) (h:vE P o a w K Q):AX P l o a w K Q:=
 ⟨fun _=>h,fun hw=>by simp[xI,hg] at hw⟩
theorem yG {P:Program} {l:List Oper} {o:Oper} {a:Act} {w:World} {K:Act->World->Prop} {Q:Exit->Act->World->Prop} (h:vE P o a w K Q) (hg:o.guard=none:=by rfl):AX P l o a w K Q:=AX.of hg h
theorem M5 {l:List Oper} {tmps:Array Value} {g:Nat} {b:Bool} (hd:(l[g]?).bind (·.dst)=some d) (hv:tmps[d]?.getD undef= .bool b):yielded l.toArray tmps g=some b:=by
 have h:(l.toArray[g]?).bind (·.dst)=some d:=by simpa using hd
 cases hx:tmps[d]? with
 |none=>rw[hx] at hv;simp[undef] at hv
 |some x=>rw[hx] at hv;simp at hv;subst hv;unfold yielded;rw[h,vB,hx]
theorem AX.yes {P:Program} {l:List Oper} {o:Oper} {a:Act} {w:World} {K:Act->World->Prop} {Q:Exit->Act->World->Prop} {g:Nat} {b:Bool} (hg:o.guard=some (g,b)) (hd:(l[g]?).bind (·.dst)=some d) (hv:a.tmps[d]?.getD undef= .bool b) (h:vE P o a w K Q):AX P l o a w K Q:=
 ⟨fun _=>h,fun hw=>by simp[xI,hg,M5 hd hv] at hw⟩
theorem AX.no {P:Program} {l:List Oper} {o:Oper} {a:Act} {w:World} {K:Act->World->Prop} {Q:Exit->Act->World->Prop} {g:Nat} {b:Bool} (hg:o.guard=some (g,b)) (hd:(l[g]?).bind (·.dst)=some d) (hv:a.tmps[d]?.getD undef= .bool (!b)) (h:K (a.put o.dst undef) w):AX P l o a w K Q:=
 ⟨fun hw=>by rw[xI,hg] at hw;simp only[M5 hd hv] at hw;cases b<;>simp at hw,fun _=>h⟩
theorem Bk {a:Act} {v:Value} (h:a.tmps[t]?.getD undef=v):a.eval (.tmp t)=v:=by
 show a.tmps.getD t undef=v
 rw[xo];exact h
theorem Cr {P:Program} {o:Oper} {a:Act} {w w':World} {K:Act->World->Prop} {Q:Exit->Act->World->Prop} {s x:Operand} {t:TypeId} (ho:o.op= .call {callee:= .builtin .append,args:= #[s,x],argTypes:= #[t,t]})
 {v u v':Value} (hs:a.eval s=v) (hx:a.eval x=u) (cn:(Builtin.append_ #[t,t] o.type #[v,u]).run P w= .ok v' w') (h:K (a.put o.dst v') w'):vE P o a w K Q:=by
 unfold vE execOp;simp only[ho,resolve,invoke,builtin,vM,Sem.run_pure,wD,List.map_toArray,List.map_cons,List.map_nil,hs,hx,cn];exact h
structure SU (l:List Oper) (n:Nat) (a0:Act) (R:Nat->Value->World->Prop) (G:(Nat->Bool)->World->Prop) (ab:Array Bool) (a:Act) (w:World):Prop where
 head:HeadInv .any l.toArray n ab
 defers:a.defers=a0.defers
 size:a.tmps.size=a0.tmps.size
 base:∀t,(∀i,i<n->AV l i≠t)->a.tmps[t]? =a0.tmps[t]?
 post:∀i,i<n->ab.getD i false=true->R i (a.tmps.getD (AV l i) undef) w
 glob:G (fun j=>ab.getD j false) w
theorem Eu {ab:Array Bool} {i:Nat} (h:i<ab.size) (d:Bool):(ab.setIfInBounds i true).getD i d=true:=by simp[h]
theorem SU.wpAny {l:List Oper} {n:Nat} {a0:Act} {R:Nat->Value->World->Prop} {G:(Nat->Bool)->World->Prop} {Q:Exit->Act->World->Prop}
 (hB:IA l n=true) (bX:∀i,i<n->AV l i<a0.tmps.size)
 (am:∀i,i<n->∀o,l[i]? =some o->∀a w,a.defers=a0.defers->a.tmps.size=a0.tmps.size->(∀t,(∀i,i<n->AV l i≠t)->a.tmps[t]? =a0.tmps[t]?)->
  (∀j,ym .any l.toArray i j=true->R j (a.tmps.getD (AV l j) undef) w)->∀L:Nat->Bool,L i=false->(∀j,ym .any l.toArray i j=true->L j=true)->(∀j j',L j=true->ym .any l.toArray j j'=true->L j'=true)->G L w->
  ∀K:Act->World->Prop,(∀v w',R i v w'->G (F8 L i) w'->(∀j u,j≠i->j<n->L j=true->R j u w->R j u w')->K (a.put o.dst v) w')->AX P l o a w K Q)
 (al:∀a w,a.defers=a0.defers->a.tmps.size=a0.tmps.size->(∀t,(∀i,i<n->AV l i≠t)->a.tmps[t]? =a0.tmps[t]?)->
  (∀i,i<n->R i (a.tmps.getD (AV l i) undef) w)->∀L:Nat->Bool,(∀i,i<n->L i=true)->G L w->wpList P l.toArray Q (l.drop n) a w):
 ∀(f:Nat) (ab:Array Bool) (a:Act) (w:World),f=(l.length - n)+((yE n).filter fun i=>!ab.getD i false).length->SU l n a0 R G ab a w->tI P .any l.toArray Q f ab a w:=by
 simp only[IA,yt,decide_eq_true_eq] at hB;obtain⟨⟨⟨⟨⟨⟨hn,hs⟩,hc⟩,hg⟩,bY⟩,cm⟩,a8⟩:=hB;have bA:∀i,i<n->∃o d,l[i]? =some o/\o.dst=some d/\AV l i=d:=by
  intro i hi;have:=yk.1 hg i (yj.2 hi);cases ho:l[i]? with
  |none=>rw[ho] at this;cases this
  |some o=>rw[ho] at this;simp only[vG] at this;obtain⟨d,h2⟩:=this;exact⟨o,d,rfl,h2,by simp[AV,ho,h2]⟩
 have an:∀i j,i<n->j<n->i≠j->AV l i≠AV l j:=by intro i j hi hj cb;have:=yk.1 (yk.1 bY i (yj.2 hi)) j (yj.2 hj);simpa[cb] using this
 have cL:n<l.toArray.size:=by simpa using hn
 intro f
 induction f with
 |zero=>intro ab a w hf _;omega
 |succ f ih=>
  intro ab a w hf ai
  by_cases av:∀i,i<n->ab.getD i false=true
  .have bw:ab=Array.ofFn (n:=l.length) fun i=>decide (i.val<n):=by
    have a7:ab.size=l.length:=by have:=ai.head.size;simpa using this
    apply Array.ext
    .simp[a7]
    .intro i h1 h2
     simp only[Array.getElem_ofFn]
     by_cases hi:i<n
     .have:=av i hi
      simp[h1] at this;simp[hi,this]
     .have:=ai.head.tail i (by omega) (by simpa[a7] using h1)
      simp[h1] at this;simp[hi,this]
   have h0:((yE n).filter fun i=>!ab.getD i false)=[]:=by rw[List.filter_eq_nil_iff];intro i hi;simp[av i (yj.1 hi)]
   have hT:=al a w ai.defers ai.size ai.base (fun i hi=>ai.post i hi (av i hi)) _ av ai.glob;have hW:=wpAny_of_seq (P:=P) (md:= .any) (ops:=l.toArray) (Q':=Q) (l.drop n) n ab a w (fun j=>by simp[List.getElem?_drop]) (by rw[bw];simpa using cm) hT;have e:(l.drop n).length=f+1:=by rw[h0] at hf;simp at hf ⊢;omega
   rw[e] at hW;exact hW
  .obtain⟨i0,bW⟩:=Classical.not_forall.1 av
   obtain⟨cd,ct⟩:=Classical.not_imp.1 bW;have cu:ab.getD i0 false=false:=by simpa using ct
   have a7:ab.size=l.length:=by have:=ai.head.size;simpa using this
   have cc:ab.getD i0 true=false:=getD_in (by omega) cu;refine⟨fun hr=>?_,fun i hi=>?_⟩
   .exfalso
    have:∀k,k<=l.length->∀i,i<k->i<n->ab.getD i true=false->False:=by
     intro k
     induction k with
     |zero=>intro _ i hi;omega
     |succ k ihk=>
      intro hk i cO br bq;have co:i∉uj .any l.toArray ab:=by rw[hr];simp
      obtain⟨o,d,ho,_,_⟩:=bA i br;apply co;rw[ut];refine⟨bq,o,by simpa using ho,fun e he hb=>?_⟩;have ay:e.on<i:=by have:=yk.1 a8 i (yj.2 (by omega));rw[ho] at this;simpa[hb] using vJ.1 this e he
      cases hx:ab.getD e.on false with
      |true=>rfl
      |false=>exact(ihk (by omega) e.on (by omega) (by omega) (getD_in (by omega) hx)).elim
    exact this l.length (yv _) i0 (by omega) cd cc
   .have br:i<n:=by
     rcases tX i n with h|h
     .exact h
     .exact absurd hi (tail_waits hs hc cL ai.head _ i0 rfl cd cc i h)
    obtain⟨o,d,ho,ch,cj⟩:=bA i br;obtain⟨bq,o',bz,bn⟩:=ut.1 hi;obtain rfl:o'=o:=by
     have:l[i]? =some o':=by simpa using bz
     rw[ho] at this;exact(yH this).symm
    have ce:∀j,ym .any l.toArray i j=true->R j (a.tmps.getD (AV l j) undef) w:=by
     intro j hj;obtain⟨oj,be,e,he,hb,rfl⟩:=wW hj;obtain rfl:oj=o':=yH (be.symm.trans bz);have ay:e.on<i:=by have:=yk.1 a8 i (yj.2 (by omega));rw[ho] at this;simpa[hb] using vJ.1 this e he
     exact ai.post e.on (by omega) (bn e he hb)
    unfold Go.wpOp;rw[bz];have bD:∀j,ym .any l.toArray i j=true->ab.getD j false=true:=by intro j hj;obtain⟨oj,be,e,he,hb,rfl⟩:=wW hj;obtain rfl:oj=o':=yH (be.symm.trans bz);exact bn e he hb
    suffices H:∀K:Act->World->Prop,(∀v w',R i v w'->G (F8 (fun j=>ab.getD j false) i) w'->(∀j u,j≠i->j<n->ab.getD j false=true->R j u w->R j u w')->K (a.put o'.dst v) w')->AX P l o' a w K Q by
     have hK:=H (tI P .any l.toArray Q f (ab.setIfInBounds i true)) ?_
     .cases bt:xI o' (yielded l.toArray a.tmps) with
      |true=>dsimp only;rw[bt,if_pos rfl];exact .inl (hK.1 bt)
      |false=>dsimp only;rw[bt,if_neg tH];exact hK.2 bt
     .intro v w' hR cy bk
      have a4:f=(l.length - n)+((yE n).filter fun k=>!(ab.setIfInBounds i true).getD k false).length:=by
       have cK:((yE n).filter fun k=>!ab.getD k false).length=((yE n).filter fun k=>!(ab.setIfInBounds i true).getD k false).length+1:=by
        have bj:i∈(yE n).filter fun k=>!ab.getD k false:=by rw[wX];exact⟨yj.2 br,by simp[tG bq]⟩
        have cq:((yE n).filter fun k=>!ab.getD k false).Nodup:=tp.filter _;have he:((yE n).filter fun k=>!(ab.setIfInBounds i true).getD k false)=((yE n).filter fun k=>!ab.getD k false).erase i:=by
         rw[cq.erase_eq_filter,tF];refine tq fun k hk=>?_
         by_cases bK:k=i
         .subst bK
          simp[Eu (show k<ab.size by omega)]
         .rw[wC false (wH bK)]
          simp[bK]
        rw[he,ui bj];have:=vp bj;omega
       omega
      refine ih _ _ _ a4 ⟨ai.head.set hi br,?_,?_,?_,?_,?_⟩
      .rw[ch];exact ai.defers
      .rw[ch];simpa[vN] using ai.size
      .intro t ht
       rw[ch];simp only[vN];rw[xL (by rw[<-cj];exact ht i br)];exact ai.base t ht
      .intro j hj bV
       rw[ch];simp only[vN]
       by_cases ax:j=i
       .subst ax
        rw[cj];have:d<a.tmps.size:=by rw[<-cj,ai.size];exact bX j hj
        simpa[this] using hR
       .have bl:ab.getD j false=true:=by rwa [wC false (wH ax)] at bV
        have h1:=bk j _ ax hj bl (ai.post j hj bl);have e:(a.tmps.setIfInBounds d v).getD (AV l j) undef=a.tmps.getD (AV l j) undef:=by
         have:d≠AV l j:=by rw[<-cj];exact an i j br hj (wH ax)
         simp only[xo];rw[xL this]
        rw[e];exact h1
      .have eL:(fun j=>(ab.setIfInBounds i true).getD j false)=F8 (fun j=>ab.getD j false) i:=by
        funext j
        unfold F8
        by_cases ax:j=i
        .subst ax
         rw[if_pos rfl,Eu (by omega)]
        .rw[if_neg ax,wC false (wH ax)]
       rw[eL];exact cy
    have bZ:∀j j',ab.getD j false=true->ym .any l.toArray j j'=true->ab.getD j' false=true:=by intro j j' hj hw;obtain⟨oj,be,e,he,hb,rfl⟩:=wW hw;exact ai.head.closed j oj be hj e he hb
    exact fun K hK=>am i br o' ho a w ai.defers ai.size ai.base ce _ (tG bq) bD bZ ai.glob K hK
theorem RA (l:List Oper):∀(is:List Nat) (b c:Array Value),c.size=b.size->(∀t,(∀i,i∈is->AV l i≠t)->c[t]? =b[t]?)->
 c=Al l is (fun i=>c.getD (AV l i) undef) b:=by
 intro is
 induction is with
 |nil=>intro b c hs h;exact tO fun t=>h t (fun i hi=>by cases hi)
 |cons i is ih=>
  intro b c hs h
  show c=Al l is _ (b.setIfInBounds (AV l i) (c.getD (AV l i) undef))
  refine ih _ c (by simpa using hs) fun t ht=>?_
  by_cases bB:AV l i=t
  .subst bB
   rcases tX (AV l i) c.size with h'|h'
   .have:AV l i<b.size:=by omega
    simp[h',this]
   .have:b.size<=AV l i:=by omega
    simp[h',this]
  .rw[xL bB]
   exact h t fun j hj=>by
    rcases xm.1 hj with rfl|hj
    .exact bB
    .exact ht j hj
def VL (l:List Oper) (n N:Nat):Bool:=(yE n).all fun i=>decide (AV l i<N)
theorem Fj {Q:Exit->Act->World->Prop} {a0:Act} {l:List Oper} (n:Nat) (hm:P.follows .mixedOrders=true) (hB:IA l n=true)
 (N:Nat) (hN:a0.tmps.size=N) (hD:VL l n N=true) (R:Nat->Value->World->Prop) (G:(Nat->Bool)->World->Prop) (hG:G (fun _=>false) {w0 with drawn:=w0.drawn+1})
 (am:∀i,i<n->∀o,l[i]? =some o->∀a w,Hid (a.defers=a0.defers/\a.tmps.size=a0.tmps.size/\∀t,(∀i,i<n->AV l i≠t)->a.tmps[t]? =a0.tmps[t]?)->
  Hid (∀j,ym .any l.toArray i j=true->R j (a.tmps[AV l j]?.getD undef) w)->∀L:Nat->Bool,Hid (L i=false/\(∀j,ym .any l.toArray i j=true->L j=true)/\∀j j',L j=true->ym .any l.toArray j j'=true->L j'=true)->G L w->
  ∀K:Act->World->Prop,Hid (∀v w',R i v w'->G (F8 L i) w'->(∀j u,j≠i->j<n->L j=true->R j u w->R j u w')->K (a.put o.dst v) w')->AX P l o a w K Q)
 (al:∀(vs:Nat->Value) w,(∀i,i<n->R i (vs i) w)->∀L:Nat->Bool,(∀i,i<n->L i=true)->G L w->wpList P l.toArray Q (l.drop n) {a0 with tmps:=Al l (yE n) vs a0.tmps} w):
 (vD id l.toArray true).wp P Q a0 w0:=by
 have bX:∀i,i<n->AV l i<a0.tmps.size:=fun i hi=>by have:=yk.1 hD i (yj.2 hi);rw[hN];simpa using this
 refine wp_region_any hm ?_;refine SU.wpAny (a0:=a0) (R:=R) (G:=G) hB bX (fun i hi o ho a w h1 h2 h3 h4 L h6 h7 h8 h5 K hK=>am i hi o ho a w (AA ⟨h1,h2,h3⟩) (AA fun j hj=>by have:=h4 j hj;rwa [xo] at this) L (AA ⟨h6,h7,h8⟩) h5 K (AA hK)) (fun a w h1 h2 h3 h4 L h6 h5=>?_) _ _ _ _ ?_ ⟨⟨by simp,fun j oj _ hl=>(by rw[xM] at hl;cases hl),fun t _ ht=>getD_in (by simpa using ht) (xM _ _)⟩,rfl,rfl,fun _ _=>rfl,fun i _ hl=>(by rw[xM] at hl;cases hl),(show G (fun j=>(wJ l.toArray.size false).getD j false) _ from(funext fun j=>xM _ _:(fun j=>(wJ l.toArray.size false).getD j false)=fun _=>false)▸hG)⟩
 .have e:=RA l (yE n) a0.tmps a.tmps h2 (fun t ht=>h3 t fun i hi=>ht i (yj.2 hi))
  have:=al (fun i=>a.tmps.getD (AV l i) undef) w h4 L h6 h5;rw[<-e] at this;obtain⟨tm,df⟩:=a;dsimp only at h1 this;subst h1;exact this
 .have hn:n<l.length:=by
   simp only[IA,yt,decide_eq_true_eq] at hB;exact hB.1.1.1.1.1.1
  have:((yE n).filter fun i=>!(wJ l.toArray.size false).getD i false)=yE n:=by rw[uL];intro i _;rw[xM];rfl
  rw[this];simp;omega
end
section
variable {P:Program} {l:List Oper} {i:Nat} {o o':Oper} {a a0:Act} {w:World} {K:Act->World->Prop} {Q:Exit->Act->World->Prop} {R:Value->World->Prop} {x y z:Operand} {v u:Value}
def aj (l:List Oper) (o:Oper) (a:Act):Prop:=xI o (yielded l.toArray a.tmps)=true
theorem gn (h:o.guard=none):aj l o a:=by simp[aj,xI,h]
theorem et (h:a.tmps[t]?.getD undef=v):a.eval (.tmp t)=v:=Bk h
theorem eb (h:a.tmps[t]? =a0.tmps[t]?):a.eval (.tmp t)=a0.tmps[t]?.getD undef:=Bk (by rw[h])
theorem eg (h:a.tmps[t]? =a0.tmps[t]?):a.tmps[t]?.getD undef=a0.tmps[t]?.getD undef:=by rw[h]
theorem bc {B b ac:Nat} (hG:Below B w0 w) (ay:b<B) (h:w0.cell? ⟨b,ac,none⟩=some v):w.cell? ⟨b,ac,none⟩=some v:=(hG.cell (p:=⟨b,ac,none⟩) ay).trans h
theorem dV (ho:l[i]? =some o) (e:l[i]? =some o') (hw:aj l o' a) (HK:Hid (∀v w',R v w'->Below w.heap.size w w'->K (a.put o.dst v) w')) (hr:(execOp a.eval o').run P w= .ok (.value v) w) (hR:R v w):AX P l o a w K Q:=by
 obtain rfl:=yH (ho.symm.trans e);exact⟨fun _=>by unfold vE;rw[hr];exact HK.out _ _ hR (yF _ _),fun h=>by rw[show xI o (yielded l.toArray a.tmps)=true from hw] at h;cases h⟩
theorem dF {s f b ac:Nat} (ho:l[i]? =some o) (e:l[i]? =some o') (hw:aj l o' a) (HK:Hid (∀v w',R v w'->Below w.heap.size w w'->K (a.put o.dst v) w')) (bh:o'.op= .fieldAddr s x f) (hf:∀b ac w,(vC s (.pointer (some ⟨b,ac,none⟩)) f).run P w= .ok (.pointer (some ⟨b,ac+k,none⟩)) w) (hx:a.eval x= .pointer (some ⟨b,ac,none⟩)) (hR:R (.pointer (some ⟨b,ac+k,none⟩)) w):AX P l o a w K Q:=
 dV ho e hw HK (by unfold execOp;rw[bh];simp only[hx,vM,hf,wD];rfl) hR
theorem dL {p:Addr} (ho:l[i]? =some o) (e:l[i]? =some o') (hw:aj l o' a) (HK:Hid (∀v w',R v w'->Below w.heap.size w w'->K (a.put o.dst v) w')) (bh:o'.op= .load t x) (hx:a.eval x= .pointer (some p)) (hl:(xJ t (.pointer (some p))).run P w= .ok v w) (hR:R v w):AX P l o a w K Q:=
 dV ho e hw HK (by unfold execOp;rw[bh];simp only[hx,vM,hl,wD];rfl) hR
end
section
variable {b ac:Nat} {w:World} {v0 v1 v2 v3 v4 v5 v6 v7 v8 v9:Value}
theorem YM:∀b ac w,(vC 32 (.pointer (some ⟨b,ac,none⟩)) 0).run prog w= .ok (.pointer (some ⟨b,ac+0,none⟩)) w:=fun b ac w=>by go_simp
theorem aE:∀b ac w,(vC 32 (.pointer (some ⟨b,ac,none⟩)) 1).run prog w= .ok (.pointer (some ⟨b,ac+4,none⟩)) w:=fun b ac w=>by go_simp
theorem aF:∀b ac w,(vC 32 (.pointer (some ⟨b,ac,none⟩)) 2).run prog w= .ok (.pointer (some ⟨b,ac+5,none⟩)) w:=fun b ac w=>by go_simp
theorem aG:∀b ac w,(vC 32 (.pointer (some ⟨b,ac,none⟩)) 3).run prog w= .ok (.pointer (some ⟨b,ac+6,none⟩)) w:=fun b ac w=>by go_simp
theorem Fo (h:w.cell? ⟨b,ac,none⟩=some v0):(xJ 3 (.pointer (some ⟨b,ac,none⟩))).run prog w= .ok v0 w:=by go_simp
theorem Yf (h:w.cell? ⟨b,ac,none⟩=some v0):(xJ 9 (.pointer (some ⟨b,ac,none⟩))).run prog w= .ok v0 w:=by go_simp
theorem GM (h:w.cell? ⟨b,ac,none⟩=some v0):(xJ 23 (.pointer (some ⟨b,ac,none⟩))).run prog w= .ok v0 w:=by go_simp
theorem GF (h:w.cell? ⟨b,ac,none⟩=some v0):(xJ 24 (.pointer (some ⟨b,ac,none⟩))).run prog w= .ok v0 w:=by go_simp
theorem NX (h:w.cell? ⟨b,ac,none⟩=some v0):(xJ 25 (.pointer (some ⟨b,ac,none⟩))).run prog w= .ok v0 w:=by go_simp
theorem Zc (h:w.cell? ⟨b,ac,none⟩=some v0):(xJ 26 (.pointer (some ⟨b,ac,none⟩))).run prog w= .ok v0 w:=by go_simp
theorem NZ (h0:w.cell? ⟨b,ac,none⟩=some v0) (h1:w.cell? ⟨b,ac+1,none⟩=some v1) (h2:w.cell? ⟨b,ac+2,none⟩=some v2) (h3:w.cell? ⟨b,ac+3,none⟩=some v3):(xJ 28 (.pointer (some ⟨b,ac,none⟩))).run prog w= .ok (.agg #[v0,v1,v2,v3]) w:=by go_simp
theorem Jx (h:w.cell? ⟨b,ac,none⟩=some v0):(xJ 29 (.pointer (some ⟨b,ac,none⟩))).run prog w= .ok v0 w:=by go_simp
theorem Zd (h:w.cell? ⟨b,ac,none⟩=some v0):(xJ 30 (.pointer (some ⟨b,ac,none⟩))).run prog w= .ok v0 w:=by go_simp
theorem Vn (h0:w.cell? ⟨b,ac,none⟩=some v0) (h1:w.cell? ⟨b,ac+1,none⟩=some v1) (h2:w.cell? ⟨b,ac+2,none⟩=some v2) (h3:w.cell? ⟨b,ac+3,none⟩=some v3) (h4:w.cell? ⟨b,ac+4,none⟩=some v4) (h5:w.cell? ⟨b,ac+5,none⟩=some v5) (h6:w.cell? ⟨b,ac+6,none⟩=some v6) (h7:w.cell? ⟨b,ac+7,none⟩=some v7) (h8:w.cell? ⟨b,ac+8,none⟩=some v8):(xJ 32 (.pointer (some ⟨b,ac,none⟩))).run prog w= .ok (.agg #[v0,v1,v2,v3,v4,v5,v6,v7,v8]) w:=by go_simp
theorem bS (h0:w.cell? ⟨b,ac,none⟩=some v0) (h1:w.cell? ⟨b,ac+1,none⟩=some v1) (h2:w.cell? ⟨b,ac+2,none⟩=some v2):(xJ 40 (.pointer (some ⟨b,ac,none⟩))).run prog w= .ok (.agg #[v0,v1,v2]) w:=by go_simp
theorem K9 (h:w.cell? ⟨b,ac,none⟩=some v0):(xJ 60 (.pointer (some ⟨b,ac,none⟩))).run prog w= .ok v0 w:=by go_simp
theorem aw (h0:w.cell? ⟨b,ac,none⟩=some v0) (h1:w.cell? ⟨b,ac+1,none⟩=some v1) (h2:w.cell? ⟨b,ac+2,none⟩=some v2) (h3:w.cell? ⟨b,ac+3,none⟩=some v3) (h4:w.cell? ⟨b,ac+4,none⟩=some v4) (h5:w.cell? ⟨b,ac+5,none⟩=some v5):(xJ 79 (.pointer (some ⟨b,ac,none⟩))).run prog w= .ok (.agg #[v0,v1,v2,v3,v4,v5]) w:=by go_simp
theorem Yg (h0:w.cell? ⟨b,ac,none⟩=some v0) (h1:w.cell? ⟨b,ac+1,none⟩=some v1) (h2:w.cell? ⟨b,ac+2,none⟩=some v2) (h3:w.cell? ⟨b,ac+3,none⟩=some v3):(xJ 98 (.pointer (some ⟨b,ac,none⟩))).run prog w= .ok (.agg #[v0,v1,v2,v3]) w:=by go_simp
theorem UW (h:w.cell? ⟨b,ac,none⟩=some v0):(xJ 140 (.pointer (some ⟨b,ac,none⟩))).run prog w= .ok v0 w:=by go_simp
end
section
variable {P:Program}
theorem LS {Q:Exit->Act->World->Prop} {a0:Act} {l:List Oper} (n:Nat) (hm:P.follows .mixedOrders=true) (hB:IA l n=true)
 (N:Nat) (hN:a0.tmps.size=N) (hD:VL l n N=true) (R:Nat->Value->World->Prop) (aq:∀i,i<n->∀v w w',Below w.heap.size w w'->R i v w->R i v w')
 (am:∀i,i<n->∀o,l[i]? =some o->∀a w,Hid (a.defers=a0.defers/\a.tmps.size=a0.tmps.size/\∀t,(∀i,i<n->AV l i≠t)->a.tmps[t]? =a0.tmps[t]?)->
  Hid (∀j,ym .any l.toArray i j=true->R j (a.tmps[AV l j]?.getD undef) w)->Below w0.heap.size w0 w->
  ∀K:Act->World->Prop,Hid (∀v w',R i v w'->Below w.heap.size w w'->K (a.put o.dst v) w')->AX P l o a w K Q)
 (al:∀(vs:Nat->Value) w,(∀i,i<n->R i (vs i) w)->Below w0.heap.size w0 w->wpList P l.toArray Q (l.drop n) {a0 with tmps:=Al l (yE n) vs a0.tmps} w):
 (vD id l.toArray true).wp P Q a0 w0:=by
 refine Fj n hm hB N hN hD R (fun _ w=>Below w0.heap.size w0 w) ⟨rfl,rfl,rfl,yv _,fun _ _=>rfl⟩ ?_ (fun vs w h1 _ _ h2=>al vs w h1 h2);intro i hi o ho a w Hb Hd L HL hG K HK;exact am i hi o ho a w Hb Hd hG K (AA fun v w' h1 h2=>HK.out v w' h1 (hG.trans ⟨h2.os,h2.tape,h2.output,h2.size,fun k hk=>h2.block k (xZ hk hG.size)⟩) (fun j u _ hj _ h=>aq j hj u w w' h2 h))
end
def A2 (x:AU):List Value:=[.int .i64 x.k, .string x.g, .int .i64 x.r]
theorem Az (x:AU):(A2 x).length=3:=rfl
def AU.val (x:AU):Value:= .agg #[.int .i64 x.k, .string x.g, .int .i64 x.r]
def Ae (x:Ak):List Value:=[.int .i64 x.e, .int .i64 x.p, .int .i64 x.f, .bool x.w]
theorem Cg (x:Ak):(Ae x).length=4:=rfl
def Ak.val (x:Ak):Value:= .agg #[.int .i64 x.e, .int .i64 x.p, .int .i64 x.f, .bool x.w]
def BB (s:ByteArray):List Value:=[.string s]
theorem Gp (s:ByteArray):(BB s).length=1:=rfl
def F3 (v:Value):List Value:=[v]
theorem D8 (v:Value):(F3 v).length=1:=rfl
def EX (p:Value×Int):List Value:=[p.1, .int .i64 p.2]
theorem FW (p:Value×Int):(EX p).length=2:=rfl
def BJ {α:Type} (sz:Nat) (cs:α->List Value) (w:World) (v:Value) (xs:List α):Prop:=Rd w v sz xs.length (Ch cs xs)
def AP {α:Type} (lo e sz:Nat) (cs:α->List Value) (w:World) (v:Value) (xs:List α):Prop:=w.ownsRow lo e sz v xs.length (Ch cs xs)
section
variable {α:Type} {sz lo e:Nat} {cs:α->List Value} {w w':World} {v:Value} {xs:List α}
theorem BJ.below (h:BJ sz cs w v xs) (hb:Below w.heap.size w w'):BJ sz cs w' v xs:=Rd.below h hb
theorem AP.rd (h:AP lo e sz cs w v xs):BJ sz cs w v xs:=Rd.of_owns h
theorem AP.below (h:AP lo e sz cs w v xs) (hb:Below w.heap.size w w'):AP lo e sz cs w' v xs:=Co h hb
theorem AP.grown {row:Option Nat} (h:AP lo e sz cs w v xs) (hg:w.grownBy w' row) (an:v.ownBlock=none∨v.ownBlock≠row):AP lo e sz cs w' v xs:=Au h hg an
theorem AP.lower (h:AP lo e sz cs w v xs) (hl:lo'<=lo):AP lo' e sz cs w v xs:=BR h hl
theorem BJ.shape (h:BJ sz cs w v xs):∃a ae,v= .slice a xs.length ae/\xs.length<=ae/\ae<=maxLen:=Rd.shape h
theorem BJ.open (hs:∀x,(cs x).length=sz) (a7:0<sz) (h:BJ sz cs w v xs):∃a ae,v= .slice a xs.length ae/\xs.length<=ae/\ae<=maxLen/\SJ sz cs w a xs:=by obtain⟨a,ae,rfl,h1,h2⟩:=Rd.shape h;exact⟨a,ae,rfl,h1,h2,SJ.of hs a7 h⟩
end
abbrev BU (w:World) (v:Value) (xs:List AU):Prop:=BJ 3 A2 w v xs
abbrev Dt (w:World) (v:Value) (xs:List Ak):Prop:=BJ 4 Ae w v xs
abbrev BP (w:World) (v:Value) (xs:List ByteArray):Prop:=BJ 1 BB w v xs
def Fb {α β:Type} (R:α->β->Prop) (xs:List α) (ys:List β):Prop:=xs.length=ys.length/\∀(i:Nat) x y,xs[i]? =some x->ys[i]? =some y->R x y
theorem Fb.mono {α β:Type} {R S:α->β->Prop} {xs:List α} {ys:List β} (h:Fb R xs ys) (cS:∀x y,R x y->S x y):Fb S xs ys:=⟨h.1,fun i x y hx hy=>cS _ _ (h.2 i x y hx hy)⟩
theorem Fb.nil {α β:Type} {R:α->β->Prop}:Fb R [] []:=⟨rfl,fun i x y h=>by simp at h⟩
theorem Fb.snoc {α β:Type} {R:α->β->Prop} {xs:List α} {ys:List β} {x:α} {y:β} (h:Fb R xs ys) (cI:R x y):Fb R (xs++[x]) (ys++[y]):=by
 refine⟨by simp[h.1],fun i a b ha hb=>?_⟩
 by_cases hi:i<xs.length
 .rw[wY hi] at ha
  rw[wY (by rw[<-h.1];exact hi)] at hb;exact h.2 i a b ha hb
 .have h1:=(yq.1 ha).1
  simp at h1;obtain rfl:i=xs.length:=by omega
  simp at ha;rw[h.1] at hb;simp at hb;subst ha hb;exact cI
def Bc (w:World) (v:Value) (a3:List (List Int)):Prop:=∃vs,BJ 1 F3 w v vs/\Fb (Ax w) vs a3
def LV (w:World) (v:Value) (cg:List (List ByteArray)):Prop:=∃vs,BJ 1 F3 w v vs/\Fb (BP w) vs cg
def Fk (w:World) (v:Value) (es:List EN):Prop:=∃ps,BJ 2 EX w v ps/\Fb (fun p e=>BP w p.1 e.zV/\p.2=e.root) ps es
def MM (w:World) (m i e c:Value) (k:AN):Prop:=Bc w m k.mem/\BU w i k.Os/\Fk w e k.zZ/\Dt w c k.zY
section
variable {w w':World} {v:Value}
theorem Bc.below (h:Bc w v a3) (hb:Below w.heap.size w w'):Bc w' v a3:=by
 obtain⟨vs,h1,h2⟩:=h;exact⟨vs,h1.below hb,h2.mono fun _ _ h=>Ax.below h hb⟩
theorem LV.below {cg:List (List ByteArray)} (h:LV w v cg) (hb:Below w.heap.size w w'):LV w' v cg:=by
 obtain⟨vs,h1,h2⟩:=h;exact⟨vs,h1.below hb,h2.mono fun _ _ h=>BJ.below h hb⟩
theorem Fk.below {es:List EN} (h:Fk w v es) (hb:Below w.heap.size w w'):Fk w' v es:=by
 obtain⟨ps,h1,h2⟩:=h;exact⟨ps,h1.below hb,h2.mono fun _ _ h=>⟨BJ.below h.1 hb,h.2⟩⟩
theorem MM.below {i e:Value} {k:AN} (h:MM w m i e c k) (hb:Below w.heap.size w w'):MM w' m i e c k:=⟨h.1.below hb,h.2.1.below hb,h.2.2.1.below hb,h.2.2.2.below hb⟩
end
def DF (vs:List Value):Prop:=∀(i j:Nat) u u',i≠j->vs[i]? =some u->vs[j]? =some u'->Fa u u'
theorem DF.nil:DF []:=fun i j u u' _ h=>by simp at h
theorem DF.snoc {vs:List Value} {v:Value} (h:DF vs) (hv:∀u∈vs,Fa u v):DF (vs++[v]):=by
 intro i j u u' cb hi hj;have h1:=(yq.1 hi).1;have h2:=(yq.1 hj).1;simp at h1 h2
 by_cases cP:i<vs.length
 .rw[wY cP] at hi
  by_cases ci:j<vs.length
  .rw[wY ci] at hj
   exact h i j u u' cb hi hj
  .obtain rfl:j=vs.length:=by omega
   simp at hj;subst hj;exact hv u (yg hi)
 .obtain rfl:i=vs.length:=by omega
  simp at hi;subst hi;rw[wY (by omega)] at hj;exact(hv u' (yg hj)).symm
def At (lo:Nat) (w:World) (v:Value) (vs:List Value) (a3:List (List Int)):Prop:=AP lo 29 1 F3 w v vs/\Fb (AG lo w) vs a3/\DF vs
def DA (lo:Nat) (w:World) (v:Value) (ps:List (Value×Int)) (es:List EN):Prop:=AP lo 62 2 EX w v ps/\Fb (fun p e=>AP lo 9 1 BB w p.1 e.zV/\p.2=e.root) ps es/\DF (ps.map (·.1))
theorem At.rd {lo:Nat} {w:World} {v:Value} (h:At lo w v vs a3):Bc w v a3:=⟨vs,h.1.rd,h.2.1.mono fun _ _ h=>AG.rd h⟩
theorem DA.rd {lo:Nat} {w:World} {v:Value} {ps:List (Value×Int)} {es:List EN} (h:DA lo w v ps es):Fk w v es:=⟨ps,h.1.rd,h.2.1.mono fun _ _ h=>⟨h.1.rd,h.2⟩⟩
theorem At.below {lo:Nat} {w w':World} {v:Value} (h:At lo w v vs a3) (hb:Below w.heap.size w w'):At lo w' v vs a3:=⟨h.1.below hb,h.2.1.mono fun _ _ h=>AG.below h hb,h.2.2⟩
theorem DA.below {lo:Nat} {w w':World} {v:Value} {ps:List (Value×Int)} {es:List EN} (h:DA lo w v ps es) (hb:Below w.heap.size w w'):DA lo w' v ps es:=⟨h.1.below hb,h.2.1.mono fun _ _ h=>⟨h.1.below hb,h.2⟩,h.2.2⟩
theorem At.lower {lo:Nat} {w:World} {v:Value} (h:At lo w v vs a3) (hl:lo'<=lo):At lo' w v vs a3:=⟨h.1.lower hl,h.2.1.mono fun _ _ h=>BR h hl,h.2.2⟩
theorem DA.lower {lo:Nat} {w:World} {v:Value} {ps:List (Value×Int)} {es:List EN} (h:DA lo w v ps es) (hl:lo'<=lo):DA lo' w v ps es:=⟨h.1.lower hl,h.2.1.mono fun _ _ h=>⟨h.1.lower hl,h.2⟩,h.2.2⟩
theorem By {α:Type} (cs:α->List Value) (w:World) (e sz:Nat):AP w.heap.size e sz cs (w.alloc (.cells #[] e)) (.slice (some ⟨w.heap.size,0,none⟩) 0 0) []:=Cp w e sz
def DO (lo:Nat) (w:World) (m i e c:Value) (k:AN):Prop:=
 (∃vs,At lo w m vs k.mem)/\AP lo 93 3 A2 w i k.Os/\(∃ps,DA lo w e ps k.zZ)/\AP lo 98 4 Ae w c k.zY
theorem DO.rd {lo:Nat} {w:World} {i e:Value} {k:AN} (h:DO lo w m i e c k):MM w m i e c k:=⟨h.1.choose_spec.rd,h.2.1.rd,h.2.2.1.choose_spec.rd,h.2.2.2.rd⟩
theorem DO.below {lo:Nat} {w w':World} {i e:Value} {k:AN} (h:DO lo w m i e c k) (hb:Below w.heap.size w w'):DO lo w' m i e c k:=
 ⟨⟨_,h.1.choose_spec.below hb⟩,h.2.1.below hb,⟨_,h.2.2.1.choose_spec.below hb⟩,h.2.2.2.below hb⟩
theorem A6 {w:World} {lo e sz n:Nat} {v:Value} {xs:List Value} (h:w.ownsRow lo e sz v n xs):∀g,v.ownBlock=some g->∃a9,w.heap[g]? =some (.cells a9 e (0,0)):=by
 intro g hg
 rcases h.2 with⟨rfl,_⟩|⟨g',ae,a9,rfl,_,hh,_⟩
 .simp[uQ] at hg
 .simp[uQ] at hg
  subst hg;exact⟨a9,hh⟩
theorem A7 {w:World} {lo e e' sz cG n n':Nat} {v v':Value} {xs cF:List Value} (h:w.ownsRow lo e sz v n xs) (h':w.ownsRow lo' e' cG v' n' cF) (an:e≠e'):Fa v v':=by intro g hg cQ;obtain⟨c1,h1⟩:=A6 h g hg;obtain⟨c2,h2⟩:=A6 h' g cQ;rw[h1] at h2;simp at h2;exact an h2.2
theorem AF {w:World} {g:Nat} {i e:Value} (h:w.heap[g]? =some (.cells #[m,i,e,c] t (0,0))):w.cell? ⟨g,0,none⟩=some m/\w.cell? ⟨g,1,none⟩=some i/\w.cell? ⟨g,2,none⟩=some e/\w.cell? ⟨g,3,none⟩=some c:=
 ⟨yi w g 0 _ _ _ h,yi w g 1 _ _ _ h,yi w g 2 _ _ _ h,yi w g 3 _ _ _ h⟩
theorem AK {w:World} {g:Nat} {cs:Array Value} (h:w.heap[g]? =some (.cells cs t (0,0))):∀j,w.frozen? ⟨g,j,none⟩=false:=fun j=>frozen_of_row w g j _ _ h
theorem AY {w:World} {g:Nat} {o:Obj} (h:w.heap[g]? =some o):g<w.heap.size:=(wm.1 h).1
theorem AC {w w':World} {g:Nat} {o:Obj} (h:w.heap[g]? =some o) (hb:Below w.heap.size w w'):w'.heap[g]? =some o:=(hb.block g (AY h)).trans h
theorem Cs {w:World} {g:Nat} {i e m' i' e' c':Value} (h:w.heap[g]? =some (.cells #[m,i,e,c] t (0,0))):
 ((((w.setCell ⟨g,0,none⟩ m').setCell ⟨g,1,none⟩ i').setCell ⟨g,2,none⟩ e').setCell ⟨g,3,none⟩ c').heap[g]? =some (.cells #[m',i',e',c'] t (0,0)):=by
 have h0:=yu w g 0 _ t m' h;have h1:=yu _ g 1 _ t i' h0;have h2:=yu _ g 2 _ t e' h1;have h3:=yu _ g 3 _ t c' h2;simpa using h3
theorem Eo {w w':World} {lo e sz n g T:Nat} {v:Value} {xs:List Value} {a9:Array Value} {fr:Nat×Nat} (h:w.ownsRow lo e sz v n xs) (hg:w.grownBy w' (some g)) (hb:w.heap[g]? =some (.cells a9 T fr)) (an:e≠T:=by decide):w'.ownsRow lo e sz v n xs:=by
 refine Au h hg ?_;cases hv:v.ownBlock with
 |none=>exact .inl rfl
 |some k=>
  refine .inr fun he=>?_
  simp only[vq] at he;subst he;obtain⟨c1,h1⟩:=A6 h k hv;rw[h1] at hb;simp at hb;exact an hb.2.1
section
variable {w w':World} {lo g T:Nat} {v:Value} {a9:Array Value} {fr:Nat×Nat}
theorem AP.yN {α:Type} {e sz:Nat} {cs:α->List Value} {xs:List α} (h:AP lo e sz cs w v xs) (hg:w.grownBy w' (some g)) (hb:w.heap[g]? =some (.cells a9 T fr)) (an:e≠T:=by decide):AP lo e sz cs w' v xs:=Eo h hg hb an
theorem At.yN (h:At lo w v vs a3) (hg:w.grownBy w' (some g)) (hb:w.heap[g]? =some (.cells a9 T fr)) (h1:29≠T:=by decide) (h2:3≠T:=by decide):At lo w' v vs a3:=
 ⟨h.1.yN hg hb h1,h.2.1.mono fun _ _ h=>Eo h hg hb h2,h.2.2⟩
theorem DA.yN {ps:List (Value×Int)} {es:List EN} (h:DA lo w v ps es) (hg:w.grownBy w' (some g)) (hb:w.heap[g]? =some (.cells a9 T fr)) (h1:62≠T:=by decide) (h2:9≠T:=by decide):DA lo w' v ps es:=
 ⟨h.1.yN hg hb h1,h.2.1.mono fun _ _ h=>⟨h.1.yN hg hb h2,h.2⟩,h.2.2⟩
end
theorem At.kept {w w':World} {lo e sz n:Nat} {v u:Value} {xs:List Value} (h:At lo w v vs a3) (hg:w.grownBy w' u.ownBlock) (hu:w.ownsRow lo' e sz u n xs) (h1:29≠e) (h2:3≠e):At lo w' v vs a3:=
 ⟨Au h.1 hg (A7 h.1 hu h1).ne,h.2.1.mono fun _ _ h=>Au h hg (A7 h hu h2).ne,h.2.2⟩
theorem Aq (w:World) (g j:Nat) (u:Value):w.grownBy (w.setCell ⟨g,j,none⟩ u) (some g):=⟨rfl,rfl,rfl,by simp,fun k _ hk=>heap_setCell_other w ⟨g,j,none⟩ k u (fun e=>hk (by simp[e]))⟩
theorem An {w:World} {g:Nat} (h:w0.grownBy w (some g)) (j:Nat) (u:Value):w0.grownBy (w.setCell ⟨g,j,none⟩ u) (some g):=AO h (Aq w g j u)
section
variable {P:Program}
end
theorem ZH {l:List Oper} {tmps:Array Value} {g:Nat} (hd:(l[g]?).bind (·.dst)=some d) (hv:tmps[d]?.getD undef=undef):yielded l.toArray tmps g=none:=by
 have h:(l.toArray[g]?).bind (·.dst)=some d:=by simpa using hd
 unfold yielded;rw[h,vB];cases hx:tmps[d]? with
 |none=>rfl
 |some x=>rw[hx] at hv;simp at hv;subst hv;rfl
theorem AX.un {P:Program} {l:List Oper} {o:Oper} {a:Act} {w:World} {K:Act->World->Prop} {Q:Exit->Act->World->Prop} {g:Nat} {b:Bool} (hg:o.guard=some (g,b)) (hd:(l[g]?).bind (·.dst)=some d) (hv:a.tmps[d]?.getD undef=undef) (h:K (a.put o.dst undef) w):AX P l o a w K Q:=
 ⟨fun hw=>by rw[xI,hg] at hw;simp only[ZH hd hv] at hw;cases b<;>simp at hw,fun _=>h⟩
theorem Fx {w w':World} {row:Option Nat} {b o:Nat} (h:w.grownBy w' row) (hb:b<w.heap.size) (an:row≠some b):w'.cell? ⟨b,o,none⟩=w.cell? ⟨b,o,none⟩:=wt (h.block b hb (fun e=>an e.symm))
def Bq (l:List Oper) (i:Nat):Option Nat:=(l[i]?).bind (·.dst)
def Dc (l:List Oper) (is:List Nat) (vs:Nat->Value) (b:Array Value):Array Value:=is.foldl (fun b i=>match Bq l i with|some d=>b.setIfInBounds d (vs i)|none=>b) b
def UD (l:List Oper) (N:Nat):Bool:=
 ((yE l.length).all fun i=>(yE l.length).all fun j=>i==j||(Bq l i).isNone||Bq l i !=Bq l j)&&
 ((yE l.length).all fun j=>match l[j]? with|some o=>o.after.all fun e=>!uk .any e||decide (e.on<j)|none=>false)&&
 ((yE l.length).all fun i=>match Bq l i with|some d=>decide (d<N)|none=>true)
def FM (l:List Oper) (tmps:Array Value) (i:Nat):Value:=match Bq l i with|some d=>tmps[d]?.getD undef|none=>undef
structure OT (l:List Oper) (a0:Act) (R:(Nat->Bool)->Nat->Value->World->Prop) (G:(Nat->Bool)->World->Prop) (ab:Array Bool) (a:Act) (w:World):Prop where
 size':ab.size=l.length
 closed:∀j oj,l[j]? =some oj->ab.getD j false=true->∀e∈oj.after,uk .any e=true->ab.getD e.on false=true
 defers:a.defers=a0.defers
 size:a.tmps.size=a0.tmps.size
 base:∀t,(∀i,i<l.length->Bq l i≠some t)->a.tmps[t]? =a0.tmps[t]?
 post:∀i,i<l.length->ab.getD i false=true->R (fun j=>ab.getD j false) i (FM l a.tmps i) w
 glob:G (fun j=>ab.getD j false) w
section
variable {P:Program}
theorem Xw {l:List Oper} {a:Act} {i j:Nat} {o:Oper} {v:Value} (ho:l[i]? =some o) (an:Bq l i=none∨Bq l i≠Bq l j):FM l (a.put o.dst v).tmps j=FM l a.tmps j:=by
 have e:Bq l i=o.dst:=by simp[Bq,ho]
 rw[e] at an;unfold FM;cases hj:Bq l j with
 |none=>rfl
 |some d=>
  cases hd:o.dst with
  |none=>rfl
  |some d'=>
   have:d'≠d:=by
    rintro rfl
    rcases an with h|h
    .rw[hd] at h;cases h
    .exact h (by rw[hd,hj])
   simp only[vN];rw[xL this]
theorem Xv {l:List Oper} {a:Act} {i:Nat} {o:Oper} {v:Value} (ho:l[i]? =some o) (hN:∀d,Bq l i=some d->d<a.tmps.size):FM l (a.put o.dst v).tmps i=match o.dst with|some _=>v|none=>undef:=by
 have e:Bq l i=o.dst:=by simp[Bq,ho]
 unfold FM;rw[e];cases hd:o.dst with
 |none=>rfl
 |some d=>have:=hN d (by rw[e,hd]);simp[vN,this]
theorem UA (l:List Oper):∀(is:List Nat) (b c:Array Value),c.size=b.size->(∀t,(∀i,i∈is->Bq l i≠some t)->c[t]? =b[t]?)->c=Dc l is (fun i=>FM l c i) b:=by
 intro is
 induction is with
 |nil=>intro b c hs h;exact tO fun t=>h t (fun i hi=>by cases hi)
 |cons i is ih=>
  intro b c hs h
  show c=Dc l is _ (match Bq l i with|some d=>b.setIfInBounds d (FM l c i)|none=>b)
  cases hd:Bq l i with
  |none=>
   exact ih b c hs fun t ht=>h t fun j hj=>by
    rcases xm.1 hj with rfl|hj
    .rw[hd];exact(fun e=>by cases e)
    .exact ht j hj
  |some d=>
   refine ih _ c (by simpa using hs) fun t ht=>?_
   by_cases bB:d=t
   .subst bB
    have hv:FM l c i=c[d]?.getD undef:=by unfold FM;rw[hd]
    show c[d]? =(b.setIfInBounds d (FM l c i))[d]?
    rw[hv]
    rcases tX d c.size with h'|h'
    .have:d<b.size:=by omega
     simp[h',this]
    .have:b.size<=d:=by omega
     simp[h',this]
   .show c[t]? =(b.setIfInBounds d (FM l c i))[t]?
    rw[xL bB];exact h t fun j hj=>by
     rcases xm.1 hj with rfl|hj
     .rw[hd];exact fun e=>bB (yH e)
     .exact ht j hj
theorem OT.wpAny {l:List Oper} {a0:Act} {R:(Nat->Bool)->Nat->Value->World->Prop} {G:(Nat->Bool)->World->Prop} {Q:Exit->Act->World->Prop}
 (hB:UD l a0.tmps.size=true)
 (am:∀i,i<l.length->∀o,l[i]? =some o->∀a w,a.defers=a0.defers->a.tmps.size=a0.tmps.size->(∀t,(∀i,i<l.length->Bq l i≠some t)->a.tmps[t]? =a0.tmps[t]?)->
  ∀L:Nat->Bool,(∀j,j<l.length->L j=true->R L j (FM l a.tmps j) w)->L i=false->(∀j,ym .any l.toArray i j=true->L j=true)->(∀j j',L j=true->ym .any l.toArray j j'=true->L j'=true)->G L w->
  ∀K:Act->World->Prop,(∀v w',R (F8 L i) i (match o.dst with|some _=>v|none=>undef) w'->G (F8 L i) w'->(∀j,j≠i->j<l.length->L j=true->R L j (FM l a.tmps j) w->R (F8 L i) j (FM l a.tmps j) w')->K (a.put o.dst v) w')->AX P l o a w K Q)
 (al:∀a w,a.defers=a0.defers->a.tmps.size=a0.tmps.size->(∀t,(∀i,i<l.length->Bq l i≠some t)->a.tmps[t]? =a0.tmps[t]?)->
  ∀L:Nat->Bool,(∀i,i<l.length->L i=true)->(∀i,i<l.length->R L i (FM l a.tmps i) w)->G L w->Q .normal a w):
 ∀(f:Nat) (ab:Array Bool) (a:Act) (w:World),f=((yE l.length).filter fun i=>!ab.getD i false).length->OT l a0 R G ab a w->tI P .any l.toArray Q f ab a w:=by
 simp only[UD,yt] at hB;obtain⟨⟨bY,a8⟩,br⟩:=hB;have an:∀i j,i<l.length->j<l.length->i≠j->Bq l i=none∨Bq l i≠Bq l j:=by intro i j hi hj cb;have:=yk.1 (yk.1 bY i (yj.2 hi)) j (yj.2 hj);simp only[Bool.or_eq_true,beq_iff_eq,cb,false_or,bne_iff_ne,Option.isNone_iff_eq_none] at this;exact this
 have hN:∀i,i<l.length->∀d,Bq l i=some d->d<a0.tmps.size:=by intro i hi d hd;have:=yk.1 br i (yj.2 hi);rw[hd] at this;simpa using this
 have done:∀(ab:Array Bool) (a:Act) (w:World),(∀i,i<l.length->ab.getD i false=true)->OT l a0 R G ab a w->Q .normal a w:=fun ab a w av ai=>al a w ai.defers ai.size ai.base _ av (fun i hi=>ai.post i hi (av i hi)) ai.glob
 have stuck:∀(ab:Array Bool),ab.size=l.length->uj .any l.toArray ab=[]->∀i,i<l.length->ab.getD i false=true:=by
  intro ab a7 hr;have:∀k,∀i,i<k->i<l.length->ab.getD i false=true:=by
   intro k
   induction k with
   |zero=>intro i hi;omega
   |succ k ihk=>
    intro i cO ca;cases hx:ab.getD i false with
    |true=>rfl
    |false=>
     exfalso;have bq:ab.getD i true=false:=getD_in (by omega) hx;have ho:l[i]? =some l[i]:=yx ca;have co:i∉uj .any l.toArray ab:=by rw[hr];simp
     apply co;rw[ut];refine⟨bq,l[i],by simp,fun e he hb=>?_⟩;have ay:e.on<i:=by have:=yk.1 a8 i (yj.2 ca);rw[ho] at this;simpa[hb] using vJ.1 this e he
     exact ihk e.on (by omega) (by omega)
  exact fun i hi=>this l.length i hi hi
 intro f
 induction f with
 |zero=>
  intro ab a w hf ai;have av:∀i,i<l.length->ab.getD i false=true:=by
   intro i hi;cases hx:ab.getD i false with
   |true=>rfl
   |false=>
    exfalso;have:i∈(yE l.length).filter fun i=>!ab.getD i false:=wX.2 ⟨yj.2 hi,by simp[hx]⟩
    have:=vp this;omega
  refine⟨?_,done ab a w av ai⟩;rw[List.eq_nil_iff_forall_not_mem];intro i hi;obtain⟨bq,o,ho,_⟩:=ut.1 hi;have b0:i<l.length:=by have:=(wm.1 ho).1;simpa using this
  have:=tG bq;rw[av i b0] at this;cases this
 |succ f ih=>
  intro ab a w hf ai;refine⟨fun hr=>done ab a w (stuck ab ai.size' hr) ai,fun i hi=>?_⟩;obtain⟨bq,o,bz,bn⟩:=ut.1 hi;have ho:l[i]? =some o:=by simpa using bz
  have b0:i<l.length:=(yq.1 ho).1;have bu:=tG bq;unfold Go.wpOp;rw[bz];have bD:∀j,ym .any l.toArray i j=true->ab.getD j false=true:=by intro j hj;obtain⟨oj,be,e,he,hb,rfl⟩:=wW hj;obtain rfl:oj=o:=yH (be.symm.trans bz);exact bn e he hb
  have bZ:∀j j',ab.getD j false=true->ym .any l.toArray j j'=true->ab.getD j' false=true:=by intro j j' hj hw;obtain⟨oj,be,e,he,hb,rfl⟩:=wW hw;exact ai.closed j oj (by simpa using be) hj e he hb
  have eL:(fun j=>(ab.setIfInBounds i true).getD j false)=F8 (fun j=>ab.getD j false) i:=by
   have a7:=ai.size'
   funext j
   unfold F8
   by_cases ax:j=i
   .subst ax
    rw[if_pos rfl,Eu (by omega)]
   .rw[if_neg ax,wC false (wH ax)]
  have hK:=am i b0 o ho a w ai.defers ai.size ai.base (fun j=>ab.getD j false) (fun j hj bV=>ai.post j hj bV) bu bD bZ ai.glob (tI P .any l.toArray Q f (ab.setIfInBounds i true)) (fun v w' hR cy bk=>by
   have a4:f=((yE l.length).filter fun k=>!(ab.setIfInBounds i true).getD k false).length:=by
    have bj:i∈(yE l.length).filter fun k=>!ab.getD k false:=by rw[wX];exact⟨yj.2 b0,by rw[bu];rfl⟩
    have cq:((yE l.length).filter fun k=>!ab.getD k false).Nodup:=tp.filter _;have he:((yE l.length).filter fun k=>!(ab.setIfInBounds i true).getD k false)=((yE l.length).filter fun k=>!ab.getD k false).erase i:=by
     rw[cq.erase_eq_filter,tF];refine tq fun k hk=>?_
     have a7:=ai.size'
     by_cases bK:k=i
     .subst bK
      simp[Eu (show k<ab.size by omega)]
     .rw[wC false (wH bK)]
      simp[bK]
    rw[he,ui bj];have:=vp bj;omega
   refine ih _ _ _ a4 ⟨by simpa using ai.size',?_,?_,?_,?_,?_,?_⟩
   .intro j oj be hj e he hb
    by_cases ax:j=i
    .subst ax
     obtain rfl:oj=o:=yH (be.symm.trans ho);have:=bn e he hb
     by_cases h2:e.on=j
     .rw[h2] at this;rw[this] at bu;cases bu
     .rw[wC false (wH h2)];exact this
    .rw[wC false (wH ax)] at hj
     have:=ai.closed j oj be hj e he hb
     by_cases h2:e.on=i
     .have a7:=ai.size'
      rw[h2,Eu (by omega)]
     .rw[wC false (wH h2)];exact this
   .cases hd:o.dst<;>simpa[vN] using ai.defers
   .cases hd:o.dst<;>simpa[vN] using ai.size
   .intro t ht
    rw[<-ai.base t ht];cases hd:o.dst with
    |none=>rfl
    |some d=>
     have:d≠t:=fun e=>ht i b0 (by simp[Bq,ho,hd,e])
     simp only[vN];rw[xL this]
   .intro j hj bV
    rw[eL]
    by_cases ax:j=i
    .subst ax
     rw[Xv ho (fun d hd=>by rw[ai.size];exact hN j hj d hd)];exact hR
    .have bl:ab.getD j false=true:=by rwa [wC false (wH ax)] at bV
     rw[Xw ho (an i j b0 hj (wH ax))];exact bk j ax hj bl (ai.post j hj bl)
   .rw[eL];exact cy)
  cases bt:xI o (yielded l.toArray a.tmps) with
  |true=>dsimp only;rw[bt,if_pos rfl];exact .inl (hK.1 bt)
  |false=>dsimp only;rw[bt,if_neg tH];exact hK.2 bt
theorem QN {Q:Exit->Act->World->Prop} {a0:Act} {l:List Oper} (n:Nat) (hm:P.follows .mixedOrders=true)
 (N:Nat) (hN:a0.tmps.size=N) (hB:UD l N=true) (hn:l.length=n) (S:Nat->Bool) (R:(Nat->Bool)->Nat->Value->World->Prop) (G:(Nat->Bool)->World->Prop)
 (hG:G (fun _=>false) {w0 with drawn:=w0.drawn+1})
 (aq:∀j,j<n->∀L i v w w',i<n->S i=false->L i=false->L j=true->Below w.heap.size w w'->R L j v w->R (F8 L i) j v w')
 (bm:∀L i w w',i<n->S i=false->L i=false->Below w.heap.size w w'->G L w->G (F8 L i) w')
 (am:∀i,i<n->S i=false->∀o,l[i]? =some o->∀a w,Hid (a.defers=a0.defers/\a.tmps.size=a0.tmps.size/\∀t,(∀i,i<n->Bq l i≠some t)->a.tmps[t]? =a0.tmps[t]?)->
  ∀L:Nat->Bool,Hid (∀j,L j=true->j<n->R L j (FM l a.tmps j) w)->Hid (L i=false/\(∀j,ym .any l.toArray i j=true->L j=true)/\∀j j',L j=true->ym .any l.toArray j j'=true->L j'=true)->G L w->
  ∀K:Act->World->Prop,Hid (∀v w',R (F8 L i) i (match o.dst with|some _=>v|none=>undef) w'->Below w.heap.size w w'->K (a.put o.dst v) w')->AX P l o a w K Q)
 (bf:∀i,i<n->S i=true->∀o,l[i]? =some o->∀a w,Hid (a.defers=a0.defers/\a.tmps.size=a0.tmps.size/\∀t,(∀i,i<n->Bq l i≠some t)->a.tmps[t]? =a0.tmps[t]?)->
  ∀L:Nat->Bool,Hid (∀j,L j=true->j<n->R L j (FM l a.tmps j) w)->Hid (L i=false/\(∀j,ym .any l.toArray i j=true->L j=true)/\∀j j',L j=true->ym .any l.toArray j j'=true->L j'=true)->G L w->
  ∀K:Act->World->Prop,Hid (∀v w',R (F8 L i) i (match o.dst with|some _=>v|none=>undef) w'->G (F8 L i) w'->(∀j,j≠i->j<n->L j=true->R L j (FM l a.tmps j) w->R (F8 L i) j (FM l a.tmps j) w')->K (a.put o.dst v) w')->AX P l o a w K Q)
 (al:∀(vs:Nat->Value) w,∀L:Nat->Bool,(∀i,i<n->L i=true)->(∀i,i<n->R L i (vs i) w)->G L w->wpList P l.toArray Q [] {a0 with tmps:=Dc l (yE n) vs a0.tmps} w):
 (vD id l.toArray true).wp P Q a0 w0:=by
 subst hn;refine wp_region_any hm ?_;refine OT.wpAny (a0:=a0) (R:=R) (G:=G) (by rw[hN];exact hB) (fun i hi o ho a w h1 h2 h3 L h4 h6 h7 h8 h5 K hK=>?_) (fun a w h1 h2 h3 L h6 h4 h5=>?_) _ _ _ _ ?_ ⟨by simp,fun j oj _ hl=>(by rw[xM] at hl;cases hl),rfl,rfl,fun _ _=>rfl,fun i _ hl=>(by rw[xM] at hl;cases hl),(show G (fun j=>(wJ l.toArray.size false).getD j false) _ from(funext fun j=>xM _ _:(fun j=>(wJ l.toArray.size false).getD j false)=fun _=>false)▸hG)⟩
 .cases hS:S i with
  |false=>exact am i hi hS o ho a w (AA ⟨h1,h2,h3⟩) L (AA fun j hj b9=>h4 j b9 hj) (AA ⟨h6,h7,h8⟩) h5 K (AA fun v w' hR hb=>hK v w' hR (bm L i w w' hi hS h6 hb h5) (fun j ax b9 bV hu=>aq j b9 L i _ w w' hi hS h6 bV hb hu))
  |true=>exact bf i hi hS o ho a w (AA ⟨h1,h2,h3⟩) L (AA fun j hj b9=>h4 j b9 hj) (AA ⟨h6,h7,h8⟩) h5 K (AA hK)
 .have e:=UA l (yE l.length) a0.tmps a.tmps h2 (fun t ht=>h3 t fun i hi=>ht i (yj.2 hi))
  have:=al (fun i=>FM l a.tmps i) w L h6 h4 h5;rw[<-e] at this;obtain⟨tm,df⟩:=a;dsimp only at h1 this;subst h1;exact this
 .have:((yE l.length).filter fun i=>!(wJ l.toArray.size false).getD i false)=yE l.length:=by
   rw[uL];intro i _;rw[xM];rfl
  rw[this];simp
end
inductive Vx where
 |p (b o:Nat)
 |i (x:Int)
 |s (b n c:Nat)
 |b (x:Bool)
 |t (x:ByteArray)
 |v (x:Value)
 |a (x:Array Value)
 |u
 |z
def Vx.val:Vx->Option Value
 | .p x y=>some (.pointer (some ⟨x,y,none⟩))
 | .i x=>some (.int .i64 x)
 | .s x y k=>some (.slice (some ⟨x,0,none⟩) y k)
 | .b x=>some (.bool x)
 | .t x=>some (.string x)
 | .v x=>some x
 | .a x=>some (.agg x)
 | .u=>some undef
 | .z=>none
def EG (L:List Vx) (i:Nat):Option Value:=(L[i]?).bind Vx.val
def RV (L:List Vx) (R:Nat->Value->World->Prop) (i:Nat) (v:Value) (w:World):Prop:=
 match EG L i with
 |some x=>v=x
 |none=>R i v w
theorem RV.of {L:List Vx} {R:Nat->Value->World->Prop} {i:Nat} {v:Value} {w:World} (h:EG L i=some v):RV L R i v w:=by unfold RV;rw[h]
theorem RV.eq {L:List Vx} {R:Nat->Value->World->Prop} {i:Nat} {v x:Value} {w:World} (h:RV L R i v w) (e:EG L i=some x):v=x:=by unfold RV at h;rw[e] at h;exact h
theorem RV.mono {L:List Vx} {R:Nat->Value->World->Prop} {i:Nat} {v:Value} {w w':World} (hR:R i v w->R i v w') (h:RV L R i v w):RV L R i v w':=by
 unfold RV at h ⊢;cases e:EG L i with
 |some x=>rw[e] at h;exact h
 |none=>rw[e] at h;exact hR h
def TU (l:List Oper) (n t:Nat):Option Nat:=(yE n).find? fun j=>AV l j==t
def Y1 (l:List Oper) (n i:Nat) (L:List Vx) (a0 a:Act):Operand->Value
 | .tmp t=>
  match TU l n t with
  |some j=>
   match ym .any l.toArray i j with
   |true=>match EG L j with
    |some x=>x
    |none=>a.eval (.tmp t)
   |false=>a.eval (.tmp t)
  |none=>a0.tmps[t]?.getD undef
 |x=>a.eval x
def Xg (l:List Oper) (n:Nat) (L:List Vx) (a0:Act):Operand->Value
 | .tmp t=>
  match TU l n t with
  |some j=>(EG L j).getD undef
  |none=>a0.tmps[t]?.getD undef
 |_=>undef
def Kd (l:List Oper) (i:Nat) (L:List Vx) (o:Oper):Option Bool:=
 match o.guard with
 |none=>some true
 |some (g,b)=>
  match ym .any l.toArray i g with
  |true=>
   match(l[g]?).bind (·.dst) with
   |some _=>
    match EG L g with
    |some (.bool c)=>some (c==b)
    |some (.tuple _)=>some false
    |_=>none
   |none=>none
  |false=>none
section
variable {P:Program} {l:List Oper} {n i:Nat} {o o':Oper} {a a0:Act} {w:World} {K:Act->World->Prop} {Q:Exit->Act->World->Prop} {L:List Vx} {R:Nat->Value->World->Prop} {v:Value}
theorem Ps (Hb:Hid (a.defers=a0.defers/\a.tmps.size=a0.tmps.size/\∀t,(∀i,i<n->AV l i≠t)->a.tmps[t]? =a0.tmps[t]?)) (Hd:Hid (∀j,ym .any l.toArray i j=true->RV L R j (a.tmps[AV l j]?.getD undef) w)):Y1 l n i L a0 a=a.eval:=by
 funext x
 cases x with
 |tmp t=>
  show(match TU l n t with|some j=>_|none=>_)=_
  cases e:TU l n t with
  |none=>
   simp only;have h:∀j,j<n->AV l j≠t:=by intro j hj h2;have:=tE.1 e j (yj.2 hj);simp[h2] at this
   exact(Bk (by rw[Hb.out.2.2 t h])).symm
  |some j=>
   simp only;have h2:AV l j=t:=by have:=th e;simpa using this
   cases e3:ym .any l.toArray i j with
   |false=>rfl
   |true=>
    simp only;cases e4:EG L j with
    |none=>rfl
    |some y=>simp only;have:=(Hd.out j e3).eq e4;rw[h2] at this;exact(Bk this).symm
 |const v=>rfl
 |global g=>rfl
 |func f=>rfl
theorem J6 {c:Bool} (Hd:Hid (∀j,ym .any l.toArray i j=true->RV L R j (a.tmps[AV l j]?.getD undef) w)) (h:Kd l i L o=some c):xI o (yielded l.toArray a.tmps)=c:=by
 unfold Kd at h;unfold xI;cases e:o.guard with
 |none=>rw[e] at h;simp only at h ⊢;exact yH h
 |some gb=>
  obtain⟨g,b⟩:=gb;rw[e] at h;simp only at h ⊢;cases e1:ym .any l.toArray i g with
  |false=>rw[e1] at h;cases h
  |true=>
   rw[e1] at h;simp only at h;cases e2:(l[g]?).bind (·.dst) with
   |none=>rw[e2] at h;cases h
   |some d=>
    rw[e2] at h;simp only at h;have hd:AV l g=d:=by unfold AV;rw[e2];rfl
    have h2:(l.toArray[g]?).bind (·.dst)=some d:=by simpa using e2
    cases e3:EG L g with
    |none=>rw[e3] at h;cases h
    |some x=>
     have h3:=(Hd.out g e1).eq e3;rw[hd] at h3;rw[e3] at h;cases x with
     |bool c9=>have hv:=yH h;rw[M5 e2 h3,<-hv];cases c9<;>cases b<;>rfl
     |tuple y=>
      have hv:=yH h;rw[<-hv];unfold yielded;rw[h2,vB];cases hx:a.tmps[d]? with
      |none=>rfl
      |some y=>rw[hx] at h3;simp only[tD] at h3;subst h3;rfl
     |_=>cases h
theorem sP (ho:l[i]? =some o) (HK:Hid (∀v w',RV L R i v w'->Below w.heap.size w w'->K (a.put o.dst v) w')) (Hb:Hid (a.defers=a0.defers/\a.tmps.size=a0.tmps.size/\∀t,(∀i,i<n->AV l i≠t)->a.tmps[t]? =a0.tmps[t]?)) (Hd:Hid (∀j,ym .any l.toArray i j=true->RV L R j (a.tmps[AV l j]?.getD undef) w))
 (e:l[i]? =some o':=by rfl) (hv:EG L i=some v:=by rfl) (hw:Kd l i L o'=some true:=by kernel_rfl) (hr:(execOp (Y1 l n i L a0 a) o').run P w= .ok (.value v) w:=by kernel_rfl):AX P l o a w K Q:=
 dV ho e (J6 Hd hw) HK (by rw[<-Ps Hb Hd];exact hr) (RV.of hv)
theorem sL {t:Nat} {x:Operand} {p:Value} (ho:l[i]? =some o) (HK:Hid (∀v w',RV L R i v w'->Below w.heap.size w w'->K (a.put o.dst v) w')) (Hb:Hid (a.defers=a0.defers/\a.tmps.size=a0.tmps.size/\∀t,(∀i,i<n->AV l i≠t)->a.tmps[t]? =a0.tmps[t]?)) (Hd:Hid (∀j,ym .any l.toArray i j=true->RV L R j (a.tmps[AV l j]?.getD undef) w))
 (e:l[i]? =some o':=by rfl) (bh:o'.op= .load t x:=by rfl) (hp:Xg l n L a0 x=p:=by rfl) (hq:Y1 l n i L a0 a x=Xg l n L a0 x:=by kernel_rfl) (hv:EG L i=some v:=by rfl) (hw:Kd l i L o'=some true:=by kernel_rfl) (hl:(xJ t p).run P w= .ok v w):AX P l o a w K Q:=
 dV ho e (J6 Hd hw) HK (by rw[<-Ps Hb Hd];unfold execOp;rw[bh];simp only[hq.trans hp,vM,hl,wD];rfl) (RV.of hv)
theorem sB (ho:l[i]? =some o) (HK:Hid (∀v w',RV L R i v w'->Below w.heap.size w w'->K (a.put o.dst v) w')) (Hd:Hid (∀j,ym .any l.toArray i j=true->RV L R j (a.tmps[AV l j]?.getD undef) w))
 (e:l[i]? =some o':=by rfl) (hv:EG L i=some undef:=by rfl) (hw:Kd l i L o'=some false:=by kernel_rfl):AX P l o a w K Q:=by
 obtain rfl:=yH (ho.symm.trans e);exact⟨fun h=>absurd ((J6 Hd hw).symm.trans h) (by decide),fun _=>HK.out _ _ (RV.of hv) (yF _ _)⟩
theorem sC {F:FuncId} {vs:Array Value} {Qc:Ending->World->Prop} (ho:l[i]? =some o) (HK:Hid (∀v w',RV L R i v w'->Below w.heap.size w w'->K (a.put o.dst v) w')) (Hb:Hid (a.defers=a0.defers/\a.tmps.size=a0.tmps.size/\∀t,(∀i,i<n->AV l i≠t)->a.tmps[t]? =a0.tmps[t]?)) (Hd:Hid (∀j,ym .any l.toArray i j=true->RV L R j (a.tmps[AV l j]?.getD undef) w))
 (hc:Calls P F vs w Qc) (hq:∀e w',Qc e w'->∃v,e= .returned v/\RV L R i v w'/\Below w.heap.size w w')
 (e:l[i]? =some o':=by rfl) (hw:Kd l i L o'=some true:=by kernel_rfl) (hr:(execOp (Y1 l n i L a0 a) o').run P w= .ok (.enter F vs) w:=by kernel_rfl):AX P l o a w K Q:=by
 obtain rfl:=yH (ho.symm.trans e);refine⟨fun _=>?_,fun h=>absurd ((J6 Hd hw).symm.trans h) (by decide)⟩;unfold vE;rw[<-Ps Hb Hd,hr,ur];refine hc.mono ?_;intro x w' h;obtain⟨v,rfl,h1,h2⟩:=hq x w' h;exact HK.out v w' h1 h2
theorem sD {F:FuncId} {vs:Array Value} (ho:l[i]? =some o) (HK:Hid (∀v w',RV L R i v w'->Below w.heap.size w w'->K (a.put o.dst v) w')) (Hb:Hid (a.defers=a0.defers/\a.tmps.size=a0.tmps.size/\∀t,(∀i,i<n->AV l i≠t)->a.tmps[t]? =a0.tmps[t]?)) (Hd:Hid (∀j,ym .any l.toArray i j=true->RV L R j (a.tmps[AV l j]?.getD undef) w))
 (hc:Calls P F vs w fun e w'=>e= .returned v/\Below w.heap.size w w') (e:l[i]? =some o':=by rfl) (hv:EG L i=some v:=by rfl) (hw:Kd l i L o'=some true:=by kernel_rfl) (hr:(execOp (Y1 l n i L a0 a) o').run P w= .ok (.enter F vs) w:=by kernel_rfl):AX P l o a w K Q:=
 sC ho HK Hb Hd hc (fun _ _ h=>⟨v,h.1,RV.of hv,h.2⟩) e hw hr
theorem sE {F:FuncId} {vs:Array Value} (ho:l[i]? =some o) (HK:Hid (∀v w',RV L R i v w'->Below w.heap.size w w'->K (a.put o.dst v) w')) (Hb:Hid (a.defers=a0.defers/\a.tmps.size=a0.tmps.size/\∀t,(∀i,i<n->AV l i≠t)->a.tmps[t]? =a0.tmps[t]?)) (Hd:Hid (∀j,ym .any l.toArray i j=true->RV L R j (a.tmps[AV l j]?.getD undef) w))
 (hc:Calls P F vs w fun e w'=>e= .returned v/\w=w') (e:l[i]? =some o':=by rfl) (hv:EG L i=some v:=by rfl) (hw:Kd l i L o'=some true:=by kernel_rfl) (hr:(execOp (Y1 l n i L a0 a) o').run P w= .ok (.enter F vs) w:=by kernel_rfl):AX P l o a w K Q:=
 sC ho HK Hb Hd hc (fun _ _ h=>⟨v,h.1,RV.of hv,h.2▸yF _ _⟩) e hw hr
theorem sI {t b ac ln cp:Nat} {x y:Operand} {j:Int} (ho:l[i]? =some o) (HK:Hid (∀v w',RV L R i v w'->Below w.heap.size w w'->K (a.put o.dst v) w')) (Hb:Hid (a.defers=a0.defers/\a.tmps.size=a0.tmps.size/\∀t,(∀i,i<n->AV l i≠t)->a.tmps[t]? =a0.tmps[t]?)) (Hd:Hid (∀j,ym .any l.toArray i j=true->RV L R j (a.tmps[AV l j]?.getD undef) w))
 (e:l[i]? =some o':=by rfl) (bh:o'.op= .indexAddr t x y:=by rfl) (hp:Xg l n L a0 x= .slice (some ⟨b,ac,none⟩) ln cp:=by rfl) (hy:Xg l n L a0 y= .int .i64 j:=by rfl) (cJ:Y1 l n i L a0 a x=Xg l n L a0 x:=by kernel_rfl) (cH:Y1 l n i L a0 a y=Xg l n L a0 y:=by kernel_rfl) (hv:EG L i=some v:=by rfl) (hw:Kd l i L o'=some true:=by kernel_rfl) (hr:(Instr.indexAt t (.slice (some ⟨b,ac,none⟩) ln cp) (.int .i64 j)).run P w= .ok v w):AX P l o a w K Q:=
 dV ho e (J6 Hd hw) HK (by rw[<-Ps Hb Hd];unfold execOp;rw[bh];simp only[cJ.trans hp,cH.trans hy,vM,hr,wD];rfl) (RV.of hv)
theorem Aa (n N:Nat) (L:List Vx) (R:Nat->Value->World->Prop)
 (am:∀i,i<n->∀o,l[i]? =some o->∀a w,Hid (a.defers=a0.defers/\a.tmps.size=a0.tmps.size/\∀t,(∀i,i<n->AV l i≠t)->a.tmps[t]? =a0.tmps[t]?)->
  Hid (∀j,ym .any l.toArray i j=true->RV L R j (a.tmps[AV l j]?.getD undef) w)->Below w0.heap.size w0 w->
  ∀K:Act->World->Prop,Hid (∀v w',RV L R i v w'->Below w.heap.size w w'->K (a.put o.dst v) w')->AX P l o a w K Q)
 (al:∀(vs:Nat->Value) w,(∀i,i<n->RV L R i (vs i) w)->Below w0.heap.size w0 w->wpList P l.toArray Q (l.drop n) {a0 with tmps:=Al l (yE n) vs a0.tmps} w)
 (hm:P.follows .mixedOrders=true:=by kernel_rfl) (hB:IA l n=true:=by kernel_rfl) (hN:a0.tmps.size=N:=by rfl) (hD:VL l n N=true:=by kernel_rfl)
 (aq:∀i,i<n->∀v w w',Below w.heap.size w w'->R i v w->R i v w':=by exact fun _ _ _ _ _ _ h=>h):(vD id l.toArray true).wp P Q a0 w0:=
 LS n hm hB N hN hD (RV L R) (fun i hi v w w' hb h=>RV.mono (aq i hi v w w' hb) h) am al
theorem BS (n N:Nat) (L:List Vx) (R:Nat->Value->World->Prop)
 (am:∀i,i<n->∀o,l[i]? =some o->∀a w,Hid (a.defers=a0.defers/\a.tmps.size=a0.tmps.size/\∀t,(∀i,i<n->AV l i≠t)->a.tmps[t]? =a0.tmps[t]?)->
  Hid (∀j,ym .any l.toArray i j=true->RV L R j (a.tmps[AV l j]?.getD undef) w)->Below w0.heap.size w0 w->
  ∀K:Act->World->Prop,Hid (∀v w',RV L R i v w'->Below w.heap.size w w'->K (a.put o.dst v) w')->AX P l o a w K Q)
 (aq:∀i,i<n->∀v w w',Below w.heap.size w w'->R i v w->R i v w')
 (al:∀(vs:Nat->Value) w,(∀i,i<n->RV L R i (vs i) w)->Below w0.heap.size w0 w->wpList P l.toArray Q (l.drop n) {a0 with tmps:=Al l (yE n) vs a0.tmps} w)
 (hm:P.follows .mixedOrders=true:=by kernel_rfl) (hB:IA l n=true:=by kernel_rfl) (hN:a0.tmps.size=N:=by rfl) (hD:VL l n N=true:=by kernel_rfl):(vD id l.toArray true).wp P Q a0 w0:=
 LS n hm hB N hN hD (RV L R) (fun i hi v w w' hb h=>RV.mono (aq i hi v w w' hb) h) am al
end
def RF (V:List Vx) (R:(Nat->Bool)->Nat->Value->World->Prop) (L:Nat->Bool) (i:Nat) (v:Value) (w:World):Prop:=
 match EG V i with
 |some x=>v=x
 |none=>R L i v w
section
variable {P:Program} {l:List Oper} {n i:Nat} {o o':Oper} {a a0:Act} {w:World} {K:Act->World->Prop} {Q:Exit->Act->World->Prop} {V:List Vx} {R:(Nat->Bool)->Nat->Value->World->Prop} {L:Nat->Bool} {v:Value}
theorem RF.of (h:EG V i=some v):RF V R L i v w:=by unfold RF;rw[h]
theorem RF.eq {x:Value} (h:RF V R L i v w) (e:EG V i=some x):v=x:=by unfold RF at h;rw[e] at h;exact h
theorem RF.mono {L':Nat->Bool} {w':World} (hR:R L i v w->R L' i v w') (h:RF V R L i v w):RF V R L' i v w':=by
 unfold RF at h ⊢;cases e:EG V i with
 |some x=>rw[e] at h;exact h
 |none=>rw[e] at h;exact hR h
def We (l:List Oper) (n t:Nat):Option Nat:=(yE n).find? fun j=>Bq l j==some t
def Xf (l:List Oper) (n i:Nat) (V:List Vx) (a0 a:Act):Operand->Value
 | .tmp t=>
  match We l n t with
  |some j=>
   match ym .any l.toArray i j with
   |true=>match EG V j with
    |some x=>x
    |none=>a.eval (.tmp t)
   |false=>a.eval (.tmp t)
  |none=>a0.tmps[t]?.getD undef
 |x=>a.eval x
def bF (l:List Oper) (n:Nat) (V:List Vx) (a0:Act):Operand->Value
 | .tmp t=>
  match We l n t with
  |some j=>(EG V j).getD undef
  |none=>a0.tmps[t]?.getD undef
 |_=>undef
def QM (l:List Oper) (n i:Nat) (V:List Vx) (o:Oper):Option Bool:=
 match o.guard with
 |none=>some true
 |some (g,b)=>
  match ym .any l.toArray i g&&decide (g<n) with
  |true=>
   match(l[g]?).bind (·.dst) with
   |some _=>
    match EG V g with
    |some (.bool c)=>some (c==b)
    |some (.tuple _)=>some false
    |_=>none
   |none=>none
  |false=>none
abbrev Xz (l:List Oper) (n:Nat) (a0 a:Act):Prop:=a.defers=a0.defers/\a.tmps.size=a0.tmps.size/\∀t,(∀i,i<n->Bq l i≠some t)->a.tmps[t]? =a0.tmps[t]?
abbrev Xx (l:List Oper) (n:Nat) (V:List Vx) (R:(Nat->Bool)->Nat->Value->World->Prop) (L:Nat->Bool) (a:Act) (w:World):Prop:=∀j,L j=true->j<n->RF V R L j (FM l a.tmps j) w
abbrev Wh (l:List Oper) (i:Nat) (L:Nat->Bool):Prop:=L i=false/\(∀j,ym .any l.toArray i j=true->L j=true)/\∀j j',L j=true->ym .any l.toArray j j'=true->L j'=true
abbrev aW (V:List Vx) (R:(Nat->Bool)->Nat->Value->World->Prop) (L:Nat->Bool) (i:Nat) (o:Oper) (a:Act) (w:World) (K:Act->World->Prop):Prop:=∀v w',RF V R (F8 L i) i (match o.dst with|some _=>v|none=>undef) w'->Below w.heap.size w w'->K (a.put o.dst v) w'
theorem Oe (Hb:Hid (Xz l n a0 a)) (Hd:Hid (Xx l n V R L a w)) (HL:Hid (Wh l i L)):Xf l n i V a0 a=a.eval:=by
 funext x
 cases x with
 |tmp t=>
  show(match We l n t with|some j=>_|none=>_)=_
  cases e:We l n t with
  |none=>
   simp only;have h:∀j,j<n->Bq l j≠some t:=by intro j hj h2;have:=tE.1 e j (yj.2 hj);simp[h2] at this
   exact(Bk (by rw[Hb.out.2.2 t h])).symm
  |some j=>
   simp only;have h2:Bq l j=some t:=by have:=th e;simpa using this
   have hj:j<n:=yj.1 (List.mem_of_find?_eq_some e);cases e3:ym .any l.toArray i j with
   |false=>rfl
   |true=>
    simp only;cases e4:EG V j with
    |none=>rfl
    |some y=>simp only;have:=(Hd.out j (HL.out.2.1 j e3) hj).eq e4;unfold FM at this;rw[h2] at this;exact(Bk this).symm
 |const v=>rfl
 |global g=>rfl
 |func f=>rfl
theorem My {c:Bool} (Hd:Hid (Xx l n V R L a w)) (HL:Hid (Wh l i L)) (h:QM l n i V o=some c):xI o (yielded l.toArray a.tmps)=c:=by
 unfold QM at h;unfold xI;cases e:o.guard with
 |none=>rw[e] at h;simp only at h ⊢;exact yH h
 |some gb=>
  obtain⟨g,b⟩:=gb;rw[e] at h;simp only at h ⊢;cases e1:(ym .any l.toArray i g&&decide (g<n)) with
  |false=>rw[e1] at h;cases h
  |true=>
   rw[e1] at h;simp only at h;obtain⟨e5,e6⟩:=Bool.and_eq_true_iff.1 e1;have e6:=of_decide_eq_true e6;cases e2:(l[g]?).bind (·.dst) with
   |none=>rw[e2] at h;cases h
   |some d=>
    rw[e2] at h;simp only at h;have h2:(l.toArray[g]?).bind (·.dst)=some d:=by simpa using e2
    cases e3:EG V g with
    |none=>rw[e3] at h;cases h
    |some x=>
     have h3:=(Hd.out g (HL.out.2.1 g e5) e6).eq e3;unfold FM at h3;rw[show Bq l g=some d from e2] at h3;simp only at h3;rw[e3] at h;cases x with
     |bool c9=>have hv:=yH h;rw[M5 e2 h3,<-hv];cases c9<;>cases b<;>rfl
     |tuple y=>
      have hv:=yH h;rw[<-hv];unfold yielded;rw[h2,vB];cases hx:a.tmps[d]? with
      |none=>rfl
      |some y=>rw[hx] at h3;simp only[tD] at h3;subst h3;rfl
     |_=>cases h
theorem bT (ho:l[i]? =some o) (e:l[i]? =some o') (hw:xI o' (yielded l.toArray a.tmps)=true) (HK:Hid (aW V R L i o a w K)) (hv:EG V i=some v) (hd:o'.dst.isSome=true) (hr:(execOp a.eval o').run P w= .ok (.value v) w):AX P l o a w K Q:=by
 obtain rfl:=yH (ho.symm.trans e);refine⟨fun _=>?_,fun h=>by rw[hw] at h;cases h⟩;unfold vE;rw[hr,Oper.upon_value];obtain⟨d,h2⟩:=vG.1 hd;exact HK.out _ _ (by rw[h2];exact RF.of hv) (yF _ _)
theorem WR (ho:l[i]? =some o) (HK:Hid (aW V R L i o a w K)) (Hb:Hid (Xz l n a0 a)) (Hd:Hid (Xx l n V R L a w)) (HL:Hid (Wh l i L))
 (e:l[i]? =some o':=by rfl) (hd:o'.dst.isSome=true:=by rfl) (hv:EG V i=some v:=by rfl) (hw:QM l n i V o'=some true:=by kernel_rfl) (hr:(execOp (Xf l n i V a0 a) o').run P w= .ok (.value v) w:=by kernel_rfl):AX P l o a w K Q:=
 bT ho e (My Hd HL hw) HK hv hd (by rw[<-Oe Hb Hd HL];exact hr)
theorem NU {x:Operand} {p:Value} (ho:l[i]? =some o) (HK:Hid (aW V R L i o a w K)) (Hb:Hid (Xz l n a0 a)) (Hd:Hid (Xx l n V R L a w)) (HL:Hid (Wh l i L))
 (e:l[i]? =some o':=by rfl) (hd:o'.dst.isSome=true:=by rfl) (bh:o'.op= .load t x:=by rfl) (hp:bF l n V a0 x=p:=by rfl) (hq:Xf l n i V a0 a x=bF l n V a0 x:=by kernel_rfl) (hv:EG V i=some v:=by rfl) (hw:QM l n i V o'=some true:=by kernel_rfl) (hl:(xJ t p).run P w= .ok v w):AX P l o a w K Q:=
 bT ho e (My Hd HL hw) HK hv hd (by rw[<-Oe Hb Hd HL];unfold execOp;rw[bh];simp only[hq.trans hp,vM,hl,wD];rfl)
theorem bR {F:FuncId} {vs:Array Value} {Qc:Ending->World->Prop} (ho:l[i]? =some o) (HK:Hid (aW V R L i o a w K)) (Hb:Hid (Xz l n a0 a)) (Hd:Hid (Xx l n V R L a w)) (HL:Hid (Wh l i L))
 (hc:Calls P F vs w Qc) (hq:∀e w',Qc e w'->∃v,e= .returned v/\RF V R (F8 L i) i v w'/\Below w.heap.size w w')
 (e:l[i]? =some o':=by rfl) (hd:o'.dst.isSome=true:=by rfl) (hw:QM l n i V o'=some true:=by kernel_rfl) (hr:(execOp (Xf l n i V a0 a) o').run P w= .ok (.enter F vs) w:=by kernel_rfl):AX P l o a w K Q:=by
 obtain rfl:=yH (ho.symm.trans e);refine⟨fun _=>?_,fun h=>absurd ((My Hd HL hw).symm.trans h) (by decide)⟩;unfold vE;rw[<-Oe Hb Hd HL,hr,ur];refine hc.mono ?_;intro x w' h;obtain⟨v,rfl,h1,h2⟩:=hq x w' h;obtain⟨d,h3⟩:=vG.1 hd;exact HK.out v w' (by rw[h3];exact h1) h2
theorem Ba (H:Hid (Wh l i L)) (k:Nat) (h:ym .any l.toArray k i=true:=by kernel_rfl):L k=false:=by
 cases hx:L k with
 |false=>rfl
 |true=>exact absurd (H.out.2.2 k i hx h) (by rw[H.out.1];decide)
theorem Dz (n N:Nat) (S:Nat->Bool) (V:List Vx) (R:(Nat->Bool)->Nat->Value->World->Prop) (G:(Nat->Bool)->World->Prop)
 (hG:G (fun _=>false) {w0 with drawn:=w0.drawn+1})
 (aq:∀j,j<n->∀L i v w w',i<n->S i=false->L i=false->L j=true->Below w.heap.size w w'->R L j v w->R (F8 L i) j v w')
 (bm:∀L i w w',i<n->S i=false->L i=false->Below w.heap.size w w'->G L w->G (F8 L i) w')
 (am:∀i,i<n->S i=false->∀o,l[i]? =some o->∀a w,Hid (Xz l n a0 a)->∀L:Nat->Bool,Hid (Xx l n V R L a w)->Hid (Wh l i L)->G L w->∀K:Act->World->Prop,Hid (aW V R L i o a w K)->AX P l o a w K Q)
 (bf:∀i,i<n->S i=true->∀o,l[i]? =some o->∀a w,Hid (Xz l n a0 a)->∀L:Nat->Bool,Hid (Xx l n V R L a w)->Hid (Wh l i L)->G L w->
  ∀K:Act->World->Prop,Hid (∀v w',RF V R (F8 L i) i (match o.dst with|some _=>v|none=>undef) w'->G (F8 L i) w'->(∀j,j≠i->j<n->L j=true->RF V R L j (FM l a.tmps j) w->RF V R (F8 L i) j (FM l a.tmps j) w')->K (a.put o.dst v) w')->AX P l o a w K Q)
 (al:∀(vs:Nat->Value) w,∀L:Nat->Bool,(∀i,i<n->L i=true)->(∀i,i<n->RF V R L i (vs i) w)->G L w->wpList P l.toArray Q [] {a0 with tmps:=Dc l (yE n) vs a0.tmps} w)
 (hm:P.follows .mixedOrders=true:=by kernel_rfl) (hN:a0.tmps.size=N:=by rfl) (hB:UD l N=true:=by kernel_rfl) (hn:l.length=n:=by rfl):(vD id l.toArray true).wp P Q a0 w0:=
 QN n hm N hN hB hn S (RF V R) G hG (fun j hj L i v w w' h1 h2 h3 h4 hb h=>RF.mono (aq j hj L i v w w' h1 h2 h3 h4 hb) h) bm am bf al
end
end Go.Proofs.YtinbcpipjfljeaaGreatDoor
