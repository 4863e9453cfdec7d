/-
  Packed:16 texts.
-/
import Derived.Lib.Strings
import Derived.Test.YtpdjjjdkhedibaaGreatDoorRows
import Derived.WalkKit
import Derived.WalkSpells
import Derived.WalkLawsBesides
import Derived.Deep.QuietTactic
import Derived.BigQuiet
import Derived.Deep.LoopGhost
import Derived.Deep.RegionHeld3
import Derived.Lib.Hide
import Derived.Handy
import Derived.Laws.AppendOwnNone
import Derived.StillTailTactics
import Derived.Maps.AppendAt
set_option linter.unusedVariables false
set_option linter.unusedSimpArgs false
set_option maxHeartbeats 16000000
set_option maxRecDepth 100000
open Go Go.Proofs.YtpdjjjdkhedibaaGreatDoor
open _root_.Array renaming ext_getElem?->tH,getD_eq_getD_getElem?->uy,getElem?_eq_some_iff->wO,getElem?_setIfInBounds_ne->wL,ofFn->tI,replicate->tf
open Bool renaming and_eq_true->yp,or_eq_true->xl
open Go.Code renaming region->vZ
open Go.Instr renaming fieldAt->vF,loadAt->xJ
open Go.Op renaming bytesLess->wk
open Go.Oper renaming upon_enter->ul,wp->vG
open Go.Region renaming binds->uO,chainB->sY,sinkB->sN,waitsFor->yg,waitsFor_spec->tY,wanted->xG
open Go.Result renaming andThen_ok->wF
open Go.RowKit.Below renaming refl->yD
open Go.RowKit renaming Hid->vA
open Go.Sem renaming run_bind->vK
open Go.Value renaming int->yf,ownBlock->uP
open Go.World renaming block_lt_of_cell?->yA,cell?_of_block->vX
open Go.World.ownsRow renaming kept->vx,stored->vP
open Go renaming cell_of_row->yi,getD_replicate_false->uM,heap_setCell_same->ym,wpList_append_own_none->tq
open List renaming all_eq_true->yd,any_eq_false->tr,cons_lt_cons_iff->vf,countP_cons->xC,eq_nil_of_length_eq_zero->xO,find?_eq_none->tC,find?_some->sX,getD_eq_getElem?_getD->xR,getElem?_append_left->xh,getElem?_eq_getElem->yu,getElem?_eq_some_iff->yr,getElem?_map->wK,getElem?_set->we,getElem_of_mem->wP,length_append->yj,length_cons->vW,length_filter_le->wU,length_pos_of_mem->tZ,length_set->xS,map_append->xE,map_cons->vD,map_nil->uL,mem_append->wC,mem_append_left->tN,mem_append_right->ve,mem_cons->xA,mem_cons_self->vz,mem_filter->wY,mem_of_getElem?->ye,mem_of_mem_drop->tL,mem_or_eq_of_mem_set->uk,mem_range->xU,mem_take_iff_getElem->uj,pairwise_append->tM,pairwise_cons->tA,pairwise_iff_getElem->wB,range->yC,range_succ->wZ,replicate->xV,sum_append->wS,sum_cons->ug,sum_nil->tX,takeWhile_append_dropWhile->uF
open Nat renaming add_zero->xL,eq_zero_or_pos->vQ,le_refl->yt,le_trans->yB,lt_of_lt_of_le->xX,lt_or_ge->tQ,lt_succ_iff_lt_or_eq->xq,not_lt_zero->xP,succ_mul->uG
open Option renaming bind_some->wj,getD_some->tB,isSome_iff_exists->vH
variable {ss:List ByteArray} {ai f id j k lo' t:Nat} {s:ByteArray} {w0 wr:World} {c:Value} {m a4:List (List Int)} {vs:List Value} {F:Nat->Nat} {r:List Int}
namespace Go.Proofs.YtpdjjjdkhedibaaGreatDoor
open Go.Proofs.Tryz
theorem Lu_{L:Nat->Bool}{W:Nat->Nat->Bool}{i:Nat}{B:Prop}(H:vA (L i=false/\B/\∀j j',L j=true->W j j'=true->L j'=true))(s:Nat)(h:W s i=true:=by kernel_rfl):L s=false:=by
 cases hx:L s
 .rfl
 .exact absurd (H.2.2 s i hx h) (by rw[H.1];decide)
theorem yF.{u_}{α:Type u_}{a b:α}(h:some a=some b):a=b:=Option.some.inj h
theorem AA{p:Prop}(h:p):vA p:=h
theorem BM{P:Nat->Prop}{Q:∀i,P i->Prop}(H:vA (∀i (h:P i),Q i h))(i:Nat)(h:P i:=by kernel_rfl):Q i h:=H i h
theorem DV{P R:Nat->Prop}{Q:∀i,P i->R i->Prop}{A C:Prop}{S:Nat->Prop}(H:vA (∀i (h:P i) (g:R i),Q i h g))(L:vA (A/\(∀i,S i->P i)/\C))(i:Nat)(h:S i:=by kernel_rfl)(g:R i:=by decide):Q i (L.2.1 i h) g:=H i (L.2.1 i h) g
theorem Oj{A B:Prop}{P:Nat->Prop}{Q:∀i,P i->Prop}(H:vA (A/\B/\∀i (h:P i),Q i h))(i:Nat)(h:P i:=by decide):Q i h:=H.2.2 i h
theorem BW{P:Nat->Prop}{Q:∀i,P i->Prop}(H:∀i (h:P i),Q i h)(i:Nat)(h:P i:=by decide):Q i h:=H i h
structure Aa where
 k:Int
 e:Int
 a:Int
 b:Int
 c:Int
 nm:ByteArray
structure AU where
 k:Int
 g:ByteArray
 r:Int
 deriving DecidableEq
def AU.zero:AU:=⟨0,⟨#[]⟩,0⟩
structure Al where
 e:Int
 p:Int
 f:Int
 w:Bool
 deriving DecidableEq
structure EU where
 zT:List ByteArray
 root:Int
 deriving DecidableEq
structure AN where
 mem:List (List Int)
 zZ:List AU
 zX:List EU
 zW:List Al
 deriving DecidableEq
def Be(n lo hi:Int):Bool:=decide (lo<=n)&&decide (n<=hi)
theorem Ab{n lo hi:Int}:Be n lo hi=true↔lo<=n/\n<=hi:=by simp[Be]
theorem Vl{n lo hi:Int}:Be n lo hi=false↔n<lo∨hi<n:=by by_cases h1:lo<=n<;>by_cases h2:n<=hi<;>simp[Be,h1,h2]<;>omega
def FI(c:UInt8):Bool:=decide (97<=c.toNat)&&decide (c.toNat<=99)
def BP(s:ByteArray):Bool:=s.data.toList.all FI&&decide (s.size<=4)
def Db(ss:List ByteArray)(k:Nat):ByteArray:=ss.getD k ⟨#[]⟩
theorem IR(h:k<ss.length):ss[k]?=some (Db ss k):=by simp[Db,h]
def Ty(a b:ByteArray):Bool:=!wk a.toList b.toList
def Cq(ss:List ByteArray)(i:Nat):Bool:=BP (Db ss i)&&(decide (i=0)||!Ty (Db ss (i - 1)) (Db ss i))
def BQ(ss:List ByteArray):Bool:=(yC ss.length).all (Cq ss)&&decide (ss.length<=6)
def LC(a b:ByteArray):Bool:=a.data.toList.isPrefixOf b.data.toList
def Bv(zT:List ByteArray)(g:ByteArray):Bool:=zT.any λs=>LC s g
def EA(n:Int):Bool:=Be n 0 9999
def Di(r:List Int):Bool:=r.all EA&&decide (r.length=4)
def Bs(m:List (List Int)):Bool:=m.all Di&&decide (m.length=12)
def Bh(w:Int):Bool:=decide (0<w)&&decide (w%2=1)&&decide (w<48)
def A9(w:Int):Nat:=(w/4).toNat
def KQ(w:Int):Bool:=decide (w%4=3)
def AH(m:List (List Int))(f:Nat):List Int:=m.getD f []
def Ar(m:List (List Int))(f i:Nat):Int:=(AH m f).getD i 0
def zS(l:List AU)(f:Nat):AU:=l.getD f AU.zero
def AJ(l:List EU)(f:Nat):EU:=l.getD f ⟨[],0⟩
def DI(x:AU):Bool:=decide (x=AU.zero)||(Be x.k 1 3&&BP x.g&&Be x.r 0 50)
def BI(l:List AU):Bool:=l.all DI&&decide (l.length=12)
def named(r:List Int):List Nat:=(r.filter Bh).map A9
def Bd(k:Int):Bool:=decide (k=2)||decide (k=3)
def Uq(k:Int):Int:=if Bd k then k - 1 else 0
def BZ(m:List (List Int))(root:Int):List Nat:=
 if root<0 then[] else root.toNat::(named (AH m root.toNat)++(named (AH m root.toNat)).flatMap λt=>named (AH m t))
def BG(zZ:List AU)(fs:List Nat)(zT:List ByteArray):Bool:=fs.all λf=>Bv zT (zS zZ f).g
def FQ(zZ:List AU)(f:Nat)(kind:Int)(zT:List ByteArray)(w:Int):Bool:=
 if Bh w then decide (A9 w≠f)&&decide ((zS zZ (A9 w)).k=kind - 1)&&Bv zT (zS zZ (A9 w)).g else decide (w=0)
def Iw(m:List (List Int))(zZ:List AU)(f:Nat)(kind:Int)(zT:List ByteArray):Bool:=(AH m f).all (FQ zZ f kind zT)
def countP(m:List (List Int))(zZ:List AU)(g:Nat):Nat:=
 ((yC 12).map λt=>if Bd (zS zZ t).k then(named (AH m t)).count g else 0).sum
def EQ(zX:List EU)(g:Nat):Nat:=zX.countP λe=>decide (e.root=(g:Int))
def CU(x:Al):Bool:=Be x.e 0 2&&Be x.p 0 15&&Be x.f 0 11
def Bj(e p:Int)(y:Al):Bool:=decide (y.e=e)&&decide (y.p=p)
def IB(c:List Al)(e p:Int):Int:=if c.any (Bj e p) then(c.findIdx (Bj e p):Nat) else -1
def AT(c:List Al)(i:Nat):Al:=c.getD i ⟨0,0,0,false⟩
def Ct(c:List Al)(i:Nat):Bool:=CU (AT c i)&&!(c.take i).any (Bj (AT c i).e (AT c i).p)
def BT(c:List Al):Bool:=(yC c.length).all (Ct c)&&decide (c.length<=4)
def Bu(m:List (List Int))(root a:Nat):Int×Nat×Bool:=
 if Bh (Ar m root (a/16)) then
  if Bh (Ar m (A9 (Ar m root (a/16))) (a/4%4)) then(0,A9 (Ar m (A9 (Ar m root (a/16))) (a/4%4)),KQ (Ar m root (a/16))&&KQ (Ar m (A9 (Ar m root (a/16))) (a/4%4)))
  else(2,0,false)
 else(1,0,false)
def Du(k:AN)(e:EU):Bool:=BQ e.zT&&(decide (e.root= -1)||(Be e.root 0 11&&decide ((zS k.zZ e.root.toNat).k=3)))&&BG k.zZ (BZ k.mem e.root) e.zT
def Iq(k:AN):Bool:=k.zX.all (Du k)&&decide (k.zX.length=3)
def Da(k:AN)(f:Nat):Bool:=!Bd (zS k.zZ f).k||Iw k.mem k.zZ f (zS k.zZ f).k [⟨#[]⟩]
def Gs(k:AN)(f:Nat):Bool:=decide ((zS k.zZ f).r=(countP k.mem k.zZ f:Int)+(EQ k.zX f:Int))
def Cn(k:AN)(x:Al):Bool:=decide (0<=(AJ k.zX x.e.toNat).root)&&decide (Bu k.mem (AJ k.zX x.e.toNat).root.toNat (4*x.p.toNat)=(0,x.f.toNat,x.w))
def Cl(k:AN):Bool:=Bs k.mem&&BI k.zZ&&BT k.zW&&Iq k&&(yC 12).all (Da k)&&(yC 12).all (Gs k)&&k.zW.all (Cn k)
def As{α:Type}(l:List α)(i:Nat)(f:α->α):List α:=match l[i]? with
 |some x=>l.set i (f x)
 |none=>l
def JS(n:Int)(x:AU):AU:= {x with r:=x.r+n}
def Bi(zZ:List AU)(fs:List Nat)(n:Int):List AU:=fs.foldl (λl g=>As l g (JS n)) zZ
def Am(zZ:List AU):Int:=if zZ.any (λx=>decide (x.k=0)) then(zZ.findIdx (λx=>decide (x.k=0)):Nat) else -1
def ER(kind:Int)(x:AU):AU:= {x with k:=kind}
def Hy(m:List (List Int))(zZ:List AU)(f:Nat)(kind:Int)(zT:List ByteArray):List AU×Int:=
 if(zS zZ f).k≠1∨(zS zZ f).r≠0 then(zZ,1)
 else if Iw m zZ f kind zT=false then(zZ,2)
 else if BI (As (Bi zZ (named (AH m f)) 1) f (ER kind)) then(As (Bi zZ (named (AH m f)) 1) f (ER kind),0) else(zZ,1)
def Dm(m:List (List Int))(zZ:List AU)(f:Nat):List AU×Int:=
 if Bd (zS zZ f).k=false∨(zS zZ f).r≠0 then(zZ,1)
 else if BI (As (Bi zZ (named (AH m f)) (-1)) f (ER 1)) then(As (Bi zZ (named (AH m f)) (-1)) f (ER 1),0) else(zZ,2)
def Sq(ss:List ByteArray)(s:ByteArray):List ByteArray:=ss.takeWhile (λx=>!Ty x s)++s::ss.dropWhile (λx=>!Ty x s)
def Cm(ss:List ByteArray)(s:ByteArray):List ByteArray×Bool:=if ss.any (λx=>decide (x=s)) then(ss,true) else if ss.length=6 then(ss,false) else(Sq ss s,true)
def DB(ss:List ByteArray)(s:ByteArray):List ByteArray:=ss.filter λr=>!LC s r
def My(c:List Al)(x:Al):List Al:=
 (if(c.filter λy=>!Bj x.e x.p y).length=4 then(c.filter λy=>!Bj x.e x.p y).drop 1 else c.filter λy=>!Bj x.e x.p y)++[x]
def Fz(c:List Al)(e:Int):List Al:=c.filter λy=>decide (y.e≠e)
def CZ(m:List (List Int))(f i:Nat)(w:Int):List (List Int):=As m f λr=>r.set i w
def Fb(k:AN)(e:Int)(g:ByteArray):Bool:=Bv (AJ k.zX e.toNat).zT g
abbrev ML:=AN×Int×Int
def Ix(k:AN)(c:Aa):ML:=
 if BP c.nm=false then(k,0,3)
 else if Fb k c.e c.nm=false then(k,0,1)
 else if Am k.zZ<0 then(k,0,4)
 else({k with zZ:=k.zZ.set (Am k.zZ).toNat ⟨1,c.nm,0⟩,mem:=k.mem.set (Am k.zZ).toNat [0,0,0,0]},Am k.zZ,0)
def J4(k:AN)(c:Aa):ML:=
 if(zS k.zZ c.a.toNat).k≠1 then(k,0,3)
 else if(zS k.zZ c.a.toNat).r≠0 then(k,0,2)
 else({k with zZ:=k.zZ.set c.a.toNat AU.zero},0,0)
def KB(k:AN)(c:Aa):ML:=
 if(zS k.zZ c.a.toNat).k≠1∨Be c.b 0 3=false∨EA c.c=false then(k,0,3)
 else({k with mem:=CZ k.mem c.a.toNat c.b.toNat c.c},0,0)
def Mw(n:Int):Int:=if n=0 then 0 else if n=1 then 2 else 3
def EH(k:AN)(r:List AU×Int):ML:=if r.2=0 then({k with zZ:=r.1},0,0) else(k,0,Mw r.2)
def DK(k:AN)(w:Int):List Nat:=if Bh w then A9 w::(if Bd (zS k.zZ (A9 w)).k then named (AH k.mem (A9 w)) else[]) else[]
def Fd(k:AN)(a:Nat):List Nat:=(yC 3).filter λe=>(BZ k.mem (AJ k.zX e).root).contains a
def A4(zZ:List AU)(w:Int)(n:Int):List AU:=if Bh w then As zZ (A9 w) (JS n) else zZ
def Dk(k:AN)(c:Aa):Bool:=if Bh c.c then decide ((zS k.zZ (A9 c.c)).k=(zS k.zZ c.a.toNat).k - 1) else decide (c.c=0)
def Gz(k:AN)(c:Aa):ML:=
 if Bd (zS k.zZ c.a.toNat).k=false∨Be c.b 0 3=false∨Dk k c=false then(k,0,3)
 else if(Fd k c.a.toNat).all (λe=>BG k.zZ (DK k c.c) (AJ k.zX e).zT)=false then(k,0,1)
 else if Bh c.c=true/\Fb k c.e (zS k.zZ (A9 c.c)).g=false then(k,0,1)
 else({k with mem:=CZ k.mem c.a.toNat c.b.toNat c.c,zZ:=A4 (A4 k.zZ (Ar k.mem c.a.toNat c.b.toNat) (-1)) c.c 1,zW:=(Fd k c.a.toNat).foldl (λc e=>Fz c (e:Nat)) k.zW},0,0)
def Dn(n:Int)(e:EU):EU:= {e with root:=n}
def Ob(k:AN)(c:Aa):ML:=
 if c.a≠ -1/\(Be c.a 0 11=false∨(zS k.zZ c.a.toNat).k≠3) then(k,0,3)
 else if BG k.zZ (BZ k.mem c.a) (AJ k.zX c.e.toNat).zT=false then(k,0,1)
 else
  let i1:=if 0<=(AJ k.zX c.e.toNat).root then As k.zZ (AJ k.zX c.e.toNat).root.toNat (JS (-1)) else k.zZ
  ({k with zZ:=if 0<=c.a then As i1 c.a.toNat (JS 1) else i1,zX:=As k.zX c.e.toNat (Dn c.a),zW:=Fz k.zW c.e},0,0)
def BU(ss:List ByteArray)(e:EU):EU:= {e with zT:=ss}
def LF(k:AN)(c:Aa):ML:=
 if Be c.a 0 2=false∨BP c.nm=false then(k,0,3)
 else if Fb k c.e c.nm=false then(k,0,1)
 else if(Cm (AJ k.zX c.a.toNat).zT c.nm).2=false then(k,0,4)
 else({k with zX:=As k.zX c.a.toNat (BU (Cm (AJ k.zX c.a.toNat).zT c.nm).1)},0,0)
def Jp(k:AN)(c:Aa):ML:=
 if Be c.a 0 2=false∨c.a=c.e∨BP c.nm=false then(k,0,3)
 else if Fb k c.e c.nm=false then(k,0,1)
 else if BG k.zZ (BZ k.mem (AJ k.zX c.a.toNat).root) (DB (AJ k.zX c.a.toNat).zT c.nm)=false then(k,0,2)
 else({k with zX:=As k.zX c.a.toNat (BU (DB (AJ k.zX c.a.toNat).zT c.nm))},0,0)
def Qa(k:AN)(c:Aa):ML:=
 let root:=(AJ k.zX c.e.toNat).root
 if Be c.a 0 63=false∨root<0∨(c.k=11/\EA c.b=false) then(k,0,3)
 else
  let x:=Bu k.mem root.toNat c.a.toNat
  if x.1≠0 then(k,0,3)
  else if c.k=11/\x.2.2=false then(k,0,1)
  else
   let zW:=if IB k.zW c.e (c.a/4)<0 then My k.zW ⟨c.e,c.a/4,x.2.1,x.2.2⟩ else k.zW
   if c.k=11 then({k with mem:=CZ k.mem x.2.1 (c.a%4).toNat c.b,zW:=zW},0,0)
   else({k with zW:=zW},Ar k.mem x.2.1 (c.a%4).toNat,0)
def Gh(k:AN)(c:Aa):ML:=
 if Be c.a 0 11=false∨(zS k.zZ c.a.toNat).k=0∨(c.k=4/\Bd c.b=false) then(k,0,3)
 else if Fb k c.e (zS k.zZ c.a.toNat).g=false then(k,0,1)
 else if c.k=2 then J4 k c
 else if c.k=3 then KB k c
 else if c.k=4 then EH k (Hy k.mem k.zZ c.a.toNat c.b (AJ k.zX c.e.toNat).zT)
 else if c.k=5 then EH k (Dm k.mem k.zZ c.a.toNat)
 else Gz k c
def Ad(k:AN)(c:Aa):ML:=
 if c.k=1 then Ix k c
 else if Be c.k 2 6 then Gh k c
 else if c.k=7 then Ob k c
 else if c.k=8 then LF k c
 else if c.k=9 then Jp k c
 else if c.k=10∨c.k=11 then Qa k c
 else(k,0,3)
open Go.RowKit
def nth(xs:List Int)(k:Nat):Int:=xs.getD k 0
def Rd(w:World)(v:Value)(sz n:Nat)(xs:List Value):Prop:=
 ∃a ai,v=.slice a n ai/\n<=ai/\ai<=maxLen/\xs.length=n*sz/\(a=none->ai=0)/\
  (0<n->∃b ac,a=some ⟨b,ac,none⟩/\∀j,j<n*sz->w.cell? ⟨b,ac+j,none⟩=xs[j]?)
theorem Rd.of_owns{w:World}{base e sz n:Nat}{v:Value}{xs:List Value}(h:w.ownsRow base e sz v n xs):Rd w v sz n xs:=by
 rcases h.2 with⟨rfl,rfl⟩|⟨g,ai,a7,rfl,hb,hg,bq,a6,hcs,htake⟩
 .exact⟨none,0,rfl,yt _,by simp[maxLen],h.1,λ_=>rfl,λh=>absurd h (Nat.lt_irrefl _)⟩
 .refine⟨_,_,rfl,bq,a6,h.1,(λh=>by cases h),λ_=>⟨g,0,rfl,λj hj=>?_⟩⟩
  have:=h.cellAt j hj;simpa using this
theorem Rd.keep{w w':World}{sz n:Nat}{v:Value}{xs:List Value}(h:Rd w v sz n xs)(hk:∀k,k<w.heap.size->w'.heap[k]?=w.heap[k]?):Rd w' v sz n xs:=by
 obtain⟨a,ai,rfl,bq,a6,hl,a3,hc⟩:=h;refine⟨a,ai,rfl,bq,a6,hl,a3,λhn=>?_⟩;obtain⟨b,ac,rfl,ar⟩:=hc hn;refine⟨b,ac,rfl,λj hj=>?_⟩;have h1:=ar j hj;have cc:∃u,xs[j]?=some u:=⟨xs[j]'(by omega),yu (by omega)⟩
 obtain⟨u,hu⟩:=cc;rw[hu] at h1 ⊢;have ay:=yA w _ h1;exact(vX (hk _ ay)).trans h1
theorem Rd.below{w w':World}{sz n:Nat}{v:Value}{xs:List Value}(h:Rd w v sz n xs)(hb:Below w.heap.size w w'):Rd w' v sz n xs:=h.keep hb.block
theorem Rd.drewN{w:World}{sz n:Nat}{v:Value}{xs:List Value}(h:Rd w v sz n xs)(k:Nat):Rd (w.drewN k) v sz n xs:=h.keep (λ_ _=>rfl)
theorem Rd.alloc{w:World}{sz n:Nat}{v:Value}{xs:List Value}(h:Rd w v sz n xs)(o:Obj):Rd (w.alloc o) v sz n xs:=h.keep (λk hk=>(World.grownBy_alloc w o none).block k hk (by simp))
def Aw(w:World)(v:Value)(xs:List Int):Prop:=Rd w v 1 xs.length (xs.map (yf .i64))
def Io(w:World)(a:Option Addr)(xs:List Int):Prop:=
 ∀k,k<xs.length->∃b ac,a=some ⟨b,ac,none⟩/\∀j,j<xs.length->w.cell? ⟨b,ac+j,none⟩=some (.int .i64 (nth xs j))
theorem Pu{xs:List Int}(h:k<xs.length):xs[k]?=some (nth xs k):=by simp[nth,h]
theorem MU{xs:List Int}(h:k<xs.length):nth xs k=xs[k]:=by simp[nth,h]
theorem Aw.open{w:World}{v:Value}{xs:List Int}(h:Aw w v xs):
 ∃a ai,v=.slice a xs.length ai/\xs.length<=ai/\ai<=maxLen/\Io w a xs:=by
 obtain⟨a,ai,rfl,bq,a6,hl,_,hc⟩:=h;refine⟨a,ai,rfl,bq,a6,λk hk=>?_⟩;obtain⟨b,ac,rfl,ar⟩:=hc (by omega);refine⟨b,ac,rfl,λj hj=>?_⟩;rw[ar j (by omega),wK,Pu hj];rfl
theorem Io.at{w:World}{a:Option Addr}{xs:List Int}(h:Io w a xs){k:Nat}(hk:k<xs.length):
 ∃b ac,a=some ⟨b,ac,none⟩/\w.cell? ⟨b,ac+k,none⟩=some (.int .i64 (nth xs k)):=by
 obtain⟨b,ac,rfl,hc⟩:=h k hk;exact⟨b,ac,rfl,hc k hk⟩
theorem Io.keep{w w':World}{a:Option Addr}{xs:List Int}(h:Io w a xs)(hk:∀k,k<w.heap.size->w'.heap[k]?=w.heap[k]?):Io w' a xs:=by
 intro k c0;obtain⟨b,ac,rfl,hc⟩:=h k c0;exact⟨b,ac,rfl,λj hj=>(vX (hk _ (yA w _ (hc j hj)))).trans (hc j hj)⟩
theorem Io.below{w w':World}{a:Option Addr}{xs:List Int}(h:Io w a xs)(hb:Below w.heap.size w w'):Io w' a xs:=h.keep hb.block
theorem Aw.below{w w':World}{v:Value}{xs:List Int}(h:Aw w v xs)(hb:Below w.heap.size w w'):Aw w' v xs:=Rd.below h hb
theorem Aw.drewN{w:World}{v:Value}{xs:List Int}(h:Aw w v xs)(k:Nat):Aw (w.drewN k) v xs:=Rd.drewN h k
theorem Aw.keep{w w':World}{v:Value}{xs:List Int}(h:Aw w v xs)(hk:∀k,k<w.heap.size->w'.heap[k]?=w.heap[k]?):Aw w' v xs:=Rd.keep h hk
theorem Aw.alloc{w:World}{v:Value}{xs:List Int}(h:Aw w v xs)(o:Obj):Aw (w.alloc o) v xs:=Rd.alloc h o
def AF(lo:Nat)(w:World)(v:Value)(xs:List Int):Prop:=w.ownsRow lo 3 1 v xs.length (xs.map (yf .i64))
theorem AF.rd{lo:Nat}{w:World}{v:Value}{xs:List Int}(h:AF lo w v xs):Aw w v xs:=Rd.of_owns h
theorem AI{a b:Bool}(h:a=b):Ending.returned (.bool a)=.returned (.bool b):=by rw[h]
theorem Cb{a b:Int}(h:a=b):Ending.returned (.int .i64 a)=.returned (.int .i64 b):=by rw[h]
theorem LD(w:World)(a b:Nat):(w.drewN a).drewN b=w.drewN (a+b):=by simp[World.drewN,Nat.add_assoc]
theorem YY(w:World)(a:Nat):∃n,w.drewN a=w.drewN n:=⟨a,rfl⟩
theorem YZ(w:World)(a b:Nat):∃n,(w.drewN a).drewN b=w.drewN n:=⟨a+b,LD w a b⟩
theorem A8{B:Nat}{a w:World}(h:Below B a w)(n:Nat):Below B a (w.drewN n):=⟨h.os,h.tape,h.output,h.size,h.block⟩
def Ft(w:World)(v:Value)(bs:List Int):Prop:=Rd w v 1 bs.length (bs.map (yf .u8))/\∀b∈bs,0<=b/\b<256
theorem Cv(n lo hi:Int)(w:World):
 Calls prog 42 #[.int .i64 n,.int .i64 lo,.int .i64 hi] w λe w'=>e=.returned (.bool (Be n lo hi))/\w=w':=by
 by_cases h1:lo<=n
 .have e1:Be n lo hi=decide (n<=hi):=by simp[Be,h1]
  have H:=AA e1;clear e1;go_in;go_wp2;go_ret;exact⟨AI H.out.symm,rfl⟩
 .have e1:Be n lo hi=false:=by simp[Be,h1]
  have H:=AA e1;clear e1;go_in;go_wp2;go_ret;exact⟨AI H.out.symm,rfl⟩
theorem Dt(n lo hi:Int)(w:World):
 Calls prog 56 #[.int .i64 n,.int .i64 lo,.int .i64 hi] w λe w'=>e=.returned (.bool (Be n lo hi))/\w=w':=by
 by_cases h1:lo<=n
 .have e1:Be n lo hi=decide (n<=hi):=by simp[Be,h1]
  have H:=AA e1;clear e1;go_in;go_wp2;go_ret;exact⟨AI H.out.symm,rfl⟩
 .have e1:Be n lo hi=false:=by simp[Be,h1]
  have H:=AA e1;clear e1;go_in;go_wp2;go_ret;exact⟨AI H.out.symm,rfl⟩
theorem XV(n:Int)(w:World):
 Calls prog 197 #[.int .i64 n] w λe w'=>e=.returned (.bool (Be n 0 2))/\w=w':=by
 go_in;go_wp2_with (go_at_call 56;refine(Dt _ _ _ _).mono ?_;rintro e w' ⟨rfl,rfl⟩);go_ret;exact⟨rfl,rfl⟩
def findIdx(p:Int->Bool)(xs:List Int):Int:=if xs.any p then(xs.findIdx p:Int) else -1
theorem Sz{p:Int->Bool}{xs:List Int}(h:∀j,j<xs.length->p (nth xs j)=false):findIdx p xs= -1:=by
 unfold findIdx;have:xs.any p=false:=by rw[tr];intro x hx;obtain⟨j,hj,rfl⟩:=wP hx;have:=h j hj;rw[MU hj] at this;simp[this]
 simp[this]
theorem Vd{p:Int->Bool}{xs:List Int}(hk:k<xs.length)(h:∀j,j<k->p (nth xs j)=false)(hp:p (nth xs k)=true):findIdx p xs=k:=by
 unfold findIdx;rw[MU hk] at hp;have h1:xs.any p=true:=List.any_eq_true.2 ⟨xs[k],List.getElem_mem hk,hp⟩;have h2:xs.findIdx p=k:=by
  rw[List.findIdx_eq hk];refine⟨hp,λj hj=>?_⟩;have:=h j hj
  rwa [MU (by omega)] at this
 simp[h1,h2]
theorem Ve{p:Int->Bool}{xs:List Int}:decide (0<=findIdx p xs)=xs.any p:=by unfold findIdx;cases xs.any p<;>simp
theorem Qk(F:Nat)(a8:Array Value)(p:Int->Bool)(v:Value)(xs:List Int)(w:World)(h:Aw w v xs)
 (hF:∀args w,(callFunc F args).run prog w=.ok (.enter F args) w)(hf:∀x w,Calls prog F (#[.int .i64 x]++a8) w λe w'=>e=.returned (.bool (p x))/\w=w'):
 Calls prog 201 #[v,.func (.func F) #[] a8] w λe w'=>e=.returned (.int .i64 (findIdx p xs))/\w=w':=by
 obtain⟨a,c,rfl,hc,a6,H⟩:=h.open;clear h;unfold maxLen at a6;have Hf:=AA hf;clear hf;go_in;go_wp2;go_loop [8] (λi=>∃k:Nat,k<=xs.length/\i=.int .i64 k/\∀j,j<k->p (nth xs j)=false) (λi=>xs.length - (intOf i).toNat)
 case atStart=>exact⟨0,Nat.zero_le _,rfl,λj hj=>absurd hj (xP _)⟩
 case round=>
  obtain⟨k,hk,rfl,bf⟩:=hrel;have bb:=AA bf;clear bf
  by_cases ay:k<xs.length
  .obtain⟨b,ac,rfl,D⟩:=H.at ay
   clear H;cases hp:p (nth xs k)
   .have Hp:=AA hp;clear hp
    go_wp2_with (refine(Hf.out _ _).mono ?_;rintro e w' ⟨rfl,rfl⟩;rw[Hp.out]);go_round
    case rel=>exact⟨k+1,by omega,by go_num,λj hj=>by
     rcases xq.1 hj with h|h
     .exact bb.out j h
     .subst h;exact Hp.out⟩
    case measure=>simp[intOf];omega
   .have Hp:=AA hp;clear hp
    have bA:=AA (Vd (p:=p) ay bb.out Hp.out);go_wp2_with (refine(Hf.out _ _).mono ?_;rintro e w' ⟨rfl,rfl⟩;rw[Hp.out]);go_ret;exact⟨Cb bA.out.symm,rfl⟩
  .have bA:=AA (Sz (p:=p) (xs:=xs) (λj hj=>bb.out j (by omega)))
   go_wp2;go_ret;exact⟨Cb bA.out.symm,rfl⟩
theorem NW(F:Nat)(a8:Array Value)(p:Int->Bool)(v:Value)(xs:List Int)(w:World)(h:Aw w v xs)
 (hF:∀args w,(callFunc F args).run prog w=.ok (.enter F args) w)(hf:∀x w,Calls prog F (#[.int .i64 x]++a8) w λe w'=>e=.returned (.bool (p x))/\w=w'):
 Calls prog 152 #[v,.func (.func F) #[] a8] w λe w'=>e=.returned (.bool (xs.any p))/\w=w':=by
 have Hf:=AA hf;clear hf;go_in;go_wp2_with (go_at_call 201;refine(Qk F a8 p v xs _ h hF Hf.out).mono ?_;rintro e w' ⟨rfl,rfl⟩);go_ret;exact⟨AI Ve,rfl⟩
theorem Ak{p:Nat->Prop}(h:∀j,j<k->p j)(hk:p k):∀j,j<k+1->p j:=λj hj=>by
 rcases xq.1 hj with h'|h'
 .exact h j h'
 .subst h';exact hk
theorem Tryz.zI:(prog.info? 3).map (λi=>(i.zero,i.size,i.bytes))=some (some (.int .i64 0),1,8):=by kernel_rfl
theorem AF.below{lo:Nat}{w w':World}{v:Value}{xs:List Int}(h:AF lo w v xs)(hb:Below w.heap.size w w'):AF lo w' v xs:=by
 refine vx (row:=none) h ⟨hb.os,hb.tape,hb.output,hb.size,λk hk _=>hb.block k hk⟩ ?_;cases v.ownBlock<;>simp
theorem Co{lo:Nat}{w w':World}{v:Value}{e sz n:Nat}{xs:List Value}(h:w.ownsRow lo e sz v n xs)(hb:Below w.heap.size w w'):w'.ownsRow lo e sz v n xs:=by
 refine vx (row:=none) h ⟨hb.os,hb.tape,hb.output,hb.size,λk hk _=>hb.block k hk⟩ ?_;cases v.ownBlock<;>simp
theorem Below.zu{w w':World}(h:w.grownBy w' none):Below w.heap.size w w':=⟨h.os,h.tape,h.output,h.size,λk hk=>h.block k hk (by simp)⟩
theorem Un(z:Value)(hz:z.cells= #[z])(n:Nat):(madeCells z.cells (n*1)).toList=xV n z:=by rw[hz,Nat.mul_one,toList_madeCells_one]
theorem Ow{w:World}{ops:Array Oper}{rest:List Oper}{o:Oper}{a:Act}{Q:Exit->Act->World->Prop}{l:Operand}{t:TypeId}{n:Nat}
 (hg:o.guard=none)(bi:o.op=Op.makeSlice t l l)(e:TypeId)(z:Value)(bytes:Nat)(h1:prog.underlying t=some (.slice e))
 (h2:(prog.info? e).map (λi=>(i.zero,i.size,i.bytes))=some (some z,1,bytes))(hz:z.cells= #[z])
 (hl:a.eval l=.int .i64 n)(b2:bytes*n<=281474976710656)(b3:n<=maxLen)
 (hK:∀w',w'.ownsRow w.heap.size e 1 (.slice (some ⟨w.heap.size,0,none⟩) n n) n (xV n z)->Below w.heap.size w w'->w.heap.size<w'.heap.size->
  wpList prog ops Q rest (a.put o.dst (.slice (some ⟨w.heap.size,0,none⟩) n n)) w'):wpList prog ops Q (o::rest) a w:=by
 obtain⟨i0,hi,b9,b8,b7⟩:=info_parts h2;refine wpList_make_full w hg l l t bi w.heap.size e i0 z 1 h1 hi b9 b8 .i64 .i64 n n n hl hl rfl rfl (by rw[b7];exact b2) b3 (yt _) λw' h h'=>?_
 rw[Un z hz] at h;exact hK w' h (Below.zu h') (h.lt _ rfl).2
theorem Lm{xs ys:List Int}(hl:xs.length=ys.length)(h:∀j,j<xs.length->nth xs j=nth ys j):xs=ys:=by
 refine List.ext_getElem hl λj h1 h2=>?_
 have:=h j h1
 rwa [MU h1,MU h2] at this
theorem Xj{xs ys:List Int}(h:nth xs k≠nth ys k):decide (xs=ys)=false:=by simp only[decide_eq_false_iff_not];rintro rfl;exact h rfl
theorem Xi{xs ys:List Int}(h:xs.length≠ys.length):decide (xs=ys)=false:=by simp only[decide_eq_false_iff_not];rintro rfl;exact h rfl
theorem M9(v1 v2:Value)(xs ys:List Int)(w:World)(h1:Aw w v1 xs)(h2:Aw w v2 ys):
 Calls prog 19 #[v1,v2] w λe w'=>e=.returned (.bool (decide (xs=ys)))/\∃n,w'=w.drewN n:=by
 obtain⟨a1,c1,rfl,di,cG,H1⟩:=h1.open;obtain⟨a2,c2,rfl,dh,cF,H2⟩:=h2.open;clear h1 h2;unfold maxLen at cG cF
 by_cases bt:(xs.length:Int)=ys.length
 .have hb:((xs.length:Int) !=ys.length)=false:=by simp[bt]
  have cN:xs.length<=ys.length/\ys.length<=xs.length:=by omega
  clear bt;go_in;go_wp2;go_loopw [5] (λi wr=>∃k:Nat,k<=xs.length/\i=.int .i64 k/\(∀j,j<k->nth xs j=nth ys j)/\∃n,wr=w.drewN n) (λi _=>xs.length - (intOf i).toNat)
  case atStart=>exact⟨0,Nat.zero_le _,rfl,λj hj=>absurd hj (xP _),0,rfl⟩
  case round=>
   obtain⟨k,hk,rfl,bf,n,rfl⟩:=hrel;have bb:=AA bf;clear bf
   by_cases ay:k<xs.length
   .obtain⟨b1,o1,rfl,D1⟩:=H1.at ay
    have cv:k<ys.length:=by omega
    obtain⟨b2,o2,rfl,D2⟩:=H2.at cv;clear H1 H2
    by_cases he:nth xs k=nth ys k
    .have c8:(nth xs k !=nth ys k)=false:=by simp[he]
     have He:=AA he;clear he;go_wp2;go_quiet (fail);go_wp2;go_roundw
     case rel=>exact⟨k+1,by omega,by go_num,Ak bb.out He.out,_,rfl⟩
     case measure=>simp[intOf];omega
    .have c8:(nth xs k !=nth ys k)=true:=by simp[he]
     have a9:=AA (Xj he);clear he;go_wp2;go_quiet (fail);go_wp2;go_ret
     first|exact⟨AI a9.out.symm,YZ _ _ _⟩|exact⟨AI a9.out.symm,YY _ _⟩
   .have a9:=AA (Lm (xs:=xs) (ys:=ys) (by omega) (λj hj=>bb.out j (by omega)))
    go_wp2;go_ret;exact⟨AI (by simp[a9.out]),_,rfl⟩
 .have hb:((xs.length:Int) !=ys.length)=true:=by simp[bt]
  have a9:=AA (Xi (xs:=xs) (ys:=ys) (by omega));clear bt;go_in;go_wp2;go_ret;exact⟨AI a9.out.symm,0,rfl⟩
theorem El{lo:Nat}{w:World}{ops:Array Oper}{rest:List Oper}{o:Oper}{a:Act}{Q:Exit->Act->World->Prop}{s x:Operand}{t:TypeId}
 (cj:o.guard=none)(ho:o.op=.call {callee:=.builtin .append,args:= #[s,x],argTypes:= #[t,t]})
 (e:TypeId)(z:Value)(sz bytes:Nat)(ht:prog.underlying t=some (.slice e))(hi:(prog.info? e).map (λi=>(i.zero,i.size,i.bytes))=some (some z,sz,bytes))
 (cq:z.cells.size=sz)(bp:0<sz){v u:Value}{n m:Nat}{xs news:List Value}(hs:a.eval s=v)(av:w.ownsRow lo e sz v n xs)
 (hx:a.eval x=u)(hr:Rd w u sz m news)(h1:∀u∈news,u.oneCell'=true)(cK:n+m<=maxLen)(a5:(n+m)*bytes<=140737488355328)(ce:lo<=w.heap.size)
 (hK:∀v' w',w'.ownsRow lo e sz v' (n+m) (xs++news)->w.grownBy w' v.ownBlock->Below lo w w'->wpList prog ops Q rest (a.put o.dst v') w'):wpList prog ops Q (o::rest) a w:=by
 obtain⟨i0,bK,b9,b8,b7⟩:=info_parts hi;obtain⟨ao,c,rfl,cY,a6,hl,a3,hc⟩:=hr;have bm:∀w',w.grownBy w' v.ownBlock->Below lo w w':=λw' hg=>(yD lo w).grown hg ce (λk hk=>(av.lt k hk).1)
 cases ao with
 |none=>
  have ck:=a3 rfl;subst ck;obtain rfl:m=0:=by omega
  have bk:news=[]:=xO (by simpa using hl);subst bk;refine tq cj s x t ho lo e i0 sz ht bK v n xs hs av hx ?_;exact hK v w (by simpa using av) ⟨rfl,rfl,rfl,yt _,λ_ _ _=>rfl⟩ (yD _ _)
 |some ad=>
  refine wpList_append_own w cj s x t ho lo e i0 z sz bytes ht bK b9 b8 b7 cq bp v n xs hs av ad m c news hx hl ?_ h1 cK a5 ce (λv' w' h2 h3 _=>hK v' w' h2 h3 (bm w' h3));intro j u hu
  rcases vQ m with rfl|hm
  .simp at hl
   simp[hl] at hu
  .obtain⟨b,ac,cI,ar⟩:=hc hm
   obtain rfl:ad=⟨b,ac,none⟩:=by simpa using cI
   have hj:j<news.length:=(yr.1 hu).1;have b4:(⟨b,ac,none⟩:Addr).add j=⟨b,ac+j,none⟩:=by unfold Addr.add;split<;>simp_all
   rw[b4,ar j (by omega),hu]
theorem Rd.news(w:World)(cs:Array Value)(e:TypeId)(sz n:Nat)(hs:cs.size=n*sz)(hn:n<=maxLen):Rd (w.alloc (.cells cs e)) (.slice (some ⟨w.heap.size,0,none⟩) n n) sz n cs.toList:=
 Rd.of_owns (World.ownsRow_lit (base:=w.heap.size) w cs n (yt _) hn hs)
theorem LP{xs:List Int}:∀u∈xs.map (yf .i64),u.oneCell'=true:=by intro u hu;obtain⟨x,_,rfl⟩:=List.mem_map.1 hu;rfl
theorem Cp(w:World)(e sz:Nat):(w.alloc (.cells #[] e)).ownsRow w.heap.size e sz (.slice (some ⟨w.heap.size,0,none⟩) 0 0) 0 []:=
 World.ownsRow_made w #[] 0 (yt _) (by simp[maxLen]) (by simp)
theorem IM(v:Value)(xs:List Int)(w:World)(h:Aw w v xs)(hs:xs.length<=1048576):
 Calls prog 65 #[v] w λe w'=>∃v',e=.returned v'/\AF w.heap.size w' v' xs/\Below w.heap.size w w':=by
 have h':=h;obtain⟨a,c,rfl,bq,a6,hl,a3,hc⟩:=h';have hq:=λw=>Lib.run_eql_slice_nil (P:=prog) w 29 3 a xs.length c 0 0 underlying29
 cases a with
 |none=>have ck:=a3 rfl;subst ck;have h0:xs=[]:=xO (by omega);subst h0;simp only[List.length_nil] at hq;go_in;go_wp2;go_ret;exact⟨_,rfl,World.ownsRow_nil _ _ _ _,yD _ _⟩
 |some ad=>clear hc a3;go_in;go_wp2_with (refine El (lo:=w.heap.size) (v:=.slice (some ⟨w.heap.size,0,none⟩) 0 0) (n:=0) (xs:=[]) (m:=xs.length) (news:=xs.map (yf .i64)) rfl rfl 3 (.int .i64 0) 1 8 underlying29 Tryz.zI rfl (by decide) rfl (Cp _ _ _) rfl (h.alloc _) LP (by unfold maxLen;omega) (by omega) (by simp) ?_;intro v' w' av _ bm);go_ret;refine⟨_,rfl,by simpa[AF] using av,((yD _ _).alloc (yt _) _).trans bm⟩
theorem JN{w:World}{lo e sz n:Nat}{v:Value}{xs:List Value}(h:w.ownsRow lo e sz v n xs)(hn:0<n):∃g ai,v=.slice (some ⟨g,0,none⟩) n ai/\lo<=g/\g<w.heap.size:=by
 have ay:=h.lt
 rcases h.2 with⟨_,rfl⟩|⟨g,ai,a7,rfl,hb,hg,_⟩
 .omega
 .exact⟨g,ai,rfl,hb,(ay g rfl).2⟩
theorem FV{xs:List Int}{a:Nat}(h:a<xs.length):(xs.map (yf .i64))[a]?=some (.int .i64 (nth xs a)):=by rw[wK,Pu h];rfl
theorem Zx{lo:Nat}{w:World}{v:Value}{xs:List Int}{a:Nat}{x:Int}(h:w.ownsRow lo 3 1 v xs.length ((xs.map (yf .i64)).set a (.int .i64 x))):AF lo w v (xs.set a x):=by unfold AF;rw[xS,List.map_set];exact h
theorem TW{xs:List Int}{a:Nat}{x:Int}(ha:a<xs.length):nth (xs.set a x) j=if j=a then x else nth xs j:=by
 unfold nth;rw[xR,xR,we]
 by_cases h:a=j
 .subst h;simp[ha]
 .have h':j≠a:=λe=>h e.symm
  simp[h,h']
def lenOf:Value->Nat| .slice _ n _=>n|_=>0
def Ci{α:Type}(cs:α->List Value)(xs:List α):List Value:=xs.flatMap cs
theorem IG{α:Type}(cs:α->List Value)(x:α)(xs:List α):Ci cs (x::xs)=cs x++Ci cs xs:=rfl
theorem Bm{α:Type}(cs:α->List Value)(xs ys:List α):Ci cs (xs++ys)=Ci cs xs++Ci cs ys:=List.flatMap_append
theorem Er{α:Type}(cs:α->List Value)(x:α):Ci cs [x]=cs x:=by simp[Ci]
theorem J3{α:Type}{cs:α->List Value}{sz:Nat}(hs:∀x,(cs x).length=sz)(xs:List α):(Ci cs xs).length=xs.length*sz:=by
 induction xs with
 |nil=>simp[Ci]
 |cons x xs ih=>rw[IG,yj,hs,ih,vW,uG];omega
theorem Oq{α:Type}{cs:α->List Value}{sz:Nat}(hs:∀x,(cs x).length=sz){xs:List α}{k:Nat}{x:α}(h:xs[k]?=some x){j:Nat}(hj:j<sz):(Ci cs xs)[k*sz+j]?=(cs x)[j]? :=by
 induction xs generalizing k with
 |nil=>simp at h
 |cons y ys ih=>
  cases k with
  |zero=>simp only[List.getElem?_cons_zero,Option.some.injEq] at h;subst h;rw[IG,xh (by rw[hs];omega)];simp
  |succ k=>
   rw[List.getElem?_cons_succ] at h;rw[IG,List.getElem?_append_right (by rw[hs,uG];omega),hs,<-ih h]
   congr 1
   rw[uG];omega
def Sk{α:Type}(sz:Nat)(cs:α->List Value)(w:World)(a:Option Addr)(xs:List α):Prop:=
 ∀(k:Nat) x,xs[k]?=some x->∃b ac,a=some ⟨b,ac,none⟩/\b<w.heap.size/\∀(j:Nat) u,(cs x)[j]?=some u->w.cell? ⟨b,ac+k*sz+j,none⟩=some u
theorem Sk.below{α:Type}{sz:Nat}{cs:α->List Value}{w w':World}{a:Option Addr}{xs:List α}(h:Sk sz cs w a xs)(hb:Below w.heap.size w w'):Sk sz cs w' a xs:=by
 intro k x hk;obtain⟨b,ac,rfl,ay,hc⟩:=h k x hk;exact⟨b,ac,rfl,xX ay hb.size,λj u hu=>(hb.cell (p:=⟨b,ac+k*sz+j,none⟩) ay).trans (hc j u hu)⟩
theorem Sk.of{α:Type}{sz:Nat}{cs:α->List Value}(hs:∀x,(cs x).length=sz)(bp:0<sz){w:World}{a:Option Addr}{n c:Nat}{xs:List α}(h:Rd w (.slice a n c) sz xs.length (Ci cs xs)):Sk sz cs w a xs:=by
 obtain⟨a',ai,hv,bq,a6,hl,_,hc⟩:=h;simp only[Value.slice.injEq] at hv;obtain⟨rfl,rfl,rfl⟩:=hv;intro k x hk;have ay:=(yr.1 hk).1;obtain⟨b,ac,rfl,ar⟩:=hc (by omega);have cn:∀(j:Nat) u,(cs x)[j]?=some u->w.cell? ⟨b,ac+k*sz+j,none⟩=some u:=by
  intro j u hu;have hj:j<sz:=by rw[<-hs x];exact(yr.1 hu).1
  have hm:k*sz+sz<=xs.length*sz:=by rw[<-uG];exact Nat.mul_le_mul_right _ ay
  rw[Nat.add_assoc,ar (k*sz+j) (by omega),Oq hs hk hj,hu]
 refine⟨b,ac,rfl,?_,cn⟩;have h0:(cs x)[0]?=some ((cs x)[0]'(by rw[hs];omega)):=yu _;exact yA w _ (cn 0 _ h0)
theorem Rd.shape{w:World}{v:Value}{sz n:Nat}{xs:List Value}(h:Rd w v sz n xs):∃a ai,v=.slice a n ai/\n<=ai/\ai<=maxLen:=by obtain⟨a,ai,rfl,bq,a6,_⟩:=h;exact⟨a,ai,rfl,bq,a6⟩
def Lx(w:World)(g o:Nat):Nat->List Value->World
 |_,[]=>w
 |j,u::us=>Lx (w.setCell ⟨g,o+j,none⟩ u) g o (j+1) us
def JF(xs:List Value)(o:Nat):Nat->List Value->List Value
 |_,[]=>xs
 |j,u::us=>JF (xs.set (o+j) u) o (j+1) us
theorem U0(A B C us:List Value)(j:Nat)(hB:B.length=us.length)(o:Nat)(ho:A.length=o+j):JF (A++B++C) o j us=A++us++C:=by
 induction us generalizing A B j with
 |nil=>simp at hB;subst hB;simp[JF]
 |cons u us ih=>
  cases B with
  |nil=>simp at hB
  |cons b B=>
   rw[JF,<-ho];have e:(A++b::B++C).set A.length u=(A++[u])++B++C:=by simp[List.set_append_right]
   rw[e,ih (A++[u]) B (j+1) (by simpa using hB) (by simp;omega)];simp
theorem Ih{w:World}{lo e sz g n:Nat}{xs:List Value}(h:w.ownsRow lo e sz (.slice (some ⟨g,0,none⟩) n ai) n xs)(o j:Nat)(us:List Value):
 (Lx w g o j us).ownsRow lo e sz (.slice (some ⟨g,0,none⟩) n ai) n (JF xs o j us)/\w.grownBy (Lx w g o j us) (some g):=by
 induction us generalizing w xs j with
 |nil=>exact⟨h,⟨rfl,rfl,rfl,yt _,λ_ _ _=>rfl⟩⟩
 |cons u us ih=>obtain⟨s1,s2⟩:=vP h (o+j) u;obtain⟨t1,t2⟩:=ih s1 (j+1);exact⟨t1,⟨t2.os.trans s2.os,t2.tape.trans s2.tape,t2.output.trans s2.output,yB s2.size t2.size,λb hb am=>(t2.block b (xX hb s2.size) am).trans (s2.block b hb am)⟩⟩
theorem Cx{α:Type}{xs:List α}{x:α}(h:xs[k]?=some x):xs.take (k+1)=xs.take k++[x]:=by obtain⟨ay,rfl⟩:=yr.1 h;exact List.take_succ_eq_append_getElem ay
theorem UT{α:Type}{cs:α->List Value}{sz:Nat}(hs:∀x,(cs x).length=sz){xs:List α}{k:Nat}(hk:k<xs.length)(y:α):JF (Ci cs xs) (k*sz) 0 (cs y)=Ci cs (xs.set k y):=by
 have e1:xs=xs.take k++[xs[k]]++xs.drop (k+1):=by simp
 have e2:xs.set k y=xs.take k++[y]++xs.drop (k+1):=by rw[List.set_eq_take_append_cons_drop,if_pos hk];simp
 rw[e2]
 conv=>lhs;rw[e1]
 rw[Bm,Bm,Bm,Bm,Er,Er];exact U0 _ _ _ _ 0 (by rw[hs,hs]) _ (by rw[J3 hs,List.length_take];congr 1;omega)
def IN(w:World)(lo e sz g n ai:Nat)(wr:World):Prop:=∃cs:List Value,wr.ownsRow lo e sz (.slice (some ⟨g,0,none⟩) n ai) n cs/\w.grownBy wr (some g)
theorem IN.set{w:World}{lo e sz g n:Nat}(h:IN w lo e sz g n ai wr)(j:Nat)(u:Value):IN w lo e sz g n ai (wr.setCell ⟨g,j,none⟩ u):=by
 obtain⟨cs,h1,h2⟩:=h;obtain⟨s1,s2⟩:=vP h1 j u;exact⟨_,s1,s2.os.trans h2.os,s2.tape.trans h2.tape,s2.output.trans h2.output,yB h2.size s2.size,λb hb am=>(s2.block b (xX hb h2.size) am).trans (h2.block b hb am)⟩
theorem IN.below{w w1:World}{lo e sz g n:Nat}(h:IN w lo e sz g n ai wr)(hb:Below wr.heap.size wr w1):IN w lo e sz g n ai w1:=by
 obtain⟨cs,h1,h2⟩:=h;exact⟨_,Co h1 hb,hb.os.trans h2.os,hb.tape.trans h2.tape,hb.output.trans h2.output,yB h2.size hb.size,λb cO am=>(hb.block b (xX cO h2.size)).trans (h2.block b cO am)⟩
theorem IN.cell{w:World}{lo e sz g n:Nat}(h:IN w lo e sz g n ai wr)(j:Nat)(hj:j<n*sz):∃u,wr.cell? ⟨g,j,none⟩=some u:=by obtain⟨cs,h1,h2⟩:=h;have hl:=h1.1;exact⟨_,(h1.cellAt j hj).trans (yu (by omega))⟩
theorem IN.frozen{w:World}{lo e sz g n:Nat}(h:IN w lo e sz g n ai wr)(j:Nat):wr.frozen? ⟨g,j,none⟩=false:=h.choose_spec.1.frozenAt j
theorem AE(w:World)(a:Obj):Below w.heap.size w (w.alloc a):=(yD _ _).alloc (yt _) _
theorem HJ(w:World)(a b:Obj):Below w.heap.size w ((w.alloc a).alloc b):=(AE w a).alloc (by simp) _
theorem YQ(w:World)(a b c:Obj):Below w.heap.size w (((w.alloc a).alloc b).alloc c):=(HJ w a b).alloc (by simp;omega) _
theorem aS(w:World)(a b c d:Obj):Below w.heap.size w ((((w.alloc a).alloc b).alloc c).alloc d):=(YQ w a b c).alloc (by simp;omega) _
theorem aH{W w1:World}(hb:Below W.heap.size W w1):(∀b o,b<W.heap.size->w1.cell? ⟨b,o,none⟩=W.cell? ⟨b,o,none⟩)/\(∀b o,b<W.heap.size->w1.frozen? ⟨b,o,none⟩=W.frozen? ⟨b,o,none⟩):=
 ⟨λb o h=>hb.cell (p:=⟨b,o,none⟩) h,λb o h=>hb.frozen (p:=⟨b,o,none⟩) h⟩
theorem Bc{lo:Nat}{w:World}{ops:Array Oper}{rest:List Oper}{o:Oper}{a:Act}{Q:Exit->Act->World->Prop}{s x:Operand}{t:TypeId}
 (cj:o.guard=none)(ho:o.op=.call {callee:=.builtin .append,args:= #[s,x],argTypes:= #[t,t]})
 (e:TypeId)(z:Value)(sz bytes:Nat)(ht:prog.underlying t=some (.slice e))(hi:(prog.info? e).map (λi=>(i.zero,i.size,i.bytes))=some (some z,sz,bytes))
 (cq:z.cells.size=sz)(bp:0<sz){v u:Value}{n m:Nat}{xs news:List Value}(hs:a.eval s=v)(av:w.ownsRow lo e sz v n xs)
 (hx:a.eval x=u)(hr:Rd w u sz m news)(h1:∀u∈news,u.oneCell'=true)(cK:n+m<=maxLen)(a5:(n+m)*bytes<=140737488355328)(ce:lo<=w.heap.size)
 (hK:∀v' w',w'.ownsRow lo e sz v' (n+m) (xs++news)->w.grownBy w' v.ownBlock->(v'.ownBlock=v.ownBlock∨v'.ownBlock=some w.heap.size)->Below lo w w'->wpList prog ops Q rest (a.put o.dst v') w'):wpList prog ops Q (o::rest) a w:=by
 obtain⟨i0,bK,b9,b8,b7⟩:=info_parts hi;obtain⟨ao,c,rfl,cY,a6,hl,a3,hc⟩:=hr;have bm:∀w',w.grownBy w' v.ownBlock->Below lo w w':=λw' hg=>(yD lo w).grown hg ce (λk hk=>(av.lt k hk).1)
 cases ao with
 |none=>
  have ck:=a3 rfl;subst ck;obtain rfl:m=0:=by omega
  have bk:news=[]:=xO (by simpa using hl);subst bk;refine tq cj s x t ho lo e i0 sz ht bK v n xs hs av hx ?_;exact hK v w (by simpa using av) ⟨rfl,rfl,rfl,yt _,λ_ _ _=>rfl⟩ (.inl rfl) (yD _ _)
 |some ad=>
  refine wpList_append_own_at w cj s x t ho lo e i0 z sz bytes ht bK b9 b8 b7 cq bp v n xs hs av ad m c news hx hl ?_ h1 cK a5 ce (λv' w' h2 h3 _ h5=>hK v' w' h2 h3 h5 (bm w' h3));intro j u hu
  rcases vQ m with rfl|hm
  .simp at hl
   simp[hl] at hu
  .obtain⟨b,ac,cI,ar⟩:=hc hm
   obtain rfl:ad=⟨b,ac,none⟩:=by simpa using cI
   have hj:j<news.length:=(yr.1 hu).1;have b4:(⟨b,ac,none⟩:Addr).add j=⟨b,ac+j,none⟩:=by unfold Addr.add;split<;>simp_all
   rw[b4,ar j (by omega),hu]
theorem Rd.zC(w:World)(cs:Array Value)(e:TypeId)(sz n g:Nat)(hg:g=w.heap.size)(hs:cs.size=n*sz)(hn:n<=maxLen):Rd (w.alloc (.cells cs e)) (.slice (some ⟨g,0,none⟩) n n) sz n cs.toList:=by subst hg;exact Rd.news w cs e sz n hs hn
theorem Av{lo e sz n:Nat}{w w':World}{v:Value}{xs:List Value}{row:Option Nat}(h:w.ownsRow lo e sz v n xs)(hg:w.grownBy w' row)(am:v.ownBlock=none∨v.ownBlock≠row):w'.ownsRow lo e sz v n xs:=vx h hg am
theorem BO{lo e sz n:Nat}{w:World}{v:Value}{xs:List Value}(h:w.ownsRow lo e sz v n xs)(hl:lo'<=lo):w.ownsRow lo' e sz v n xs:=by
 refine⟨h.1,?_⟩
 rcases h.2 with h'|⟨g,ai,a7,rfl,hb,rest⟩
 .exact .inl h'
 .exact .inr ⟨g,ai,a7,rfl,yB hl hb,rest⟩
theorem AP{w w' cL:World}{row:Option Nat}(h:w.grownBy w' row)(h':w'.grownBy cL row):w.grownBy cL row:=
 ⟨h'.os.trans h.os,h'.tape.trans h.tape,h'.output.trans h.output,yB h.size h'.size,λb hb am=>(h'.block b (xX hb h.size) am).trans (h.block b hb am)⟩
theorem AX{w w':World}(h:Below w.heap.size w w')(row:Option Nat):w.grownBy w' row:=⟨h.os,h.tape,h.output,h.size,λb hb _=>h.block b hb⟩
def Fg(v1 v2:Value):Prop:=∀k,v1.ownBlock=some k->v2.ownBlock≠some k
theorem Fg.symm{v1 v2:Value}(h:Fg v1 v2):Fg v2 v1:=λk h1 h2=>h k h2 h1
theorem Fg.ne{v1 v2:Value}(h:Fg v1 v2):v1.ownBlock=none∨v1.ownBlock≠v2.ownBlock:=by
 cases hv:v1.ownBlock with
 |none=>exact .inl rfl
 |some k=>exact .inr λe=>h k hv e.symm
theorem Fg.grown{v v' u:Value}{B:Nat}(h:Fg v u)(hv:v'.ownBlock=v.ownBlock∨v'.ownBlock=some B)(hu:∀k,u.ownBlock=some k->k<B):Fg v' u:=by
 intro k hk cM
 rcases hv with e|e
 .exact h k (e▸hk) cM
 .rw[e] at hk
  cases hk;exact absurd (hu _ cM) (Nat.lt_irrefl _)
theorem mixed:prog.follows .mixedOrders=true:=by kernel_rfl
section
variable {P:Program}
def Ae(l:List Oper)(i:Nat):Nat:=((l[i]?).bind (·.dst)).getD 0
def Aj(l:List Oper)(is:List Nat)(vs:Nat->Value)(b:Array Value):Array Value:=is.foldl (λb i=>b.setIfInBounds (Ae l i) (vs i)) b
def IJ(l:List Oper)(n:Nat):Bool:=
 decide (n<l.length)&&sN .any l.toArray n&&sY .any l.toArray n&&
 ((yC n).all λi=>match l[i]? with|some o=>o.dst.isSome|none=>false)&&
 ((yC n).all λi=>(yC n).all λj=>i==j||Ae l i !=Ae l j)&&
 Region.seqB .any l.toArray (l.length - n) n (tI (n:=l.length) λi=>decide (i.val<n))&&
 ((yC l.length).all λj=>match l[j]? with|some o=>o.after.all λe=>!uO .any e||decide (e.on<j)|none=>false)
def GP(L:Nat->Bool)(i:Nat):Nat->Bool:=λj=>if j=i then true else L j
theorem DU{L:Nat->Bool}{i:Nat}(h:GP L i j=false):L j=false:=by
 unfold GP at h
 split at h
 .cases h
 .exact h
def AV(P:Program)(l:List Oper)(o:Oper)(a:Act)(w:World)(K:Act->World->Prop)(Q:Exit->Act->World->Prop):Prop:=
 (xG o (yielded l.toArray a.tmps)=true->vG P o a w K Q)/\(xG o (yielded l.toArray a.tmps)=false->K (a.put o.dst undef) w)
theorem AV.of{P:Program}{l:List Oper}{o:Oper}{a:Act}{w:World}{K:Act->World->Prop}{Q:Exit->Act->World->Prop}(hg:o.guard=none)(h:vG P o a w K Q):AV P l o a w K Q:=
 ⟨λ_=>h,λhw=>by simp[xG,hg] at hw⟩
theorem yE{P:Program}{l:List Oper}{o:Oper}{a:Act}{w:World}{K:Act->World->Prop}{Q:Exit->Act->World->Prop}(h:vG P o a w K Q)(hg:o.guard=none:=by rfl):AV P l o a w K Q:=AV.of hg h
theorem NQ{l:List Oper}{tmps:Array Value}{g d:Nat}{b:Bool}(hd:(l[g]?).bind (·.dst)=some d)(hv:tmps[d]?.getD undef=.bool b):yielded l.toArray tmps g=some b:=by
 have h:(l.toArray[g]?).bind (·.dst)=some d:=by simpa using hd
 cases hx:tmps[d]? with
 |none=>rw[hx] at hv;simp[undef] at hv
 |some x=>rw[hx] at hv;simp at hv;subst hv;unfold yielded;rw[h,wj,hx]
theorem AV.yes{P:Program}{l:List Oper}{o:Oper}{a:Act}{w:World}{K:Act->World->Prop}{Q:Exit->Act->World->Prop}{g d:Nat}{b:Bool}(hg:o.guard=some (g,b))(hd:(l[g]?).bind (·.dst)=some d)(hv:a.tmps[d]?.getD undef=.bool b)(h:vG P o a w K Q):AV P l o a w K Q:=
 ⟨λ_=>h,λhw=>by simp[xG,hg,NQ hd hv] at hw⟩
theorem AV.no{P:Program}{l:List Oper}{o:Oper}{a:Act}{w:World}{K:Act->World->Prop}{Q:Exit->Act->World->Prop}{g d:Nat}{b:Bool}(hg:o.guard=some (g,b))(hd:(l[g]?).bind (·.dst)=some d)(hv:a.tmps[d]?.getD undef=.bool (!b))(h:K (a.put o.dst undef) w):AV P l o a w K Q:=
 ⟨λhw=>by rw[xG,hg] at hw;simp only[NQ hd hv] at hw;cases b<;>simp at hw,λ_=>h⟩
theorem Bl{a:Act}{v:Value}(h:a.tmps[t]?.getD undef=v):a.eval (.tmp t)=v:=by
 show a.tmps.getD t undef=v
 rw[uy];exact h
theorem Cr{P:Program}{o:Oper}{a:Act}{w w':World}{K:Act->World->Prop}{Q:Exit->Act->World->Prop}{s x:Operand}{t:TypeId}(ho:o.op=.call {callee:=.builtin .append,args:= #[s,x],argTypes:= #[t,t]})
 {v u v':Value}(hs:a.eval s=v)(hx:a.eval x=u)(cr:(Builtin.append_ #[t,t] o.type #[v,u]).run P w=.ok v' w')(h:K (a.put o.dst v') w'):vG P o a w K Q:=by
 unfold vG execOp;simp only[ho,resolve,invoke,builtin,vK,Sem.run_pure,wF,List.map_toArray,vD,uL,hs,hx,cr];exact h
def Bb(l:List Oper)(i:Nat):Option Nat:=(l[i]?).bind (·.dst)
def D8(l:List Oper)(tmps:Array Value)(i:Nat):Value:=match Bb l i with|some d=>tmps[d]?.getD undef|none=>undef
theorem YC{l:List Oper}{a:Act}{i:Nat}{o:Oper}{v:Value}(ho:l[i]?=some o)(am:Bb l i=none∨Bb l i≠Bb l j):D8 l (a.put o.dst v).tmps j=D8 l a.tmps j:=by
 have e:Bb l i=o.dst:=by simp[Bb,ho]
 rw[e] at am;unfold D8;cases hj:Bb l j with
 |none=>rfl
 |some d=>
  cases hd:o.dst with
  |none=>rfl
  |some d'=>
   have:d'≠d:=by
    rintro rfl
    rcases am with h|h
    .rw[hd] at h;cases h
    .exact h (by rw[hd,hj])
   simp only[Act.put];rw[wL this]
theorem YB{l:List Oper}{a:Act}{i:Nat}{o:Oper}{v:Value}(ho:l[i]?=some o)(hN:∀d,Bb l i=some d->d<a.tmps.size):D8 l (a.put o.dst v).tmps i=match o.dst with|some _=>v|none=>undef:=by
 have e:Bb l i=o.dst:=by simp[Bb,ho]
 unfold D8;rw[e];cases hd:o.dst with
 |none=>rfl
 |some d=>have:=hN d (by rw[e,hd]);simp[Act.put,this]
structure aN(l:List Oper)(n:Nat)(a0:Act)(I:(Nat->Bool)->(Nat->Value)->World->Prop)(ab:Array Bool)(a:Act)(w:World):Prop where
 head:HeadInv .any l.toArray n ab
 defers:a.defers=a0.defers
 size:a.tmps.size=a0.tmps.size
 base:∀t,(∀i,i<n->Bb l i≠some t)->a.tmps[t]?=a0.tmps[t]?
 inv:I (λj=>ab.getD j false) (D8 l a.tmps) w
theorem L9{ab:Array Bool}{i:Nat}(h:i<ab.size)(d:Bool):(ab.setIfInBounds i true).getD i d=true:=by simp[h]
def aG(l:List Oper):Bool:=(yC l.length).all λj=>match l[j]? with|some o=>o.after.all λe=>!uO .any e||decide (e.on<j)|none=>false
structure aO(l:List Oper)(n N:Nat):Prop where
 tail:(n<l.length/\sN .any l.toArray n=true/\sY .any l.toArray n=true/\Region.seqB .any l.toArray (l.length - n) n (tI (n:=l.length) λi=>decide (i.val<n))=true)∨n=l.length
 ne:∀i j,i<n->j<n->i≠j->Bb l i=none∨Bb l i≠Bb l j
 back:aG l=true
 fit:∀i,i<n->∀d,Bb l i=some d->d<N
theorem aN.wpAny{l:List Oper}{n:Nat}{a0:Act}{I:(Nat->Bool)->(Nat->Value)->World->Prop}{Q:Exit->Act->World->Prop}(hB:aO l n a0.tmps.size)
 (al:∀i,i<n->∀o,l[i]?=some o->∀a w,a.defers=a0.defers->a.tmps.size=a0.tmps.size->(∀t,(∀i,i<n->Bb l i≠some t)->a.tmps[t]?=a0.tmps[t]?)->
  ∀L:Nat->Bool,L i=false->(∀j,yg .any l.toArray i j=true->L j=true/\j<n)->(∀j j',L j=true->yg .any l.toArray j j'=true->L j'=true)->I L (D8 l a.tmps) w->
  ∀K:Act->World->Prop,(∀v w',(∀az,az i=(match o.dst with|some _=>v|none=>undef)->(∀j,j<n->j≠i->az j=D8 l a.tmps j)->I (GP L i) az w')->K (a.put o.dst v) w')->AV P l o a w K Q)
 (ae:∀a w,a.defers=a0.defers->a.tmps.size=a0.tmps.size->(∀t,(∀i,i<n->Bb l i≠some t)->a.tmps[t]?=a0.tmps[t]?)->∀L:Nat->Bool,(∀i,i<n->L i=true)->I L (D8 l a.tmps) w->wpList P l.toArray Q (l.drop n) a w):
 ∀(f:Nat)(ab:Array Bool)(a:Act)(w:World),f=(l.length - n)+((yC n).filter λi=>!ab.getD i false).length->aN l n a0 I ab a w->Go.wpAny P .any l.toArray Q f ab a w:=by
 obtain⟨bN,am,au,hN⟩:=hB;have au:=au;unfold aG at au;have cZ:n<=l.length:=by rcases bN with h|h<;>omega
 have bn:∀i (o:Oper),l[i]?=some o->∀e∈o.after,uO .any e=true->e.on<i:=by intro i o ho e he hb;have:=yd.1 au i (xU.2 (yr.1 ho).1);rw[ho] at this;simpa[hb] using Array.all_eq_true'.1 this e he
 have none:∀(ab:Array Bool),(∀i,i<n->ab.getD i false=true)->((yC n).filter λi=>!ab.getD i false)=[]:=by intro ab ax;rw[List.filter_eq_nil_iff];intro i hi;simp[ax i (xU.1 hi)]
 intro f
 induction f with
 |zero=>
  intro ab a w hf inv;have dd:n=l.length:=by omega
  have ax:∀i,i<n->ab.getD i false=true:=by
   intro i hi;cases hx:ab.getD i false with
   |true=>rfl
   |false=>
    exfalso;have:i∈(yC n).filter λi=>!ab.getD i false:=wY.2 ⟨xU.2 hi,by simp[hx]⟩
    have:=tZ this;omega
  have hT:=ae a w inv.defers inv.size inv.base _ ax inv.inv;rw[List.drop_eq_nil_of_le (by omega)] at hT;refine⟨?_,hT⟩;rw[List.eq_nil_iff_forall_not_mem];intro i hi;obtain⟨cb,o,ho,_⟩:=mem_ready.1 hi;have de:i<l.length:=by have:=(wO.1 ho).1;simpa using this
  have:=getD_both cb;rw[ax i (by omega)] at this;cases this
 |succ f ih=>
  intro ab a w hf inv
  by_cases ax:∀i,i<n->ab.getD i false=true
  .rcases bN with⟨hn,_,_,bz⟩|hn
   .have br:ab=tI (n:=l.length) λi=>decide (i.val<n):=by
     have bp:ab.size=l.length:=by have:=inv.head.size;simpa using this
     apply Array.ext
     .simp[bp]
     .intro i h1 h2
      simp only[Array.getElem_ofFn]
      by_cases hi:i<n
      .have:=ax i hi
       simp[h1] at this;simp[hi,this]
      .have:=inv.head.tail i (by omega) (by simpa[bp] using h1)
       simp[h1] at this;simp[hi,this]
    have hT:=ae a w inv.defers inv.size inv.base _ ax inv.inv;have hW:=wpAny_of_seq (P:=P) (md:=.any) (ops:=l.toArray) (Q':=Q) (l.drop n) n ab a w (λj=>by simp[List.getElem?_drop]) (by rw[br];simpa using bz) hT;have e:(l.drop n).length=f+1:=by rw[none ab ax] at hf;simp at hf ⊢;omega
    rw[e] at hW;exact hW
   .rw[none ab ax] at hf
    simp at hf;omega
  .obtain⟨i0,bK⟩:=Classical.not_forall.1 ax
   obtain⟨bC,cy⟩:=Classical.not_imp.1 bK;have cz:ab.getD i0 false=false:=by simpa using cy
   have bp:ab.size=l.length:=by have:=inv.head.size;simpa using this
   have ci:ab.getD i0 true=false:=getD_in (by omega) cz;refine⟨λhr=>?_,λi hi=>?_⟩
   .exfalso
    have:∀k,∀i,i<k->i<n->ab.getD i true=false->False:=by
     intro k
     induction k with
     |zero=>intro i hi;omega
     |succ k ihk=>
      intro i dg bu cb;have cW:i∉Region.ready .any l.toArray ab:=by rw[hr];simp
      have ho:l[i]?=some l[i]:=yu (by omega);apply cW;rw[mem_ready];refine⟨cb,l[i],by simp,λe he hb=>?_⟩;have ay:=bn i _ ho e he hb;cases hx:ab.getD e.on false with
      |true=>rfl
      |false=>exact(ihk e.on (by omega) (by omega) (getD_in (by omega) hx)).elim
    exact this n i0 bC bC ci
   .obtain⟨cb,o,cu,cC⟩:=mem_ready.1 hi
    have ho:l[i]?=some o:=by simpa using cu
    have bu:i<n:=by
     rcases tQ i n with h|h
     .exact h
     .rcases bN with⟨hn,hs,hc,_⟩|hn
      .exact absurd hi (tail_waits hs hc (by simpa using hn) inv.head _ i0 rfl bC ci i h)
      .have:=(yr.1 ho).1;omega
    have ca:=getD_both cb;unfold Go.wpOp;rw[cu];have cw:∀j,yg .any l.toArray i j=true->ab.getD j false=true/\j<n:=by intro j hj;obtain⟨oj,ct,e,he,hb,rfl⟩:=tY hj;obtain rfl:oj=o:=yF (ct.symm.trans cu);have:=bn i _ ho e he hb;exact⟨cC e he hb,by omega⟩
    have cH:∀j j',ab.getD j false=true->yg .any l.toArray j j'=true->ab.getD j' false=true:=by intro j j' hj hw;obtain⟨oj,ct,e,he,hb,rfl⟩:=tY hw;exact inv.head.closed j oj ct hj e he hb
    have eL:(λj=>(ab.setIfInBounds i true).getD j false)=GP (λj=>ab.getD j false) i:=by
     funext j
     unfold GP
     by_cases b5:j=i
     .subst b5
      rw[if_pos rfl,L9 (by omega)]
     .rw[if_neg b5,getD_set_ne false (Ne.symm b5)]
    have hK:=al i bu o ho a w inv.defers inv.size inv.base _ ca cw cH inv.inv (Go.wpAny P .any l.toArray Q f (ab.setIfInBounds i true)) (λv w' hI=>by
     have b0:f=(l.length - n)+((yC n).filter λk=>!(ab.setIfInBounds i true).getD k false).length:=by
      have cd:i∈(yC n).filter λk=>!ab.getD k false:=by rw[wY];exact⟨xU.2 bu,by rw[ca];rfl⟩
      have cX:((yC n).filter λk=>!ab.getD k false).Nodup:=List.nodup_range.filter _;have he:((yC n).filter λk=>!(ab.setIfInBounds i true).getD k false)=((yC n).filter λk=>!ab.getD k false).erase i:=by
       rw[cX.erase_eq_filter,List.filter_filter];refine List.filter_congr λk hk=>?_
       by_cases cx:k=i
       .subst cx
        simp[L9 (show k<ab.size by omega)]
       .rw[getD_set_ne false (Ne.symm cx)]
        simp[cx]
      rw[he,List.length_erase_of_mem cd];have:=tZ cd;omega
     refine ih _ _ _ b0 ⟨inv.head.set hi bu,?_,?_,?_,?_⟩
     .cases hd:o.dst<;>simpa[Act.put] using inv.defers
     .cases hd:o.dst<;>simpa[Act.put] using inv.size
     .intro t ht
      rw[<-inv.base t ht];cases hd:o.dst with
      |none=>rfl
      |some d=>
       have:d≠t:=λe=>ht i bu (by simp[Bb,ho,hd,e])
       simp only[Act.put];rw[wL this]
     .rw[eL]
      exact hI _ (YB ho (λd hd=>by rw[inv.size];exact hN i bu d hd)) (λj hj b5=>YC ho (am i j bu hj (Ne.symm b5))))
    cases co:xG o (yielded l.toArray a.tmps) with
    |true=>dsimp only;rw[co,if_pos rfl];exact .inl (hK.1 co)
    |false=>dsimp only;rw[co,if_neg Bool.false_ne_true];exact hK.2 co
theorem Le{Q:Exit->Act->World->Prop}{a0:Act}{l:List Oper}{n:Nat}(hm:P.follows .mixedOrders=true){I:(Nat->Bool)->(Nat->Value)->World->Prop}(hB:aO l n a0.tmps.size)(hI:∀vs,I (λ_=>false) vs {w0 with drawn:=w0.drawn+1})
 (al:∀i,i<n->∀o,l[i]?=some o->∀a w,a.defers=a0.defers->a.tmps.size=a0.tmps.size->(∀t,(∀i,i<n->Bb l i≠some t)->a.tmps[t]?=a0.tmps[t]?)->
  ∀L:Nat->Bool,L i=false->(∀j,yg .any l.toArray i j=true->L j=true/\j<n)->(∀j j',L j=true->yg .any l.toArray j j'=true->L j'=true)->I L (D8 l a.tmps) w->
  ∀K:Act->World->Prop,(∀v w',(∀az,az i=(match o.dst with|some _=>v|none=>undef)->(∀j,j<n->j≠i->az j=D8 l a.tmps j)->I (GP L i) az w')->K (a.put o.dst v) w')->AV P l o a w K Q)
 (ae:∀a w,a.defers=a0.defers->a.tmps.size=a0.tmps.size->(∀t,(∀i,i<n->Bb l i≠some t)->a.tmps[t]?=a0.tmps[t]?)->∀L:Nat->Bool,(∀i,i<n->L i=true)->I L (D8 l a.tmps) w->wpList P l.toArray Q (l.drop n) a w):
 (vZ id l.toArray true).wp P Q a0 w0:=by
 refine wp_region_any hm ?_;refine aN.wpAny (a0:=a0) (I:=I) hB al ae _ _ _ _ ?_ ⟨⟨by simp,λj oj _ hl=>(by rw[uM] at hl;cases hl),λt _ ht=>by simp at ht ⊢;simp[ht]⟩,rfl,rfl,λ_ _=>rfl,?_⟩
 .have:((yC n).filter λi=>!(tf l.toArray.size false).getD i false)=yC n:=by
   rw[List.filter_eq_self];intro i _;rw[uM];rfl
  rw[this];have cZ:n<=l.length:=by rcases hB.tail with h|h<;>omega
  simp;omega
 .have e:(λj=>(tf l.toArray.size false).getD j false)=λ_=>false:=funext λj=>uM _ _
  rw[e];exact hI _
theorem Rk(l:List Oper):∀(is:List Nat)(b c:Array Value),c.size=b.size->(∀t,(∀i,i∈is->Ae l i≠t)->c[t]?=b[t]?)->
 c=Aj l is (λi=>c.getD (Ae l i) undef) b:=by
 intro is
 induction is with
 |nil=>intro b c hs h;exact tH λt=>h t (λi hi=>by cases hi)
 |cons i is ih=>
  intro b c hs h
  show c=Aj l is _ (b.setIfInBounds (Ae l i) (c.getD (Ae l i) undef))
  refine ih _ c (by simpa using hs) λt ht=>?_
  by_cases bx:Ae l i=t
  .subst bx
   rcases tQ (Ae l i) c.size with h'|h'
   .have:Ae l i<b.size:=by omega
    simp[h',this]
   .have:b.size<=Ae l i:=by omega
    simp[h',this]
  .rw[wL bx]
   exact h t λj hj=>by
    rcases xA.1 hj with rfl|hj
    .exact bx
    .exact ht j hj
def Va(l:List Oper)(n N:Nat):Bool:=(yC n).all λi=>decide (Ae l i<N)
theorem KF{l:List Oper}{n i:Nat}(hB:IJ l n=true)(hi:i<n):Bb l i=some (Ae l i):=by
 simp only[IJ,yp] at hB;have:=yd.1 hB.1.1.1.2 i (xU.2 hi);unfold Bb Ae;cases ho:l[i]? with
 |none=>rw[ho] at this;cases this
 |some o=>rw[ho] at this;obtain⟨d,hd⟩:=vH.1 this;simp[hd]
theorem KH{l:List Oper}{n i:Nat}{b:Array Value}(hB:IJ l n=true)(hi:i<n):D8 l b i=b[Ae l i]?.getD undef:=by unfold D8;rw[KF hB hi]
theorem Vb{l:List Oper}{n i:Nat}{o:Oper}(hB:IJ l n=true)(hi:i<n)(ho:l[i]?=some o):o.dst=some (Ae l i):=by
 have h:=KF hB hi;unfold Bb at h
 rwa [ho,wj] at h
theorem SQ{l:List Oper}{n N:Nat}(hB:IJ l n=true)(hD:Va l n N=true):aO l n N:=by
 have cl:=hB;simp only[IJ,yp,decide_eq_true_eq] at cl;obtain⟨⟨⟨⟨⟨⟨hn,hs⟩,hc⟩,hg⟩,bY⟩,bz⟩,au⟩:=cl;refine⟨.inl ⟨hn,hs,hc,bz⟩,λi j hi hj bB=> .inr ?_,au,λi hi d hd=>?_⟩
 .have:=yd.1 (yd.1 bY i (xU.2 hi)) j (xU.2 hj)
  rw[KF hB hi,KF hB hj];intro e;simp[bB,yF e] at this
 .have:=yd.1 hD i (xU.2 hi)
  rw[KF hB hi] at hd;cases hd;simpa using this
theorem Jb{l:List Oper}{n:Nat}{b c:Array Value}(hB:IJ l n=true)(h:∀t,(∀i,i<n->Bb l i≠some t)->c[t]?=b[t]?):∀t,(∀i,i<n->Ae l i≠t)->c[t]?=b[t]? :=
 λt ht=>h t λi hi e=>ht i hi (by rw[KF hB hi] at e;exact yF e)
theorem Fo{Q:Exit->Act->World->Prop}{a0:Act}{l:List Oper}(n:Nat)(hm:P.follows .mixedOrders=true)(hB:IJ l n=true)
 (N:Nat)(hN:a0.tmps.size=N)(hD:Va l n N=true)(R:Nat->Value->World->Prop)(G:(Nat->Bool)->World->Prop)(hG:G (λ_=>false) {w0 with drawn:=w0.drawn+1})
 (al:∀i,i<n->∀o,l[i]?=some o->∀a w,Hid (a.defers=a0.defers/\a.tmps.size=a0.tmps.size/\∀t,(∀i,i<n->Ae l i≠t)->a.tmps[t]?=a0.tmps[t]?)->
  Hid (∀j,yg .any l.toArray i j=true->R j (a.tmps[Ae l j]?.getD undef) w)->∀L:Nat->Bool,Hid (L i=false/\(∀j,yg .any l.toArray i j=true->L j=true)/\∀j j',L j=true->yg .any l.toArray j j'=true->L j'=true)->G L w->
  ∀K:Act->World->Prop,Hid (∀v w',R i v w'->G (GP L i) w'->(∀j u,j≠i->j<n->L j=true->R j u w->R j u w')->K (a.put o.dst v) w')->AV P l o a w K Q)
 (ae:∀(vs:Nat->Value) w,(∀i,i<n->R i (vs i) w)->∀L:Nat->Bool,(∀i,i<n->L i=true)->G L w->wpList P l.toArray Q (l.drop n) {a0 with tmps:=Aj l (yC n) vs a0.tmps} w):
 (vZ id l.toArray true).wp P Q a0 w0:=by
 subst hN;refine Le hm (I:=λL vs w=>(∀i,i<n->L i=true->R i (vs i) w)/\G L w) (SQ hB hD) (λvs=>⟨λi _ h=>(by cases h),hG⟩) (λi hi o ho a w h1 h2 h3 L h6 h7 h8 hI K hK=>?_) (λa w h1 h2 h3 L hL hI=>?_)
 .refine al i hi o ho a w (AA ⟨h1,h2,Jb hB h3⟩) (AA λj hj=>by rw[<-KH hB (h7 j hj).2];exact hI.1 j (h7 j hj).2 (h7 j hj).1) L (AA ⟨h6,λj hj=>(h7 j hj).1,h8⟩) hI.2 K (AA λv w' hR cJ cg=>hK v w' λaz hv bw=>⟨λj hj hl=>?_,cJ⟩)
  by_cases e:j=i
  .subst e
   rw[hv];simp only[Vb hB hi ho];exact hR
  .have cf:L j=true:=by unfold GP at hl;rwa [if_neg e] at hl
   rw[bw j hj e];exact cg j _ e hj cf (hI.1 j hj cf)
 .have e:=Rk l (yC n) a0.tmps a.tmps h2 (λt ht=>Jb hB h3 t λi hi=>ht i (xU.2 hi))
  have:=ae (λi=>a.tmps.getD (Ae l i) undef) w (λi hi=>by rw[uy,<-KH hB hi];exact hI.1 i hi (hL i hi)) L hL hI.2;rw[<-e] at this;obtain⟨tm,df⟩:=a;dsimp only at h1 this;subst h1;exact this
end
section
variable {P:Program} {l:List Oper} {i:Nat} {o o':Oper} {a a0:Act} {w:World} {K:Act->World->Prop} {Q:Exit->Act->World->Prop} {R:Value->World->Prop} {x y z:Operand} {v u:Value}
def bP(l:List Oper)(o:Oper)(a:Act):Prop:=xG o (yielded l.toArray a.tmps)=true
theorem gn(h:o.guard=none):bP l o a:=by simp[bP,xG,h]
theorem et(h:a.tmps[t]?.getD undef=v):a.eval (.tmp t)=v:=Bl h
theorem eb(h:a.tmps[t]?=a0.tmps[t]?):a.eval (.tmp t)=a0.tmps[t]?.getD undef:=Bl (by rw[h])
theorem eg(h:a.tmps[t]?=a0.tmps[t]?):a.tmps[t]?.getD undef=a0.tmps[t]?.getD undef:=by rw[h]
theorem bc{B b ac:Nat}(hG:Below B w0 w)(ay:b<B)(h:w0.cell? ⟨b,ac,none⟩=some v):w.cell? ⟨b,ac,none⟩=some v:=(hG.cell (p:=⟨b,ac,none⟩) ay).trans h
theorem dV(ho:l[i]?=some o)(e:l[i]?=some o')(hw:bP l o' a)(HK:Hid (∀v w',R v w'->Below w.heap.size w w'->K (a.put o.dst v) w'))(hr:(execOp a.eval o').run P w=.ok (.value v) w)(hR:R v w):AV P l o a w K Q:=by
 obtain rfl:=yF (ho.symm.trans e);exact⟨λ_=>by unfold vG;rw[hr];exact HK.out _ _ hR (yD _ _),λh=>by rw[show xG o (yielded l.toArray a.tmps)=true from hw] at h;cases h⟩
theorem dF{s b ac:Nat}(ho:l[i]?=some o)(e:l[i]?=some o')(hw:bP l o' a)(HK:Hid (∀v w',R v w'->Below w.heap.size w w'->K (a.put o.dst v) w'))(bi:o'.op=.fieldAddr s x f)(hf:∀b ac w,(vF s (.pointer (some ⟨b,ac,none⟩)) f).run P w=.ok (.pointer (some ⟨b,ac+k,none⟩)) w)(hx:a.eval x=.pointer (some ⟨b,ac,none⟩))(hR:R (.pointer (some ⟨b,ac+k,none⟩)) w):AV P l o a w K Q:=
 dV ho e hw HK (by unfold execOp;rw[bi];simp only[hx,vK,hf,wF];rfl) hR
theorem dL{p:Addr}(ho:l[i]?=some o)(e:l[i]?=some o')(hw:bP l o' a)(HK:Hid (∀v w',R v w'->Below w.heap.size w w'->K (a.put o.dst v) w'))(bi:o'.op=.load t x)(hx:a.eval x=.pointer (some p))(hl:(xJ t (.pointer (some p))).run P w=.ok v w)(hR:R v w):AV P l o a w K Q:=
 dV ho e hw HK (by unfold execOp;rw[bi];simp only[hx,vK,hl,wF];rfl) hR
end
section
variable {b ac:Nat} {w:World} {v0 v1 v2 v3 v4 v5 v6 v7 v8 v9:Value}
theorem Ya:∀b ac w,(vF 32 (.pointer (some ⟨b,ac,none⟩)) 0).run prog w=.ok (.pointer (some ⟨b,ac+0,none⟩)) w:=λb ac w=>by go_simp
theorem aU:∀b ac w,(vF 32 (.pointer (some ⟨b,ac,none⟩)) 1).run prog w=.ok (.pointer (some ⟨b,ac+4,none⟩)) w:=λb ac w=>by go_simp
theorem aV:∀b ac w,(vF 32 (.pointer (some ⟨b,ac,none⟩)) 2).run prog w=.ok (.pointer (some ⟨b,ac+5,none⟩)) w:=λb ac w=>by go_simp
theorem aW:∀b ac w,(vF 32 (.pointer (some ⟨b,ac,none⟩)) 3).run prog w=.ok (.pointer (some ⟨b,ac+6,none⟩)) w:=λb ac w=>by go_simp
theorem Fp(h:w.cell? ⟨b,ac,none⟩=some v0):(xJ 3 (.pointer (some ⟨b,ac,none⟩))).run prog w=.ok v0 w:=by go_simp
theorem cE(h:w.cell? ⟨b,ac,none⟩=some v0):(xJ 4 (.pointer (some ⟨b,ac,none⟩))).run prog w=.ok v0 w:=by go_simp
theorem Yu(h:w.cell? ⟨b,ac,none⟩=some v0):(xJ 9 (.pointer (some ⟨b,ac,none⟩))).run prog w=.ok v0 w:=by go_simp
theorem GT(h:w.cell? ⟨b,ac,none⟩=some v0):(xJ 23 (.pointer (some ⟨b,ac,none⟩))).run prog w=.ok v0 w:=by go_simp
theorem F8(h:w.cell? ⟨b,ac,none⟩=some v0):(xJ 24 (.pointer (some ⟨b,ac,none⟩))).run prog w=.ok v0 w:=by go_simp
theorem No(h:w.cell? ⟨b,ac,none⟩=some v0):(xJ 25 (.pointer (some ⟨b,ac,none⟩))).run prog w=.ok v0 w:=by go_simp
theorem Zp(h:w.cell? ⟨b,ac,none⟩=some v0):(xJ 26 (.pointer (some ⟨b,ac,none⟩))).run prog w=.ok v0 w:=by go_simp
theorem Np(h0:w.cell? ⟨b,ac,none⟩=some v0)(h1:w.cell? ⟨b,ac+1,none⟩=some v1)(h2:w.cell? ⟨b,ac+2,none⟩=some v2)(h3:w.cell? ⟨b,ac+3,none⟩=some v3):(xJ 28 (.pointer (some ⟨b,ac,none⟩))).run prog w=.ok (.agg #[v0,v1,v2,v3]) w:=by go_simp
theorem J5(h:w.cell? ⟨b,ac,none⟩=some v0):(xJ 29 (.pointer (some ⟨b,ac,none⟩))).run prog w=.ok v0 w:=by go_simp
theorem Yt(h:w.cell? ⟨b,ac,none⟩=some v0):(xJ 30 (.pointer (some ⟨b,ac,none⟩))).run prog w=.ok v0 w:=by go_simp
theorem Qz(h0:w.cell? ⟨b,ac,none⟩=some v0)(h1:w.cell? ⟨b,ac+1,none⟩=some v1)(h2:w.cell? ⟨b,ac+2,none⟩=some v2)(h3:w.cell? ⟨b,ac+3,none⟩=some v3)(h4:w.cell? ⟨b,ac+4,none⟩=some v4)(h5:w.cell? ⟨b,ac+5,none⟩=some v5)(h6:w.cell? ⟨b,ac+6,none⟩=some v6)(h7:w.cell? ⟨b,ac+7,none⟩=some v7)(h8:w.cell? ⟨b,ac+8,none⟩=some v8):(xJ 32 (.pointer (some ⟨b,ac,none⟩))).run prog w=.ok (.agg #[v0,v1,v2,v3,v4,v5,v6,v7,v8]) w:=by go_simp
theorem cA(h0:w.cell? ⟨b,ac,none⟩=some v0)(h1:w.cell? ⟨b,ac+1,none⟩=some v1)(h2:w.cell? ⟨b,ac+2,none⟩=some v2):(xJ 43 (.pointer (some ⟨b,ac,none⟩))).run prog w=.ok (.agg #[v0,v1,v2]) w:=by go_simp
theorem bS(h0:w.cell? ⟨b,ac,none⟩=some v0)(h1:w.cell? ⟨b,ac+1,none⟩=some v1)(h2:w.cell? ⟨b,ac+2,none⟩=some v2)(h3:w.cell? ⟨b,ac+3,none⟩=some v3)(h4:w.cell? ⟨b,ac+4,none⟩=some v4)(h5:w.cell? ⟨b,ac+5,none⟩=some v5):(xJ 55 (.pointer (some ⟨b,ac,none⟩))).run prog w=.ok (.agg #[v0,v1,v2,v3,v4,v5]) w:=by go_simp
theorem LM(h:w.cell? ⟨b,ac,none⟩=some v0):(xJ 72 (.pointer (some ⟨b,ac,none⟩))).run prog w=.ok v0 w:=by go_simp
theorem Ul(h0:w.cell? ⟨b,ac,none⟩=some v0)(h1:w.cell? ⟨b,ac+1,none⟩=some v1)(h2:w.cell? ⟨b,ac+2,none⟩=some v2)(h3:w.cell? ⟨b,ac+3,none⟩=some v3):(xJ 112 (.pointer (some ⟨b,ac,none⟩))).run prog w=.ok (.agg #[v0,v1,v2,v3]) w:=by go_simp
theorem Um(h:w.cell? ⟨b,ac,none⟩=some v0):(xJ 124 (.pointer (some ⟨b,ac,none⟩))).run prog w=.ok v0 w:=by go_simp
end
section
variable {P:Program}
theorem Lf{Q:Exit->Act->World->Prop}{a0:Act}{l:List Oper}(n:Nat)(hm:P.follows .mixedOrders=true)(hB:IJ l n=true)
 (N:Nat)(hN:a0.tmps.size=N)(hD:Va l n N=true)(R:Nat->Value->World->Prop)(aq:∀i,i<n->∀v w w',Below w.heap.size w w'->R i v w->R i v w')
 (al:∀i,i<n->∀o,l[i]?=some o->∀a w,Hid (a.defers=a0.defers/\a.tmps.size=a0.tmps.size/\∀t,(∀i,i<n->Ae l i≠t)->a.tmps[t]?=a0.tmps[t]?)->
  Hid (∀j,yg .any l.toArray i j=true->R j (a.tmps[Ae l j]?.getD undef) w)->Below w0.heap.size w0 w->
  ∀K:Act->World->Prop,Hid (∀v w',R i v w'->Below w.heap.size w w'->K (a.put o.dst v) w')->AV P l o a w K Q)
 (ae:∀(vs:Nat->Value) w,(∀i,i<n->R i (vs i) w)->Below w0.heap.size w0 w->wpList P l.toArray Q (l.drop n) {a0 with tmps:=Aj l (yC n) vs a0.tmps} w):
 (vZ id l.toArray true).wp P Q a0 w0:=by
 refine Fo n hm hB N hN hD R (λ_ w=>Below w0.heap.size w0 w) ⟨rfl,rfl,rfl,yt _,λ_ _=>rfl⟩ ?_ (λvs w h1 _ _ h2=>ae vs w h1 h2);intro i hi o ho a w Hb Hd L HL hG K HK;exact al i hi o ho a w Hb Hd hG K (AA λv w' h1 h2=>HK.out v w' h1 (hG.trans ⟨h2.os,h2.tape,h2.output,h2.size,λk hk=>h2.block k (xX hk hG.size)⟩) (λj u _ hj _ h=>aq j hj u w w' h2 h))
end
def A2(x:AU):List Value:=[.int .i64 x.k,.string x.g,.int .i64 x.r]
theorem Ay(x:AU):(A2 x).length=3:=rfl
def AU.val(x:AU):Value:=.agg #[.int .i64 x.k,.string x.g,.int .i64 x.r]
def Ag(x:Al):List Value:=[.int .i64 x.e,.int .i64 x.p,.int .i64 x.f,.bool x.w]
theorem Ch(x:Al):(Ag x).length=4:=rfl
def Al.val(x:Al):Value:=.agg #[.int .i64 x.e,.int .i64 x.p,.int .i64 x.f,.bool x.w]
def BB(s:ByteArray):List Value:=[.string s]
theorem Gv(s:ByteArray):(BB s).length=1:=rfl
def GC(v:Value):List Value:=[v]
theorem EG(v:Value):(GC v).length=1:=rfl
def Ec(p:Value×Int):List Value:=[p.1,.int .i64 p.2]
theorem Fc(p:Value×Int):(Ec p).length=2:=rfl
def BD{α:Type}(sz:Nat)(cs:α->List Value)(w:World)(v:Value)(xs:List α):Prop:=Rd w v sz xs.length (Ci cs xs)
def AQ{α:Type}(lo e sz:Nat)(cs:α->List Value)(w:World)(v:Value)(xs:List α):Prop:=w.ownsRow lo e sz v xs.length (Ci cs xs)
section
variable {α:Type} {sz lo e:Nat} {cs:α->List Value} {w w':World} {v:Value} {xs:List α}
theorem BD.below(h:BD sz cs w v xs)(hb:Below w.heap.size w w'):BD sz cs w' v xs:=Rd.below h hb
theorem AQ.rd(h:AQ lo e sz cs w v xs):BD sz cs w v xs:=Rd.of_owns h
theorem AQ.below(h:AQ lo e sz cs w v xs)(hb:Below w.heap.size w w'):AQ lo e sz cs w' v xs:=Co h hb
theorem AQ.grown{row:Option Nat}(h:AQ lo e sz cs w v xs)(hg:w.grownBy w' row)(am:v.ownBlock=none∨v.ownBlock≠row):AQ lo e sz cs w' v xs:=Av h hg am
theorem AQ.lower(h:AQ lo e sz cs w v xs)(hl:lo'<=lo):AQ lo' e sz cs w v xs:=BO h hl
theorem BD.shape(h:BD sz cs w v xs):∃a ai,v=.slice a xs.length ai/\xs.length<=ai/\ai<=maxLen:=Rd.shape h
theorem BD.open(hs:∀x,(cs x).length=sz)(bp:0<sz)(h:BD sz cs w v xs):∃a ai,v=.slice a xs.length ai/\xs.length<=ai/\ai<=maxLen/\Sk sz cs w a xs:=by obtain⟨a,ai,rfl,h1,h2⟩:=Rd.shape h;exact⟨a,ai,rfl,h1,h2,Sk.of hs bp h⟩
end
abbrev BS(w:World)(v:Value)(xs:List AU):Prop:=BD 3 A2 w v xs
abbrev Dz(w:World)(v:Value)(xs:List Al):Prop:=BD 4 Ag w v xs
abbrev BR(w:World)(v:Value)(xs:List ByteArray):Prop:=BD 1 BB w v xs
def Fh{α β:Type}(R:α->β->Prop)(xs:List α)(ys:List β):Prop:=xs.length=ys.length/\∀(i:Nat) x y,xs[i]?=some x->ys[i]?=some y->R x y
theorem Fh.mono{α β:Type}{R S:α->β->Prop}{xs:List α}{ys:List β}(h:Fh R xs ys)(dc:∀x y,R x y->S x y):Fh S xs ys:=⟨h.1,λi x y hx hy=>dc _ _ (h.2 i x y hx hy)⟩
theorem Fh.nil{α β:Type}{R:α->β->Prop}:Fh R [] []:=⟨rfl,λi x y h=>by simp at h⟩
theorem Fh.snoc{α β:Type}{R:α->β->Prop}{xs:List α}{ys:List β}{x:α}{y:β}(h:Fh R xs ys)(cU:R x y):Fh R (xs++[x]) (ys++[y]):=by
 refine⟨by simp[h.1],λi a b ha hb=>?_⟩
 by_cases hi:i<xs.length
 .rw[xh hi] at ha
  rw[xh (by rw[<-h.1];exact hi)] at hb;exact h.2 i a b ha hb
 .have h1:=(yr.1 ha).1
  simp at h1;obtain rfl:i=xs.length:=by omega
  simp at ha;rw[h.1] at hb;simp at hb;subst ha hb;exact cU
def Bf(w:World)(v:Value)(a4:List (List Int)):Prop:=∃vs,BD 1 GC w v vs/\Fh (Aw w) vs a4
def Li(w:World)(v:Value)(cm:List (List ByteArray)):Prop:=∃vs,BD 1 GC w v vs/\Fh (BR w) vs cm
def Fq(w:World)(v:Value)(es:List EU):Prop:=∃ps,BD 2 Ec w v ps/\Fh (λp e=>BR w p.1 e.zT/\p.2=e.root) ps es
def Ma(w:World)(m i e c:Value)(k:AN):Prop:=Bf w m k.mem/\BS w i k.zZ/\Fq w e k.zX/\Dz w c k.zW
section
variable {w w':World} {v:Value}
theorem Bf.below(h:Bf w v a4)(hb:Below w.heap.size w w'):Bf w' v a4:=by
 obtain⟨vs,h1,h2⟩:=h;exact⟨vs,h1.below hb,h2.mono λ_ _ h=>Aw.below h hb⟩
theorem Li.below{cm:List (List ByteArray)}(h:Li w v cm)(hb:Below w.heap.size w w'):Li w' v cm:=by
 obtain⟨vs,h1,h2⟩:=h;exact⟨vs,h1.below hb,h2.mono λ_ _ h=>BD.below h hb⟩
theorem Fq.below{es:List EU}(h:Fq w v es)(hb:Below w.heap.size w w'):Fq w' v es:=by
 obtain⟨ps,h1,h2⟩:=h;exact⟨ps,h1.below hb,h2.mono λ_ _ h=>⟨BD.below h.1 hb,h.2⟩⟩
theorem Ma.below{m i e:Value}{k:AN}(h:Ma w m i e c k)(hb:Below w.heap.size w w'):Ma w' m i e c k:=⟨h.1.below hb,h.2.1.below hb,h.2.2.1.below hb,h.2.2.2.below hb⟩
end
def DG(vs:List Value):Prop:=∀(i j:Nat) u u',i≠j->vs[i]?=some u->vs[j]?=some u'->Fg u u'
theorem DG.nil:DG []:=λi j u u' _ h=>by simp at h
theorem DG.snoc{vs:List Value}{v:Value}(h:DG vs)(hv:∀u∈vs,Fg u v):DG (vs++[v]):=by
 intro i j u u' bB hi hj;have h1:=(yr.1 hi).1;have h2:=(yr.1 hj).1;simp at h1 h2
 by_cases c5:i<vs.length
 .rw[xh c5] at hi
  by_cases c4:j<vs.length
  .rw[xh c4] at hj
   exact h i j u u' bB hi hj
  .obtain rfl:j=vs.length:=by omega
   simp at hj;subst hj;exact hv u (ye hi)
 .obtain rfl:i=vs.length:=by omega
  simp at hi;subst hi;rw[xh (by omega)] at hj;exact(hv u' (ye hj)).symm
def Au(lo:Nat)(w:World)(v:Value)(vs:List Value)(a4:List (List Int)):Prop:=AQ lo 29 1 GC w v vs/\Fh (AF lo w) vs a4/\DG vs
def DA(lo:Nat)(w:World)(v:Value)(ps:List (Value×Int))(es:List EU):Prop:=AQ lo 74 2 Ec w v ps/\Fh (λp e=>AQ lo 9 1 BB w p.1 e.zT/\p.2=e.root) ps es/\DG (ps.map (·.1))
theorem Au.rd{lo:Nat}{w:World}{v:Value}(h:Au lo w v vs a4):Bf w v a4:=⟨vs,h.1.rd,h.2.1.mono λ_ _ h=>AF.rd h⟩
theorem DA.rd{lo:Nat}{w:World}{v:Value}{ps:List (Value×Int)}{es:List EU}(h:DA lo w v ps es):Fq w v es:=⟨ps,h.1.rd,h.2.1.mono λ_ _ h=>⟨h.1.rd,h.2⟩⟩
theorem Au.below{lo:Nat}{w w':World}{v:Value}(h:Au lo w v vs a4)(hb:Below w.heap.size w w'):Au lo w' v vs a4:=⟨h.1.below hb,h.2.1.mono λ_ _ h=>AF.below h hb,h.2.2⟩
theorem DA.below{lo:Nat}{w w':World}{v:Value}{ps:List (Value×Int)}{es:List EU}(h:DA lo w v ps es)(hb:Below w.heap.size w w'):DA lo w' v ps es:=⟨h.1.below hb,h.2.1.mono λ_ _ h=>⟨h.1.below hb,h.2⟩,h.2.2⟩
theorem Au.lower{lo:Nat}{w:World}{v:Value}(h:Au lo w v vs a4)(hl:lo'<=lo):Au lo' w v vs a4:=⟨h.1.lower hl,h.2.1.mono λ_ _ h=>BO h hl,h.2.2⟩
theorem DA.lower{lo:Nat}{w:World}{v:Value}{ps:List (Value×Int)}{es:List EU}(h:DA lo w v ps es)(hl:lo'<=lo):DA lo' w v ps es:=⟨h.1.lower hl,h.2.1.mono λ_ _ h=>⟨h.1.lower hl,h.2⟩,h.2.2⟩
theorem By{α:Type}(cs:α->List Value)(w:World)(e sz:Nat):AQ w.heap.size e sz cs (w.alloc (.cells #[] e)) (.slice (some ⟨w.heap.size,0,none⟩) 0 0) []:=Cp w e sz
def DP(lo:Nat)(w:World)(m i e c:Value)(k:AN):Prop:=
 (∃vs,Au lo w m vs k.mem)/\AQ lo 92 3 A2 w i k.zZ/\(∃ps,DA lo w e ps k.zX)/\AQ lo 112 4 Ag w c k.zW
theorem DP.rd{lo:Nat}{w:World}{m i e:Value}{k:AN}(h:DP lo w m i e c k):Ma w m i e c k:=⟨h.1.choose_spec.rd,h.2.1.rd,h.2.2.1.choose_spec.rd,h.2.2.2.rd⟩
theorem DP.below{lo:Nat}{w w':World}{m i e:Value}{k:AN}(h:DP lo w m i e c k)(hb:Below w.heap.size w w'):DP lo w' m i e c k:=
 ⟨⟨_,h.1.choose_spec.below hb⟩,h.2.1.below hb,⟨_,h.2.2.1.choose_spec.below hb⟩,h.2.2.2.below hb⟩
theorem A6{w:World}{lo e sz n:Nat}{v:Value}{xs:List Value}(h:w.ownsRow lo e sz v n xs):∀g,v.ownBlock=some g->∃a7,w.heap[g]?=some (.cells a7 e (0,0)):=by
 intro g hg
 rcases h.2 with⟨rfl,_⟩|⟨g',ai,a7,rfl,_,hh,_⟩
 .simp[uP] at hg
 .simp[uP] at hg
  subst hg;exact⟨a7,hh⟩
theorem A7{w:World}{lo e e' sz cQ n n':Nat}{v v':Value}{xs cP:List Value}(h:w.ownsRow lo e sz v n xs)(h':w.ownsRow lo' e' cQ v' n' cP)(am:e≠e'):Fg v v':=by intro g hg c7;obtain⟨c1,h1⟩:=A6 h g hg;obtain⟨c2,h2⟩:=A6 h' g c7;rw[h1] at h2;simp at h2;exact am h2.2
theorem AG{w:World}{g:Nat}{m i e:Value}(h:w.heap[g]?=some (.cells #[m,i,e,c] t (0,0))):w.cell? ⟨g,0,none⟩=some m/\w.cell? ⟨g,1,none⟩=some i/\w.cell? ⟨g,2,none⟩=some e/\w.cell? ⟨g,3,none⟩=some c:=
 ⟨yi w g 0 _ _ _ h,yi w g 1 _ _ _ h,yi w g 2 _ _ _ h,yi w g 3 _ _ _ h⟩
theorem AK{w:World}{g:Nat}{cs:Array Value}(h:w.heap[g]?=some (.cells cs t (0,0))):∀j,w.frozen? ⟨g,j,none⟩=false:=λj=>frozen_of_row w g j _ _ h
theorem AW{w:World}{g:Nat}{o:Obj}(h:w.heap[g]?=some o):g<w.heap.size:=(wO.1 h).1
theorem AC{w w':World}{g:Nat}{o:Obj}(h:w.heap[g]?=some o)(hb:Below w.heap.size w w'):w'.heap[g]?=some o:=(hb.block g (AW h)).trans h
theorem Cs{w:World}{g:Nat}{m i e m' i' e' c':Value}(h:w.heap[g]?=some (.cells #[m,i,e,c] t (0,0))):
 ((((w.setCell ⟨g,0,none⟩ m').setCell ⟨g,1,none⟩ i').setCell ⟨g,2,none⟩ e').setCell ⟨g,3,none⟩ c').heap[g]?=some (.cells #[m',i',e',c'] t (0,0)):=by
 have h0:=ym w g 0 _ t m' h;have h1:=ym _ g 1 _ t i' h0;have h2:=ym _ g 2 _ t e' h1;have h3:=ym _ g 3 _ t c' h2;simpa using h3
theorem Eu{w w':World}{lo e sz n g T:Nat}{v:Value}{xs:List Value}{a7:Array Value}{fr:Nat×Nat}(h:w.ownsRow lo e sz v n xs)(hg:w.grownBy w' (some g))(hb:w.heap[g]?=some (.cells a7 T fr))(am:e≠T:=by decide):w'.ownsRow lo e sz v n xs:=by
 refine Av h hg ?_;cases hv:v.ownBlock with
 |none=>exact .inl rfl
 |some k=>
  refine .inr λhe=>?_
  simp only[Option.some.injEq] at he;subst he;obtain⟨c1,h1⟩:=A6 h k hv;rw[h1] at hb;simp at hb;exact am hb.2.1
section
variable {w w':World} {lo g T:Nat} {v:Value} {a7:Array Value} {fr:Nat×Nat}
theorem AQ.yL{α:Type}{e sz:Nat}{cs:α->List Value}{xs:List α}(h:AQ lo e sz cs w v xs)(hg:w.grownBy w' (some g))(hb:w.heap[g]?=some (.cells a7 T fr))(am:e≠T:=by decide):AQ lo e sz cs w' v xs:=Eu h hg hb am
theorem Au.yL(h:Au lo w v vs a4)(hg:w.grownBy w' (some g))(hb:w.heap[g]?=some (.cells a7 T fr))(h1:29≠T:=by decide)(h2:3≠T:=by decide):Au lo w' v vs a4:=
 ⟨h.1.yL hg hb h1,h.2.1.mono λ_ _ h=>Eu h hg hb h2,h.2.2⟩
theorem DA.yL{ps:List (Value×Int)}{es:List EU}(h:DA lo w v ps es)(hg:w.grownBy w' (some g))(hb:w.heap[g]?=some (.cells a7 T fr))(h1:74≠T:=by decide)(h2:9≠T:=by decide):DA lo w' v ps es:=
 ⟨h.1.yL hg hb h1,h.2.1.mono λ_ _ h=>⟨h.1.yL hg hb h2,h.2⟩,h.2.2⟩
end
theorem Au.kept{w w':World}{lo e sz n:Nat}{v u:Value}{xs:List Value}(h:Au lo w v vs a4)(hg:w.grownBy w' u.ownBlock)(hu:w.ownsRow lo' e sz u n xs)(h1:29≠e)(h2:3≠e):Au lo w' v vs a4:=
 ⟨Av h.1 hg (A7 h.1 hu h1).ne,h.2.1.mono λ_ _ h=>Av h hg (A7 h hu h2).ne,h.2.2⟩
theorem Aq(w:World)(g j:Nat)(u:Value):w.grownBy (w.setCell ⟨g,j,none⟩ u) (some g):=⟨rfl,rfl,rfl,by simp,λk _ hk=>heap_setCell_other w ⟨g,j,none⟩ k u (λe=>hk (by simp[e]))⟩
theorem An{w:World}{g:Nat}(h:w0.grownBy w (some g))(j:Nat)(u:Value):w0.grownBy (w.setCell ⟨g,j,none⟩ u) (some g):=AP h (Aq w g j u)
section
variable {P:Program}
end
theorem ZU{l:List Oper}{tmps:Array Value}{g d:Nat}(hd:(l[g]?).bind (·.dst)=some d)(hv:tmps[d]?.getD undef=undef):yielded l.toArray tmps g=none:=by
 have h:(l.toArray[g]?).bind (·.dst)=some d:=by simpa using hd
 unfold yielded;rw[h,wj];cases hx:tmps[d]? with
 |none=>rfl
 |some x=>rw[hx] at hv;simp at hv;subst hv;rfl
theorem AV.un{P:Program}{l:List Oper}{o:Oper}{a:Act}{w:World}{K:Act->World->Prop}{Q:Exit->Act->World->Prop}{g d:Nat}{b:Bool}(hg:o.guard=some (g,b))(hd:(l[g]?).bind (·.dst)=some d)(hv:a.tmps[d]?.getD undef=undef)(h:K (a.put o.dst undef) w):AV P l o a w K Q:=
 ⟨λhw=>by rw[xG,hg] at hw;simp only[ZU hd hv] at hw;cases b<;>simp at hw,λ_=>h⟩
theorem F5{w w':World}{row:Option Nat}{b o:Nat}(h:w.grownBy w' row)(hb:b<w.heap.size)(am:row≠some b):w'.cell? ⟨b,o,none⟩=w.cell? ⟨b,o,none⟩:=vX (h.block b hb (λe=>am e.symm))
def De(l:List Oper)(is:List Nat)(vs:Nat->Value)(b:Array Value):Array Value:=is.foldl (λb i=>match Bb l i with|some d=>b.setIfInBounds d (vs i)|none=>b) b
def Wf(l:List Oper)(N:Nat):Bool:=
 ((yC l.length).all λi=>(yC l.length).all λj=>i==j||(Bb l i).isNone||Bb l i !=Bb l j)&&
 ((yC l.length).all λj=>match l[j]? with|some o=>o.after.all λe=>!uO .any e||decide (e.on<j)|none=>false)&&
 ((yC l.length).all λi=>match Bb l i with|some d=>decide (d<N)|none=>true)
section
variable {P:Program}
theorem UR(l:List Oper):∀(is:List Nat)(b c:Array Value),c.size=b.size->(∀t,(∀i,i∈is->Bb l i≠some t)->c[t]?=b[t]?)->c=De l is (λi=>D8 l c i) b:=by
 intro is
 induction is with
 |nil=>intro b c hs h;exact tH λt=>h t (λi hi=>by cases hi)
 |cons i is ih=>
  intro b c hs h
  show c=De l is _ (match Bb l i with|some d=>b.setIfInBounds d (D8 l c i)|none=>b)
  cases hd:Bb l i with
  |none=>
   exact ih b c hs λt ht=>h t λj hj=>by
    rcases xA.1 hj with rfl|hj
    .rw[hd];exact(λe=>by cases e)
    .exact ht j hj
  |some d=>
   refine ih _ c (by simpa using hs) λt ht=>?_
   by_cases bx:d=t
   .subst bx
    have hv:D8 l c i=c[d]?.getD undef:=by unfold D8;rw[hd]
    show c[d]?=(b.setIfInBounds d (D8 l c i))[d]?
    rw[hv]
    rcases tQ d c.size with h'|h'
    .have:d<b.size:=by omega
     simp[h',this]
    .have:b.size<=d:=by omega
     simp[h',this]
   .show c[t]?=(b.setIfInBounds d (D8 l c i))[t]?
    rw[wL bx];exact h t λj hj=>by
     rcases xA.1 hj with rfl|hj
     .rw[hd];exact λe=>bx (yF e)
     .exact ht j hj
theorem Qf{Q:Exit->Act->World->Prop}{a0:Act}{l:List Oper}(n:Nat)(hm:P.follows .mixedOrders=true)
 (N:Nat)(hN:a0.tmps.size=N)(hB:Wf l N=true)(hn:l.length=n)(S:Nat->Bool)(R:(Nat->Bool)->Nat->Value->World->Prop)(G:(Nat->Bool)->World->Prop)
 (hG:G (λ_=>false) {w0 with drawn:=w0.drawn+1})
 (aq:∀j,j<n->∀L i v w w',i<n->S i=false->L i=false->L j=true->Below w.heap.size w w'->R L j v w->R (GP L i) j v w')
 (bl:∀L i w w',i<n->S i=false->L i=false->Below w.heap.size w w'->G L w->G (GP L i) w')
 (al:∀i,i<n->S i=false->∀o,l[i]?=some o->∀a w,Hid (a.defers=a0.defers/\a.tmps.size=a0.tmps.size/\∀t,(∀i,i<n->Bb l i≠some t)->a.tmps[t]?=a0.tmps[t]?)->
  ∀L:Nat->Bool,Hid (∀j,L j=true->j<n->R L j (D8 l a.tmps j) w)->Hid (L i=false/\(∀j,yg .any l.toArray i j=true->L j=true)/\∀j j',L j=true->yg .any l.toArray j j'=true->L j'=true)->G L w->
  ∀K:Act->World->Prop,Hid (∀v w',R (GP L i) i (match o.dst with|some _=>v|none=>undef) w'->Below w.heap.size w w'->K (a.put o.dst v) w')->AV P l o a w K Q)
 (be:∀i,i<n->S i=true->∀o,l[i]?=some o->∀a w,Hid (a.defers=a0.defers/\a.tmps.size=a0.tmps.size/\∀t,(∀i,i<n->Bb l i≠some t)->a.tmps[t]?=a0.tmps[t]?)->
  ∀L:Nat->Bool,Hid (∀j,L j=true->j<n->R L j (D8 l a.tmps j) w)->Hid (L i=false/\(∀j,yg .any l.toArray i j=true->L j=true)/\∀j j',L j=true->yg .any l.toArray j j'=true->L j'=true)->G L w->
  ∀K:Act->World->Prop,Hid (∀v w',R (GP L i) i (match o.dst with|some _=>v|none=>undef) w'->G (GP L i) w'->(∀j,j≠i->j<n->L j=true->R L j (D8 l a.tmps j) w->R (GP L i) j (D8 l a.tmps j) w')->K (a.put o.dst v) w')->AV P l o a w K Q)
 (ae:∀(vs:Nat->Value) w,∀L:Nat->Bool,(∀i,i<n->L i=true)->(∀i,i<n->R L i (vs i) w)->G L w->wpList P l.toArray Q [] {a0 with tmps:=De l (yC n) vs a0.tmps} w):
 (vZ id l.toArray true).wp P Q a0 w0:=by
 subst hn;subst hN;have cl:=hB;simp only[Wf,yp] at cl;obtain⟨⟨bY,au⟩,bu⟩:=cl;refine Le hm (n:=l.length) (I:=λL vs w=>(∀i,i<l.length->L i=true->R L i (vs i) w)/\G L w) ⟨.inr rfl,λi j hi hj bB=>?_,au,λi hi d hd=>?_⟩ (λvs=>⟨λi _ h=>(by cases h),hG⟩) (λi hi o ho a w h1 h2 h3 L h6 h7 h8 hI K hK=>?_) (λa w h1 h2 h3 L hL hI=>?_)
 .have:=yd.1 (yd.1 bY i (xU.2 hi)) j (xU.2 hj)
  simp only[xl,beq_iff_eq,bB,false_or,bne_iff_ne,Option.isNone_iff_eq_none] at this;exact this
 .have:=yd.1 bu i (xU.2 hi)
  rw[hd] at this;simpa using this
 .have b6:∀{v w'},R (GP L i) i (match o.dst with|some _=>v|none=>undef) w'->(∀j,j≠i->j<l.length->L j=true->R L j (D8 l a.tmps j) w->R (GP L i) j (D8 l a.tmps j) w')->∀az:Nat->Value,az i=(match o.dst with|some _=>v|none=>undef)->(∀j,j<l.length->j≠i->az j=D8 l a.tmps j)->∀j,j<l.length->GP L i j=true->R (GP L i) j (az j) w':=by
   intro v w' hR hk az hv bw j hj hl
   by_cases e:j=i
   .subst e
    rw[hv];exact hR
   .have cf:L j=true:=by unfold GP at hl;rwa [if_neg e] at hl
    rw[bw j hj e];exact hk j e hj cf (hI.1 j hj cf)
  cases hS:S i with
  |false=>exact al i hi hS o ho a w (AA ⟨h1,h2,h3⟩) L (AA λj hj ch=>hI.1 j ch hj) (AA ⟨h6,λj hj=>(h7 j hj).1,h8⟩) hI.2 K (AA λv w' hR hb=>hK v w' λaz hv bw=>⟨b6 hR (λj b5 ch c3 hu=>aq j ch L i _ w w' hi hS h6 c3 hb hu) az hv bw,bl L i w w' hi hS h6 hb hI.2⟩)
  |true=>exact be i hi hS o ho a w (AA ⟨h1,h2,h3⟩) L (AA λj hj ch=>hI.1 j ch hj) (AA ⟨h6,λj hj=>(h7 j hj).1,h8⟩) hI.2 K (AA λv w' hR cJ hk=>hK v w' λaz hv bw=>⟨b6 hR hk az hv bw,cJ⟩)
 .have e:=UR l (yC l.length) a0.tmps a.tmps h2 (λt ht=>h3 t λi hi=>ht i (xU.2 hi))
  have:=ae (λi=>D8 l a.tmps i) w L hL (λi hi=>hI.1 i hi (hL i hi)) hI.2;rw[<-e] at this;rw[List.drop_length];obtain⟨tm,df⟩:=a;dsimp only at h1 this;subst h1;exact this
end
inductive Vx where
 |p (b o:Nat)
 |i (x:Int)
 |s (b n c:Nat)
 |b (x:Bool)
 |t (x:ByteArray)
 |v (x:Value)
 |a (x:Array Value)
 |u
 |z
def Vx.val:Vx->Option Value
 | .p x y=>some (.pointer (some ⟨x,y,none⟩))
 | .i x=>some (.int .i64 x)
 | .s x y k=>some (.slice (some ⟨x,0,none⟩) y k)
 | .b x=>some (.bool x)
 | .t x=>some (.string x)
 | .v x=>some x
 | .a x=>some (.agg x)
 | .u=>some undef
 | .z=>none
def EN(L:List Vx)(i:Nat):Option Value:=(L[i]?).bind Vx.val
def RV(L:List Vx)(R:Nat->Value->World->Prop)(i:Nat)(v:Value)(w:World):Prop:=
 match EN L i with
 |some x=>v=x
 |none=>R i v w
theorem RV.of{L:List Vx}{R:Nat->Value->World->Prop}{i:Nat}{v:Value}{w:World}(h:EN L i=some v):RV L R i v w:=by unfold RV;rw[h]
theorem RV.eq{L:List Vx}{R:Nat->Value->World->Prop}{i:Nat}{v x:Value}{w:World}(h:RV L R i v w)(e:EN L i=some x):v=x:=by unfold RV at h;rw[e] at h;exact h
theorem RV.mono{L:List Vx}{R:Nat->Value->World->Prop}{i:Nat}{v:Value}{w w':World}(hR:R i v w->R i v w')(h:RV L R i v w):RV L R i v w':=by
 unfold RV at h ⊢;cases e:EN L i with
 |some x=>rw[e] at h;exact h
 |none=>rw[e] at h;exact hR h
def Tn(l:List Oper)(n t:Nat):Option Nat:=(yC n).find? λj=>Ae l j==t
def ZF(l:List Oper)(n i:Nat)(L:List Vx)(a0 a:Act):Operand->Value
 | .tmp t=>
  match Tn l n t with
  |some j=>
   match yg .any l.toArray i j with
   |true=>match EN L j with
    |some x=>x
    |none=>a.eval (.tmp t)
   |false=>a.eval (.tmp t)
  |none=>a0.tmps[t]?.getD undef
 |x=>a.eval x
def Xu(l:List Oper)(n:Nat)(L:List Vx)(a0:Act):Operand->Value
 | .tmp t=>
  match Tn l n t with
  |some j=>(EN L j).getD undef
  |none=>a0.tmps[t]?.getD undef
 |_=>undef
def Kn(l:List Oper)(i:Nat)(L:List Vx)(o:Oper):Option Bool:=
 match o.guard with
 |none=>some true
 |some (g,b)=>
  match yg .any l.toArray i g with
  |true=>
   match(l[g]?).bind (·.dst) with
   |some _=>
    match EN L g with
    |some (.bool c)=>some (c==b)
    |some (.tuple _)=>some false
    |_=>none
   |none=>none
  |false=>none
section
variable {P:Program} {l:List Oper} {n i:Nat} {o o':Oper} {a a0:Act} {w:World} {K:Act->World->Prop} {Q:Exit->Act->World->Prop} {L:List Vx} {R:Nat->Value->World->Prop} {v:Value}
theorem QF(Hb:Hid (a.defers=a0.defers/\a.tmps.size=a0.tmps.size/\∀t,(∀i,i<n->Ae l i≠t)->a.tmps[t]?=a0.tmps[t]?))(Hd:Hid (∀j,yg .any l.toArray i j=true->RV L R j (a.tmps[Ae l j]?.getD undef) w)):ZF l n i L a0 a=a.eval:=by
 funext x
 cases x with
 |tmp t=>
  show(match Tn l n t with|some j=>_|none=>_)=_
  cases e:Tn l n t with
  |none=>
   simp only;have h:∀j,j<n->Ae l j≠t:=by intro j hj h2;have:=tC.1 e j (xU.2 hj);simp[h2] at this
   exact(Bl (by rw[Hb.out.2.2 t h])).symm
  |some j=>
   simp only;have h2:Ae l j=t:=by have:=sX e;simpa using this
   cases e3:yg .any l.toArray i j with
   |false=>rfl
   |true=>
    simp only;cases e4:EN L j with
    |none=>rfl
    |some y=>simp only;have:=(Hd.out j e3).eq e4;rw[h2] at this;exact(Bl this).symm
 |const v=>rfl
 |global g=>rfl
 |func f=>rfl
theorem KI{c:Bool}(Hd:Hid (∀j,yg .any l.toArray i j=true->RV L R j (a.tmps[Ae l j]?.getD undef) w))(h:Kn l i L o=some c):xG o (yielded l.toArray a.tmps)=c:=by
 unfold Kn at h;unfold xG;cases e:o.guard with
 |none=>rw[e] at h;simp only at h ⊢;exact yF h
 |some gb=>
  obtain⟨g,b⟩:=gb;rw[e] at h;simp only at h ⊢;cases e1:yg .any l.toArray i g with
  |false=>rw[e1] at h;cases h
  |true=>
   rw[e1] at h;simp only at h;cases e2:(l[g]?).bind (·.dst) with
   |none=>rw[e2] at h;cases h
   |some d=>
    rw[e2] at h;simp only at h;have hd:Ae l g=d:=by unfold Ae;rw[e2];rfl
    have h2:(l.toArray[g]?).bind (·.dst)=some d:=by simpa using e2
    cases e3:EN L g with
    |none=>rw[e3] at h;cases h
    |some x=>
     have h3:=(Hd.out g e1).eq e3;rw[hd] at h3;rw[e3] at h;cases x with
     |bool c9=>have hv:=yF h;rw[NQ e2 h3,<-hv];cases c9<;>cases b<;>rfl
     |tuple y=>
      have hv:=yF h;rw[<-hv];unfold yielded;rw[h2,wj];cases hx:a.tmps[d]? with
      |none=>rfl
      |some y=>rw[hx] at h3;simp only[tB] at h3;subst h3;rfl
     |_=>cases h
theorem sP(ho:l[i]?=some o)(HK:Hid (∀v w',RV L R i v w'->Below w.heap.size w w'->K (a.put o.dst v) w'))(Hb:Hid (a.defers=a0.defers/\a.tmps.size=a0.tmps.size/\∀t,(∀i,i<n->Ae l i≠t)->a.tmps[t]?=a0.tmps[t]?))(Hd:Hid (∀j,yg .any l.toArray i j=true->RV L R j (a.tmps[Ae l j]?.getD undef) w))
 (e:l[i]?=some o':=by rfl)(hv:EN L i=some v:=by rfl)(hw:Kn l i L o'=some true:=by kernel_rfl)(hr:(execOp (ZF l n i L a0 a) o').run P w=.ok (.value v) w:=by kernel_rfl):AV P l o a w K Q:=
 dV ho e (KI Hd hw) HK (by rw[<-QF Hb Hd];exact hr) (RV.of hv)
theorem sL{t:Nat}{x:Operand}{p:Value}(ho:l[i]?=some o)(HK:Hid (∀v w',RV L R i v w'->Below w.heap.size w w'->K (a.put o.dst v) w'))(Hb:Hid (a.defers=a0.defers/\a.tmps.size=a0.tmps.size/\∀t,(∀i,i<n->Ae l i≠t)->a.tmps[t]?=a0.tmps[t]?))(Hd:Hid (∀j,yg .any l.toArray i j=true->RV L R j (a.tmps[Ae l j]?.getD undef) w))
 (e:l[i]?=some o':=by rfl)(bi:o'.op=.load t x:=by rfl)(hp:Xu l n L a0 x=p:=by rfl)(hq:ZF l n i L a0 a x=Xu l n L a0 x:=by kernel_rfl)(hv:EN L i=some v:=by rfl)(hw:Kn l i L o'=some true:=by kernel_rfl)(hl:(xJ t p).run P w=.ok v w):AV P l o a w K Q:=
 dV ho e (KI Hd hw) HK (by rw[<-QF Hb Hd];unfold execOp;rw[bi];simp only[hq.trans hp,vK,hl,wF];rfl) (RV.of hv)
theorem sB(ho:l[i]?=some o)(HK:Hid (∀v w',RV L R i v w'->Below w.heap.size w w'->K (a.put o.dst v) w'))(Hd:Hid (∀j,yg .any l.toArray i j=true->RV L R j (a.tmps[Ae l j]?.getD undef) w))
 (e:l[i]?=some o':=by rfl)(hv:EN L i=some undef:=by rfl)(hw:Kn l i L o'=some false:=by kernel_rfl):AV P l o a w K Q:=by
 obtain rfl:=yF (ho.symm.trans e);exact⟨λh=>absurd ((KI Hd hw).symm.trans h) (by decide),λ_=>HK.out _ _ (RV.of hv) (yD _ _)⟩
theorem sC{F:FuncId}{vs:Array Value}{Qc:Ending->World->Prop}(ho:l[i]?=some o)(HK:Hid (∀v w',RV L R i v w'->Below w.heap.size w w'->K (a.put o.dst v) w'))(Hb:Hid (a.defers=a0.defers/\a.tmps.size=a0.tmps.size/\∀t,(∀i,i<n->Ae l i≠t)->a.tmps[t]?=a0.tmps[t]?))(Hd:Hid (∀j,yg .any l.toArray i j=true->RV L R j (a.tmps[Ae l j]?.getD undef) w))
 (hc:Calls P F vs w Qc)(hq:∀e w',Qc e w'->∃v,e=.returned v/\RV L R i v w'/\Below w.heap.size w w')
 (e:l[i]?=some o':=by rfl)(hw:Kn l i L o'=some true:=by kernel_rfl)(hr:(execOp (ZF l n i L a0 a) o').run P w=.ok (.enter F vs) w:=by kernel_rfl):AV P l o a w K Q:=by
 obtain rfl:=yF (ho.symm.trans e);refine⟨λ_=>?_,λh=>absurd ((KI Hd hw).symm.trans h) (by decide)⟩;unfold vG;rw[<-QF Hb Hd,hr,ul];refine hc.mono ?_;intro x w' h;obtain⟨v,rfl,h1,h2⟩:=hq x w' h;exact HK.out v w' h1 h2
theorem sD{F:FuncId}{vs:Array Value}(ho:l[i]?=some o)(HK:Hid (∀v w',RV L R i v w'->Below w.heap.size w w'->K (a.put o.dst v) w'))(Hb:Hid (a.defers=a0.defers/\a.tmps.size=a0.tmps.size/\∀t,(∀i,i<n->Ae l i≠t)->a.tmps[t]?=a0.tmps[t]?))(Hd:Hid (∀j,yg .any l.toArray i j=true->RV L R j (a.tmps[Ae l j]?.getD undef) w))
 (hc:Calls P F vs w λe w'=>e=.returned v/\Below w.heap.size w w')(e:l[i]?=some o':=by rfl)(hv:EN L i=some v:=by rfl)(hw:Kn l i L o'=some true:=by kernel_rfl)(hr:(execOp (ZF l n i L a0 a) o').run P w=.ok (.enter F vs) w:=by kernel_rfl):AV P l o a w K Q:=
 sC ho HK Hb Hd hc (λ_ _ h=>⟨v,h.1,RV.of hv,h.2⟩) e hw hr
theorem sE{F:FuncId}{vs:Array Value}(ho:l[i]?=some o)(HK:Hid (∀v w',RV L R i v w'->Below w.heap.size w w'->K (a.put o.dst v) w'))(Hb:Hid (a.defers=a0.defers/\a.tmps.size=a0.tmps.size/\∀t,(∀i,i<n->Ae l i≠t)->a.tmps[t]?=a0.tmps[t]?))(Hd:Hid (∀j,yg .any l.toArray i j=true->RV L R j (a.tmps[Ae l j]?.getD undef) w))
 (hc:Calls P F vs w λe w'=>e=.returned v/\w=w')(e:l[i]?=some o':=by rfl)(hv:EN L i=some v:=by rfl)(hw:Kn l i L o'=some true:=by kernel_rfl)(hr:(execOp (ZF l n i L a0 a) o').run P w=.ok (.enter F vs) w:=by kernel_rfl):AV P l o a w K Q:=
 sC ho HK Hb Hd hc (λ_ _ h=>⟨v,h.1,RV.of hv,h.2▸yD _ _⟩) e hw hr
theorem sI{t b ac ln cp:Nat}{x y:Operand}{j:Int}(ho:l[i]?=some o)(HK:Hid (∀v w',RV L R i v w'->Below w.heap.size w w'->K (a.put o.dst v) w'))(Hb:Hid (a.defers=a0.defers/\a.tmps.size=a0.tmps.size/\∀t,(∀i,i<n->Ae l i≠t)->a.tmps[t]?=a0.tmps[t]?))(Hd:Hid (∀j,yg .any l.toArray i j=true->RV L R j (a.tmps[Ae l j]?.getD undef) w))
 (e:l[i]?=some o':=by rfl)(bi:o'.op=.indexAddr t x y:=by rfl)(hp:Xu l n L a0 x=.slice (some ⟨b,ac,none⟩) ln cp:=by rfl)(hy:Xu l n L a0 y=.int .i64 j:=by rfl)(cV:ZF l n i L a0 a x=Xu l n L a0 x:=by kernel_rfl)(cR:ZF l n i L a0 a y=Xu l n L a0 y:=by kernel_rfl)(hv:EN L i=some v:=by rfl)(hw:Kn l i L o'=some true:=by kernel_rfl)(hr:(Instr.indexAt t (.slice (some ⟨b,ac,none⟩) ln cp) (.int .i64 j)).run P w=.ok v w):AV P l o a w K Q:=
 dV ho e (KI Hd hw) HK (by rw[<-QF Hb Hd];unfold execOp;rw[bi];simp only[cV.trans hp,cR.trans hy,vK,hr,wF];rfl) (RV.of hv)
theorem AY(n N:Nat)(L:List Vx)(R:Nat->Value->World->Prop)
 (al:∀i,i<n->∀o,l[i]?=some o->∀a w,Hid (a.defers=a0.defers/\a.tmps.size=a0.tmps.size/\∀t,(∀i,i<n->Ae l i≠t)->a.tmps[t]?=a0.tmps[t]?)->
  Hid (∀j,yg .any l.toArray i j=true->RV L R j (a.tmps[Ae l j]?.getD undef) w)->Below w0.heap.size w0 w->
  ∀K:Act->World->Prop,Hid (∀v w',RV L R i v w'->Below w.heap.size w w'->K (a.put o.dst v) w')->AV P l o a w K Q)
 (ae:∀(vs:Nat->Value) w,(∀i,i<n->RV L R i (vs i) w)->Below w0.heap.size w0 w->wpList P l.toArray Q (l.drop n) {a0 with tmps:=Aj l (yC n) vs a0.tmps} w)
 (hm:P.follows .mixedOrders=true:=by kernel_rfl)(hB:IJ l n=true:=by kernel_rfl)(hN:a0.tmps.size=N:=by rfl)(hD:Va l n N=true:=by kernel_rfl)
 (aq:∀i,i<n->∀v w w',Below w.heap.size w w'->R i v w->R i v w':=by exact λ_ _ _ _ _ _ h=>h):(vZ id l.toArray true).wp P Q a0 w0:=
 Lf n hm hB N hN hD (RV L R) (λi hi v w w' hb h=>RV.mono (aq i hi v w w' hb) h) al ae
theorem BN(n N:Nat)(L:List Vx)(R:Nat->Value->World->Prop)
 (al:∀i,i<n->∀o,l[i]?=some o->∀a w,Hid (a.defers=a0.defers/\a.tmps.size=a0.tmps.size/\∀t,(∀i,i<n->Ae l i≠t)->a.tmps[t]?=a0.tmps[t]?)->
  Hid (∀j,yg .any l.toArray i j=true->RV L R j (a.tmps[Ae l j]?.getD undef) w)->Below w0.heap.size w0 w->
  ∀K:Act->World->Prop,Hid (∀v w',RV L R i v w'->Below w.heap.size w w'->K (a.put o.dst v) w')->AV P l o a w K Q)
 (aq:∀i,i<n->∀v w w',Below w.heap.size w w'->R i v w->R i v w')
 (ae:∀(vs:Nat->Value) w,(∀i,i<n->RV L R i (vs i) w)->Below w0.heap.size w0 w->wpList P l.toArray Q (l.drop n) {a0 with tmps:=Aj l (yC n) vs a0.tmps} w)
 (hm:P.follows .mixedOrders=true:=by kernel_rfl)(hB:IJ l n=true:=by kernel_rfl)(hN:a0.tmps.size=N:=by rfl)(hD:Va l n N=true:=by kernel_rfl):(vZ id l.toArray true).wp P Q a0 w0:=
 Lf n hm hB N hN hD (RV L R) (λi hi v w w' hb h=>RV.mono (aq i hi v w w' hb) h) al ae
end
def RF(V:List Vx)(R:(Nat->Bool)->Nat->Value->World->Prop)(L:Nat->Bool)(i:Nat)(v:Value)(w:World):Prop:=
 match EN V i with
 |some x=>v=x
 |none=>R L i v w
section
variable {P:Program} {l:List Oper} {n i:Nat} {o o':Oper} {a a0:Act} {w:World} {K:Act->World->Prop} {Q:Exit->Act->World->Prop} {V:List Vx} {R:(Nat->Bool)->Nat->Value->World->Prop} {L:Nat->Bool} {v:Value}
theorem RF.of(h:EN V i=some v):RF V R L i v w:=by unfold RF;rw[h]
theorem RF.eq{x:Value}(h:RF V R L i v w)(e:EN V i=some x):v=x:=by unfold RF at h;rw[e] at h;exact h
theorem RF.mono{L':Nat->Bool}{w':World}(hR:R L i v w->R L' i v w')(h:RF V R L i v w):RF V R L' i v w':=by
 unfold RF at h ⊢;cases e:EN V i with
 |some x=>rw[e] at h;exact h
 |none=>rw[e] at h;exact hR h
def Wt(l:List Oper)(n t:Nat):Option Nat:=(yC n).find? λj=>Bb l j==some t
def Xt(l:List Oper)(n i:Nat)(V:List Vx)(a0 a:Act):Operand->Value
 | .tmp t=>
  match Wt l n t with
  |some j=>
   match yg .any l.toArray i j with
   |true=>match EN V j with
    |some x=>x
    |none=>a.eval (.tmp t)
   |false=>a.eval (.tmp t)
  |none=>a0.tmps[t]?.getD undef
 |x=>a.eval x
def bU(l:List Oper)(n:Nat)(V:List Vx)(a0:Act):Operand->Value
 | .tmp t=>
  match Wt l n t with
  |some j=>(EN V j).getD undef
  |none=>a0.tmps[t]?.getD undef
 |_=>undef
def Qe(l:List Oper)(n i:Nat)(V:List Vx)(o:Oper):Option Bool:=
 match o.guard with
 |none=>some true
 |some (g,b)=>
  match yg .any l.toArray i g&&decide (g<n) with
  |true=>
   match(l[g]?).bind (·.dst) with
   |some _=>
    match EN V g with
    |some (.bool c)=>some (c==b)
    |some (.tuple _)=>some false
    |_=>none
   |none=>none
  |false=>none
abbrev YF(l:List Oper)(n:Nat)(a0 a:Act):Prop:=a.defers=a0.defers/\a.tmps.size=a0.tmps.size/\∀t,(∀i,i<n->Bb l i≠some t)->a.tmps[t]?=a0.tmps[t]?
abbrev YD(l:List Oper)(n:Nat)(V:List Vx)(R:(Nat->Bool)->Nat->Value->World->Prop)(L:Nat->Bool)(a:Act)(w:World):Prop:=∀j,L j=true->j<n->RF V R L j (D8 l a.tmps j) w
abbrev Ww(l:List Oper)(i:Nat)(L:Nat->Bool):Prop:=L i=false/\(∀j,yg .any l.toArray i j=true->L j=true)/\∀j j',L j=true->yg .any l.toArray j j'=true->L j'=true
abbrev bG(V:List Vx)(R:(Nat->Bool)->Nat->Value->World->Prop)(L:Nat->Bool)(i:Nat)(o:Oper)(a:Act)(w:World)(K:Act->World->Prop):Prop:=∀v w',RF V R (GP L i) i (match o.dst with|some _=>v|none=>undef) w'->Below w.heap.size w w'->K (a.put o.dst v) w'
theorem Ov(Hb:Hid (YF l n a0 a))(Hd:Hid (YD l n V R L a w))(HL:Hid (Ww l i L)):Xt l n i V a0 a=a.eval:=by
 funext x
 cases x with
 |tmp t=>
  show(match Wt l n t with|some j=>_|none=>_)=_
  cases e:Wt l n t with
  |none=>
   simp only;have h:∀j,j<n->Bb l j≠some t:=by intro j hj h2;have:=tC.1 e j (xU.2 hj);simp[h2] at this
   exact(Bl (by rw[Hb.out.2.2 t h])).symm
  |some j=>
   simp only;have h2:Bb l j=some t:=by have:=sX e;simpa using this
   have hj:j<n:=xU.1 (List.mem_of_find?_eq_some e);cases e3:yg .any l.toArray i j with
   |false=>rfl
   |true=>
    simp only;cases e4:EN V j with
    |none=>rfl
    |some y=>simp only;have:=(Hd.out j (HL.out.2.1 j e3) hj).eq e4;unfold D8 at this;rw[h2] at this;exact(Bl this).symm
 |const v=>rfl
 |global g=>rfl
 |func f=>rfl
theorem NM{c:Bool}(Hd:Hid (YD l n V R L a w))(HL:Hid (Ww l i L))(h:Qe l n i V o=some c):xG o (yielded l.toArray a.tmps)=c:=by
 unfold Qe at h;unfold xG;cases e:o.guard with
 |none=>rw[e] at h;simp only at h ⊢;exact yF h
 |some gb=>
  obtain⟨g,b⟩:=gb;rw[e] at h;simp only at h ⊢;cases e1:(yg .any l.toArray i g&&decide (g<n)) with
  |false=>rw[e1] at h;cases h
  |true=>
   rw[e1] at h;simp only at h;obtain⟨e5,e6⟩:=Bool.and_eq_true_iff.1 e1;have e6:=of_decide_eq_true e6;cases e2:(l[g]?).bind (·.dst) with
   |none=>rw[e2] at h;cases h
   |some d=>
    rw[e2] at h;simp only at h;have h2:(l.toArray[g]?).bind (·.dst)=some d:=by simpa using e2
    cases e3:EN V g with
    |none=>rw[e3] at h;cases h
    |some x=>
     have h3:=(Hd.out g (HL.out.2.1 g e5) e6).eq e3;unfold D8 at h3;rw[show Bb l g=some d from e2] at h3;simp only at h3;rw[e3] at h;cases x with
     |bool c9=>have hv:=yF h;rw[NQ e2 h3,<-hv];cases c9<;>cases b<;>rfl
     |tuple y=>
      have hv:=yF h;rw[<-hv];unfold yielded;rw[h2,wj];cases hx:a.tmps[d]? with
      |none=>rfl
      |some y=>rw[hx] at h3;simp only[tB] at h3;subst h3;rfl
     |_=>cases h
theorem cB(ho:l[i]?=some o)(e:l[i]?=some o')(hw:xG o' (yielded l.toArray a.tmps)=true)(HK:Hid (bG V R L i o a w K))(hv:EN V i=some v)(hd:o'.dst.isSome=true)(hr:(execOp a.eval o').run P w=.ok (.value v) w):AV P l o a w K Q:=by
 obtain rfl:=yF (ho.symm.trans e);refine⟨λ_=>?_,λh=>by rw[hw] at h;cases h⟩;unfold vG;rw[hr,Oper.upon_value];obtain⟨d,h2⟩:=vH.1 hd;exact HK.out _ _ (by rw[h2];exact RF.of hv) (yD _ _)
theorem Wg(ho:l[i]?=some o)(HK:Hid (bG V R L i o a w K))(Hb:Hid (YF l n a0 a))(Hd:Hid (YD l n V R L a w))(HL:Hid (Ww l i L))
 (e:l[i]?=some o':=by rfl)(hd:o'.dst.isSome=true:=by rfl)(hv:EN V i=some v:=by rfl)(hw:Qe l n i V o'=some true:=by kernel_rfl)(hr:(execOp (Xt l n i V a0 a) o').run P w=.ok (.value v) w:=by kernel_rfl):AV P l o a w K Q:=
 cB ho e (NM Hd HL hw) HK hv hd (by rw[<-Ov Hb Hd HL];exact hr)
theorem Nl{x:Operand}{p:Value}(ho:l[i]?=some o)(HK:Hid (bG V R L i o a w K))(Hb:Hid (YF l n a0 a))(Hd:Hid (YD l n V R L a w))(HL:Hid (Ww l i L))
 (e:l[i]?=some o':=by rfl)(hd:o'.dst.isSome=true:=by rfl)(bi:o'.op=.load t x:=by rfl)(hp:bU l n V a0 x=p:=by rfl)(hq:Xt l n i V a0 a x=bU l n V a0 x:=by kernel_rfl)(hv:EN V i=some v:=by rfl)(hw:Qe l n i V o'=some true:=by kernel_rfl)(hl:(xJ t p).run P w=.ok v w):AV P l o a w K Q:=
 cB ho e (NM Hd HL hw) HK hv hd (by rw[<-Ov Hb Hd HL];unfold execOp;rw[bi];simp only[hq.trans hp,vK,hl,wF];rfl)
theorem bv{F:FuncId}{vs:Array Value}{Qc:Ending->World->Prop}(ho:l[i]?=some o)(HK:Hid (bG V R L i o a w K))(Hb:Hid (YF l n a0 a))(Hd:Hid (YD l n V R L a w))(HL:Hid (Ww l i L))
 (hc:Calls P F vs w Qc)(hq:∀e w',Qc e w'->∃v,e=.returned v/\RF V R (GP L i) i v w'/\Below w.heap.size w w')
 (e:l[i]?=some o':=by rfl)(hd:o'.dst.isSome=true:=by rfl)(hw:Qe l n i V o'=some true:=by kernel_rfl)(hr:(execOp (Xt l n i V a0 a) o').run P w=.ok (.enter F vs) w:=by kernel_rfl):AV P l o a w K Q:=by
 obtain rfl:=yF (ho.symm.trans e);refine⟨λ_=>?_,λh=>absurd ((NM Hd HL hw).symm.trans h) (by decide)⟩;unfold vG;rw[<-Ov Hb Hd HL,hr,ul];refine hc.mono ?_;intro x w' h;obtain⟨v,rfl,h1,h2⟩:=hq x w' h;obtain⟨d,h3⟩:=vH.1 hd;exact HK.out v w' (by rw[h3];exact h1) h2
theorem Ba(H:Hid (Ww l i L))(k:Nat)(h:yg .any l.toArray k i=true:=by kernel_rfl):L k=false:=by
 cases hx:L k with
 |false=>rfl
 |true=>exact absurd (H.out.2.2 k i hx h) (by rw[H.out.1];decide)
theorem EB(n N:Nat)(S:Nat->Bool)(V:List Vx)(R:(Nat->Bool)->Nat->Value->World->Prop)(G:(Nat->Bool)->World->Prop)
 (hG:G (λ_=>false) {w0 with drawn:=w0.drawn+1})
 (aq:∀j,j<n->∀L i v w w',i<n->S i=false->L i=false->L j=true->Below w.heap.size w w'->R L j v w->R (GP L i) j v w')
 (bl:∀L i w w',i<n->S i=false->L i=false->Below w.heap.size w w'->G L w->G (GP L i) w')
 (al:∀i,i<n->S i=false->∀o,l[i]?=some o->∀a w,Hid (YF l n a0 a)->∀L:Nat->Bool,Hid (YD l n V R L a w)->Hid (Ww l i L)->G L w->∀K:Act->World->Prop,Hid (bG V R L i o a w K)->AV P l o a w K Q)
 (be:∀i,i<n->S i=true->∀o,l[i]?=some o->∀a w,Hid (YF l n a0 a)->∀L:Nat->Bool,Hid (YD l n V R L a w)->Hid (Ww l i L)->G L w->
  ∀K:Act->World->Prop,Hid (∀v w',RF V R (GP L i) i (match o.dst with|some _=>v|none=>undef) w'->G (GP L i) w'->(∀j,j≠i->j<n->L j=true->RF V R L j (D8 l a.tmps j) w->RF V R (GP L i) j (D8 l a.tmps j) w')->K (a.put o.dst v) w')->AV P l o a w K Q)
 (ae:∀(vs:Nat->Value) w,∀L:Nat->Bool,(∀i,i<n->L i=true)->(∀i,i<n->RF V R L i (vs i) w)->G L w->wpList P l.toArray Q [] {a0 with tmps:=De l (yC n) vs a0.tmps} w)
 (hm:P.follows .mixedOrders=true:=by kernel_rfl)(hN:a0.tmps.size=N:=by rfl)(hB:Wf l N=true:=by kernel_rfl)(hn:l.length=n:=by rfl):(vZ id l.toArray true).wp P Q a0 w0:=
 Qf n hm N hN hB hn S (RF V R) G hG (λj hj L i v w w' h1 h2 h3 h4 hb h=>RF.mono (aq j hj L i v w w' h1 h2 h3 h4 hb) h) bl al be ae
end
section
variable {α:Type}
theorem A1{l:List α}{i:Nat}{d:α}(h:i<l.length):l[i]?=some (l.getD i d):=by simp[h]
theorem DH{l:List α}{i:Nat}{d:α}(h:i<l.length):l.getD i d∈l:=ye (A1 h)
theorem If{l:List α}{x d:α}(h:x∈l):∃i,i<l.length/\l.getD i d=x:=by obtain⟨i,hi,rfl⟩:=wP h;exact⟨i,hi,by simp[hi]⟩
theorem JX{l:List α}{i:Nat}{x d:α}:(l.set i x).getD j d=if j=i/\i<l.length then x else l.getD j d:=by
 simp only[xR,we]
 by_cases h:i=j
 .subst h
  by_cases h2:i<l.length
  .simp[h2]
  .simp[h2]
 .have h':¬j=i:=λe=>h e.symm
  simp[h,h']
theorem Cz{l:List α}{i:Nat}{f:α->α}:(As l i f).length=l.length:=by
 unfold As
 split<;>simp
theorem MT{l:List α}{i:Nat}{f:α->α}{d:α}:(As l i f).getD j d=if j=i/\i<l.length then f (l.getD i d) else l.getD j d:=by
 unfold As
 split
 .rename_i x hx
  have hi:=(yr.1 hx).1;rw[JX];have:l.getD i d=x:=by simp[hx]
  rw[this]
 .rename_i hx
  have hi:¬i<l.length:=by simpa using hx
  simp[hi]
theorem JM{l:List α}{i:Nat}{f:α->α}{d:α}:As l i f=l.set i (f (l.getD i d)):=by
 unfold As
 split
 .rename_i x hx
  simp[hx]
 .rename_i hx
  have hi:l.length<=i:=by simpa using hx
  rw[List.set_eq_of_length_le hi]
theorem Lv{n:Nat}{p:Nat->Bool}:(yC n).all p=true↔∀i,i<n->p i=true:=by simp[yd]
theorem Lj{l:List α}{p:α->Bool}:l.any p=true↔∃x∈l,p x=true:=by simp
end
theorem KG{G:Nat->Nat}{n:Nat}(h:∀t,t<n->F t=G t):((yC n).map F).sum=((yC n).map G).sum:=by
 induction n with
 |zero=>rfl
 |succ n ih=>rw[wZ,xE,xE,wS,wS,ih (λt ht=>h t (by omega))];simp[h n (by omega)]
theorem Ly{G:Nat->Nat}{n:Nat}(hf:f<n)(h:∀t,t<n->t≠f->F t=G t):((yC n).map F).sum+G f=((yC n).map G).sum+F f:=by
 induction n with
 |zero=>omega
 |succ n ih=>
  rw[wZ,xE,xE,wS,wS];simp only[vD,uL,ug,tX,xL]
  by_cases hn:f=n
  .subst hn
   rw[KG (λt ht=>h t (by omega) (by omega))];omega
  .have:=ih (by omega) (λt ht am=>h t (by omega) am)
   have:=h n (by omega) (by omega);omega
theorem LY{n:Nat}:((yC n).map F).sum=0↔∀t,t<n->F t=0:=by
 induction n with
 |zero=>simp
 |succ n ih=>
  rw[wZ,xE,wS];simp only[vD,uL,ug,tX,xL];constructor
  .intro h t ht
   by_cases e:t=n
   .subst e;omega
   .exact ih.1 (by omega) t (by omega)
  .intro h
   rw[ih.2 (λt ht=>h t (by omega)),h n (by omega)]
theorem aw{n c:Nat}(h:∀t,t<n->F t<=c):((yC n).map F).sum<=c*n:=by
 induction n with
 |zero=>simp
 |succ n ih=>rw[wZ,xE,wS,Nat.mul_succ];simp only[vD,uL,ug,tX,xL];have:=ih (λt ht=>h t (by omega));have:=h n (by omega);omega
theorem WS{n c g:Nat}(hg:g<n)(h:∀t,t<n->F t<=c)(h0:F g=0):((yC n).map F).sum+c<=c*n:=by
 have h1:=Ly (F:=F) (G:=λt=>if t=g then c else F t) hg (λt ht am=>by simp[am]);have h2:=aw (F:=λt=>if t=g then c else F t) (n:=n) (c:=c) (λt ht=>by
  by_cases e:t=g
  .simp[e]
  .simp only[e,if_false];exact h t ht)
 simp only[if_true,h0] at h1;omega
theorem EP{w:Int}(h:Bh w=true):A9 w<12:=by simp only[Bh,yp,decide_eq_true_eq] at h;unfold A9;omega
theorem FM{r:List Int}{g:Nat}:g∈named r↔∃w∈r,Bh w=true/\A9 w=g:=by simp[named,and_assoc]
theorem FL{g:Nat}(h:g∈named r):g<12:=by obtain⟨w,_,hw,rfl⟩:=FM.1 h;exact EP hw
def Dd(g:Nat)(w:Int):Bool:=Bh w&&decide (A9 w=g)
theorem Jn{g:Nat}:(named r).count g=r.countP (Dd g):=by
 unfold named
 induction r with
 |nil=>rfl
 |cons w r ih=>
  rw[List.filter_cons];cases hw:Bh w
  .rw[if_neg (by simp),ih,xC]
   simp[Dd,hw]
  .rw[if_pos rfl,vD,List.count_cons,ih,xC]
   by_cases h:A9 w=g<;>simp[Dd,hw,h]
theorem FJ:(named r).length<=r.length:=by unfold named;rw[List.length_map];exact wU _ _
def EC(b:Bool):Nat:=if b then 1 else 0
theorem UK{p:Int->Bool}{b:Nat}{w:Int}(hb:b<r.length):(r.set b w).countP p+EC (p (r.getD b 0))=r.countP p+EC (p w):=by
 induction r generalizing b with
 |nil=>simp at hb
 |cons x r ih=>
  cases b with
  |zero=>simp only[List.set_cons_zero,xC,List.getD_cons_zero,EC];omega
  |succ b=>simp only[List.set_cons_succ,xC,List.getD_cons_succ];have:=ih (b:=b) (by simpa using hb);omega
theorem Xh{b g:Nat}{w:Int}(hb:b<r.length):(named (r.set b w)).count g+EC (Dd g (r.getD b 0))=(named r).count g+EC (Dd g w):=by rw[Jn,Jn];exact UK hb
theorem Q3{b g:Nat}{w:Int}(h:g∈named (r.set b w)):g∈named r∨(Bh w=true/\A9 w=g):=by
 obtain⟨x,hx,h1,h2⟩:=FM.1 h
 rcases uk hx with hx|rfl
 .exact .inl (FM.2 ⟨x,hx,h1,h2⟩)
 .exact .inr ⟨h1,h2⟩
theorem DY{root:Int}:f∈BZ m root↔0<=root/\(f=root.toNat∨f∈named (AH m root.toNat)∨∃t,t∈named (AH m root.toNat)/\f∈named (AH m t)):=by
 unfold BZ
 split
 .simp;omega
 .simp;omega
theorem OX{m':List (List Int)}{root:Int}(h0:0<=root->AH m' root.toNat=AH m root.toNat)(h1:0<=root->∀t,t∈named (AH m root.toNat)->AH m' t=AH m t)(f:Nat):f∈BZ m' root↔f∈BZ m root:=by
 rw[DY,DY]
 by_cases hr:0<=root
 .rw[h0 hr]
  simp only[hr,true_and];refine or_congr Iff.rfl (or_congr Iff.rfl (exists_congr λt=>?_));constructor
  .rintro⟨a,b⟩;exact⟨a,by rw[<-h1 hr t a];exact b⟩
  .rintro⟨a,b⟩;exact⟨a,by rw[h1 hr t a];exact b⟩
 .simp[hr]
theorem Fu{zZ:List AU}{fs:List Nat}{zT:List ByteArray}:BG zZ fs zT=true↔∀f,f∈fs->Bv zT (zS zZ f).g=true:=by simp[BG,yd]
theorem Qd{m':List (List Int)}{root a:Nat}(h0:AH m' root=AH m root)(h1:∀t,t∈named (AH m root)->AH m' t=AH m t):Bu m' root a=Bu m root a:=by
 have e0:Ar m' root (a/16)=Ar m root (a/16):=by unfold Ar;rw[h0]
 unfold Bu;rw[e0]
 split
 .rename_i hg
  have hm:A9 (Ar m root (a/16))∈named (AH m root):=by
   refine FM.2 ⟨_,?_,hg,rfl⟩;unfold Ar at hg ⊢
   by_cases hl:a/16<(AH m root).length
   .exact DH hl
   .have:(AH m root).getD (a/16) 0=0:=by simp at hl;simp[hl]
    rw[this] at hg;simp[Bh] at hg
  have e1:Ar m' (A9 (Ar m root (a/16))) (a/4%4)=Ar m (A9 (Ar m root (a/16))) (a/4%4):=by unfold Ar;unfold Ar at hm;rw[h1 _ hm]
  rw[e1]
 .rfl
theorem Je{i:Nat}(hg:Bh (Ar m f i)=true):A9 (Ar m f i)∈named (AH m f):=by
 refine FM.2 ⟨_,?_,hg,rfl⟩;unfold Ar at hg ⊢
 by_cases hl:i<(AH m f).length
 .exact DH hl
 .have:(AH m f).getD i 0=0:=by simp at hl;simp[hl]
  rw[this] at hg;simp[Bh] at hg
theorem A3{r:List Int}:Di r=true↔r.length=4/\∀w∈r,0<=w/\w<=9999:=by simp only[Di,yp,yd,decide_eq_true_eq,EA,Ab];exact And.comm
theorem Ai:Bs m=true↔m.length=12/\∀f,f<12->Di (AH m f)=true:=by
 simp only[Bs,yp,yd,decide_eq_true_eq];constructor
 .rintro⟨h1,h2⟩
  exact⟨h2,λf hf=>h1 _ (DH (by omega))⟩
 .rintro⟨h1,h2⟩
  refine⟨λr hr=>?_,h1⟩;obtain⟨i,hi,rfl⟩:=If (d:=[]) hr;exact h2 i (by omega)
theorem Ry(h:Bs m=true)(hr:Di r=true):Bs (m.set f r)=true:=by
 rw[Ai] at h ⊢;refine⟨by rw[xS];exact h.1,λg hg=>?_⟩;unfold AH;rw[JX]
 split
 .exact hr
 .exact h.2 g hg
theorem Nw{g:Nat}:AH (m.set f r) g=if g=f/\f<m.length then r else AH m g:=by unfold AH;exact JX
theorem Gu{i g:Nat}{w:Int}:AH (CZ m f i w) g=if g=f/\f<m.length then(AH m f).set i w else AH m g:=by unfold CZ AH;exact MT
theorem ND{i:Nat}{w:Int}:CZ m f i w=m.set f ((AH m f).set i w):=JM
theorem SY{i:Nat}{w:Int}(h:Di r=true)(hw:EA w=true):Di (r.set i w)=true:=by
 rw[A3] at h ⊢;refine⟨by rw[xS];exact h.1,λx hx=>?_⟩
 rcases uk hx with hx|rfl
 .exact h.2 x hx
 .exact Ab.1 hw
theorem Wj:∀(x y:List UInt8),wk x y=decide (x<y)
 | [],[]=>by simp[wk]
 |_::_,[]=>by simp[wk]
 | [],_::_=>by simp[wk]
 |a::x,b::y=>by
  rw[wk,Wj x y]
  by_cases h1:a<b
  .simp[h1,vf]
  .by_cases h2:a=b
   .subst h2;simp[vf]
   .simp[h1,h2,vf]
def Q0(a b:ByteArray):Bool:=wk a.toList b.toList
theorem Lq{a b:ByteArray}:Q0 a b=true↔a.toList<b.toList:=by simp[Q0,Wj]
theorem Pa{a b:ByteArray}:Ty a b=!Q0 a b:=rfl
theorem Rv{a b c:ByteArray}(h1:Q0 a b=true)(h2:Q0 b c=true):Q0 a c=true:=Lq.2 (List.lt_trans (Lq.1 h1) (Lq.1 h2))
theorem toList_inj{a b:ByteArray}(h:a.toList=b.toList):a=b:=by have ha:a.toList=a.data.toList:=Lib.toList_data a;have hb:b.toList=b.data.toList:=Lib.toList_data b;rw[ha,hb] at h;cases a;cases b;simp at h;rw[h]
theorem V5{a b:ByteArray}(h:Q0 a b=false)(am:a≠b):Q0 b a=true:=by
 rw[Lq];have h1:¬a.toList<b.toList:=by rw[<-Lq];simp[h]
 have h2:a.toList≠b.toList:=λe=>am (toList_inj e)
 have h3:b.toList<=a.toList:=List.not_lt.1 h1
 rcases List.le_iff_lt_or_eq.1 h3 with h|h
 .exact h
 .exact absurd h.symm h2
theorem GM{ss:List ByteArray}:BQ ss=true↔(∀s∈ss,BP s=true)/\ss.Pairwise (λa b=>Q0 a b=true)/\ss.length<=6:=by
 unfold BQ;simp only[yp,decide_eq_true_eq,Lv,Cq,xl,Pa,Bool.not_not];constructor
 .rintro⟨h,hl⟩
  refine⟨λs hs=>?_,?_,hl⟩
  .obtain⟨i,hi,rfl⟩:=If (d:=⟨#[]⟩) hs
   exact(h i hi).1
  .rw[wB]
   have cn:∀d i,i+1+d<ss.length->Q0 (Db ss i) (Db ss (i+1+d))=true:=by
    intro d
    induction d with
    |zero=>
     intro i hi
     rcases(h (i+1) (by omega)).2 with h'|h'
     .omega
     .simpa using h'
    |succ d ih=>
     intro i hi;have h1:=ih i (by omega)
     rcases(h (i+1+(d+1)) (by omega)).2 with h'|h'
     .omega
     .refine Rv h1 ?_
      have e:i+1+(d+1) - 1=i+1+d:=by omega
      rw[e] at h';exact h'
   intro i j hi hj bB;have:=cn (j - i - 1) i (by omega);have e:i+1+(j - i - 1)=j:=by omega
   rw[e] at this;simpa[Db,hi,hj] using this
 .rintro⟨h1,h2,h3⟩
  refine⟨λi hi=>⟨h1 _ (DH hi),?_⟩,h3⟩
  by_cases h0:i=0
  .exact .inl h0
  .right
   rw[wB] at h2;have:=h2 (i - 1) i (by omega) hi (by omega);simpa[Db,hi,show i - 1<ss.length by omega] using this
theorem Mf{x:ByteArray}:x∈Sq ss s↔x=s∨x∈ss:=by
 unfold Sq;have e:=uF (p:=λx=>!Ty x s) (l:=ss);constructor
 .intro h
  rcases wC.1 h with h|h
  .right;rw[<-e];exact tN _ h
  .rcases xA.1 h with h|h
   .exact .inl h
   .right;rw[<-e];exact ve _ h
 .rintro(rfl|h)
  .simp
  .rw[<-e] at h
   rcases wC.1 h with h|h
   .exact tN _ h
   .exact ve _ (List.mem_cons_of_mem _ h)
theorem Po{p:ByteArray->Bool}{l:List ByteArray}{x:ByteArray}(h:x∈l.takeWhile p):p x=true:=by
 induction l with
 |nil=>simp at h
 |cons y l ih=>
  rw[List.takeWhile_cons] at h
  split at h
  .rename_i hy
   rcases xA.1 h with rfl|h
   .exact hy
   .exact ih h
  .simp at h
theorem Zd(h:BQ ss=true)(hs:BP s=true)(hn:s∉ss)(hl:ss.length≠6):BQ (Sq ss s)=true:=by
 rw[GM] at h ⊢;obtain⟨h1,h2,h3⟩:=h;have e:=uF (p:=λx=>!Ty x s) (l:=ss);refine⟨λx hx=>?_,?_,?_⟩
 .rcases Mf.1 hx with rfl|hx
  .exact hs
  .exact h1 x hx
 .unfold Sq
  rw[<-e] at h2;rw[tM] at h2 ⊢;obtain⟨p1,p2,p3⟩:=h2;have c6:∀y∈ss.dropWhile (λx=>!Ty x s),Q0 s y=true:=by
   generalize hd:ss.dropWhile (λx=>!Ty x s)=l at p2;cases l with
   |nil=>simp
   |cons y l=>
    have cT:(!Ty y s)=false:=by
     have:=List.head?_dropWhile_not (λx=>!Ty x s) ss;rw[hd] at this;simpa using this
    have cS:y∈ss:=by rw[<-e,hd];exact ve _ (vz ..)
    have hy:Q0 s y=true:=V5 (by simpa[Pa] using cT) (λe=>hn (e▸cS));intro z hz
    rcases xA.1 hz with rfl|hz
    .exact hy
    .exact Rv hy ((tA.1 p2).1 z hz)
  refine⟨p1,tA.2 ⟨c6,p2⟩,λa ha b hb=>?_⟩;have da:Q0 a s=true:=by simpa[Pa] using Po ha
  rcases xA.1 hb with rfl|hb
  .exact da
  .exact p3 a ha b hb
 .have:(Sq ss s).length=ss.length+1:=by
   unfold Sq;rw[yj,vW];have:=congrArg List.length e;rw[yj] at this;omega
  omega
theorem XI{p:ByteArray->Bool}(h:BQ ss=true):BQ (ss.filter p)=true:=by
 rw[GM] at h ⊢;exact⟨λs hs=>h.1 s (wY.1 hs).1,h.2.1.filter _,yB (wU _ _) h.2.2⟩
theorem Hv{zT:List ByteArray}{g:ByteArray}:Bv zT g=true↔∃s∈zT,LC s g=true:=by simp[Bv]
theorem Xf{r r':List ByteArray}{g:ByteArray}(h:∀s∈r,s∈r')(hm:Bv r g=true):Bv r' g=true:=by obtain⟨s,hs,hc⟩:=Hv.1 hm;exact Hv.2 ⟨s,h s hs,hc⟩
theorem Y0(g:ByteArray):Bv [⟨#[]⟩] g=true:=by refine Hv.2 ⟨_,vz ..,?_⟩;simp[LC]
theorem YP(h:BQ ss=true)(hs:BP s=true):BQ (Cm ss s).1=true:=by
 unfold Cm
 split
 .exact h
 .rename_i hn
  split
  .exact h
  .rename_i hl
   exact Zd h hs (λhm=>hn (Lj.2 ⟨s,hm,by simp⟩)) hl
theorem YO{x:ByteArray}(hx:x∈ss):x∈(Cm ss s).1:=by
 unfold Cm
 split
 .exact hx
 .split
  .exact hx
  .exact Mf.2 (.inr hx)
theorem Ep{c:List Al}:BT c=true↔(∀x∈c,CU x=true)/\c.Pairwise (λx y=>Bj y.e y.p x=false)/\c.length<=4:=by
 unfold BT;simp only[yp,decide_eq_true_eq,Lv,Ct,Bool.not_eq_true',tr];constructor
 .rintro⟨h,hl⟩
  refine⟨λx hx=>?_,?_,hl⟩
  .obtain⟨i,hi,rfl⟩:=If (d:=⟨0,0,0,false⟩) hx
   exact(h i hi).1
  .rw[wB]
   intro i j hi hj bB;have h2:=(h j hj).2 c[i] (uj.2 ⟨i,by omega,rfl⟩);have e:AT c j=c[j]:=by simp[AT,hj]
   rw[e] at h2;simpa using h2
 .rintro⟨h1,h2,h3⟩
  refine⟨λi hi=>⟨h1 _ (DH hi),λx hx=>?_⟩,h3⟩;obtain⟨j,hj,rfl⟩:=uj.1 hx;rw[wB] at h2;have:=h2 j i (by omega) hi (by omega);have e:AT c i=c[i]:=by simp[AT,hi]
  rw[e];simp[this]
theorem UM{c:List Al}{e:Int}(h:BT c=true):BT (Fz c e)=true:=by
 rw[Ep] at h ⊢;unfold Fz;exact⟨λs hs=>h.1 s (wY.1 hs).1,h.2.1.filter _,yB (wU _ _) h.2.2⟩
theorem Rh{c:List Al}{e:Int}{x:Al}:x∈Fz c e↔x∈c/\x.e≠e:=by simp[Fz]
theorem UN{c:List Al}{es:List Nat}(h:BT c=true):BT (es.foldl (λc e=>Fz c (e:Nat)) c)=true:=by
 induction es generalizing c with
 |nil=>exact h
 |cons e es ih=>exact ih (UM h)
theorem XH{c:List Al}{es:List Nat}{x:Al}:x∈es.foldl (λc e=>Fz c (e:Nat)) c↔x∈c/\∀e∈es,x.e≠(e:Int):=by
 induction es generalizing c with
 |nil=>simp
 |cons e es ih=>rw[List.foldl_cons,ih,Rh];simp[and_assoc]
theorem Ux{c:List Al}{x y:Al}(h:y∈My c x):y=x∨y∈c:=by
 unfold My at h
 rcases wC.1 h with h|h
 .right
  split at h
  .exact(wY.1 (tL h)).1
  .exact(wY.1 h).1
 .left;simpa using h
theorem Wp{c:List Al}{x:Al}(h:BT c=true)(hx:CU x=true):BT (My c x)=true:=by
 have hm:=λy=>Ux (c:=c) (x:=x) (y:=y)
 rw[Ep] at h ⊢;obtain⟨h1,h2,h3⟩:=h;refine⟨λy hy=>?_,?_,?_⟩
 .rcases hm y hy with rfl|hy
  .exact hx
  .exact h1 y hy
 .unfold My
  rw[tM];refine⟨?_,by simp,λa ha b hb=>?_⟩
  .split
   .exact(h2.filter _).drop
   .exact h2.filter _
  .obtain rfl:b=x:=by simpa using hb
   have db:a∈c.filter λy=>!Bj b.e b.p y:=by
    split at ha
    .exact tL ha
    .exact ha
   simpa using(wY.1 db).2
 .unfold My
  have hl:=wU (λy=>!Bj x.e x.p y) c
  split
  .rw[yj,List.length_drop];simp;omega
  .rw[yj];simp;omega
theorem Vc{c:List Al}{e p:Int}(h:¬IB c e p<0):∃i,i<c.length/\IB c e p=(i:Int)/\Bj e p (AT c i)=true:=by
 unfold IB at h ⊢
 split
 .rename_i ha
  obtain⟨x,hx,hs⟩:=Lj.1 ha;have hl:c.findIdx (Bj e p)<c.length:=List.findIdx_lt_length.2 ⟨x,hx,hs⟩;refine⟨_,hl,rfl,?_⟩;have:=List.findIdx_getElem (w:=hl);simpa[AT,hl] using this
 .rename_i ha
  rw[if_neg ha] at h;omega
end Go.Proofs.YtpdjjjdkhedibaaGreatDoor
