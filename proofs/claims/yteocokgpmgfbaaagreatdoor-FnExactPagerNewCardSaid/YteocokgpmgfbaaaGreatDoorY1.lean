/-
  Packed:16 texts.
-/
import Derived.Lib.Strings
import Derived.Test.YteocokgpmgfbaaaGreatDoorRows
import Derived.WalkKit
import Derived.WalkSpells
import Derived.WalkLawsBesides
import Derived.Deep.QuietTactic
import Derived.BigQuiet
import Derived.Deep.LoopGhost
import Derived.Deep.RegionHeld3
import Derived.Lib.Hide
import Derived.Handy
import Derived.Laws.AppendOwnNone
import Derived.StillTailTactics
import Derived.Maps.AppendAt
import Derived.Laws.IdiomStrings
set_option linter.unusedVariables false
set_option maxHeartbeats 16000000
set_option maxRecDepth 100000
namespace Go.Proofs.YteocokgpmgfbaaaGreatDoor
open Go.Proofs.Tryz
theorem So_.{u_} {α:Type u_} {a b:α} (h:some a=some b):a=b:=Option.some.inj h
theorem AA {p:Prop} (h:p):RowKit.Hid p:=h
theorem Bx {P:Nat→Prop} {Q:∀i,P i→Prop} (H:RowKit.Hid (∀i (h:P i),Q i h)) (i:Nat) (h:P i:=by kernel_rfl):Q i h:=H i h
theorem Ec {P R:Nat→Prop} {Q:∀i,P i→R i→Prop} {A C:Prop} {S:Nat→Prop} (H:RowKit.Hid (∀i (h:P i) (g:R i),Q i h g)) (L:RowKit.Hid (A∧(∀i,S i→P i)∧C)) (i:Nat) (h:S i:=by kernel_rfl) (g:R i:=by decide):Q i (L.2.1 i h) g:=H i (L.2.1 i h) g
theorem SA {A B:Prop} {P:Nat→Prop} {Q:∀i,P i→Prop} (H:RowKit.Hid (A∧B∧∀i (h:P i),Q i h)) (i:Nat) (h:P i:=by decide):Q i h:=H.2.2 i h
theorem BT {P:Nat→Prop} {Q:∀i,P i→Prop} (H:∀i (h:P i),Q i h) (i:Nat) (h:P i:=by decide):Q i h:=H i h
structure AM where
 k:Int
 e:Int
 a:Int
 b:Int
 c:Int
 nm:ByteArray
structure AL where
 k:Int
 g:ByteArray
 r:Int
 deriving DecidableEq
def AL.zero:AL:=⟨0,⟨#[]⟩,0⟩
structure AU where
 e:Int
 p:Int
 f:Int
 w:Bool
 deriving DecidableEq
structure DQ where
 rights:List ByteArray
 root:Int
 deriving DecidableEq
structure AH where
 mem:List (List Int)
 infos:List AL
 envs:List DQ
 cache:List AU
 deriving DecidableEq
def Bv (n lo hi:Int):Bool:=decide (lo≤n)&&decide (n≤hi)
theorem Ac {n lo hi:Int}:Bv n lo hi=true↔lo≤n∧n≤hi:=by simp[Bv]
theorem RO {n lo hi:Int}:Bv n lo hi=false↔n<lo∨hi<n:=by by_cases h1:lo≤n<;>by_cases h2:n≤hi<;>simp[Bv,h1,h2]<;>omega
def D5 (c:UInt8):Bool:=decide (97≤c.toNat)&&decide (c.toNat≤99)
def Az (s:ByteArray):Bool:=s.data.toList.all D5&&decide (s.size≤4)
def Bi (ss:List ByteArray) (k:Nat):ByteArray:=ss.getD k ⟨#[]⟩
theorem FV {ss:List ByteArray} {k:Nat} (h:k<ss.length):ss[k]? =some (Bi ss k):=by simp[Bi,h]
def J9 (a b:ByteArray):Bool:=!Op.bytesLess a.toList b.toList
def Bo (ss:List ByteArray) (i:Nat):Bool:=Az (Bi ss i)&&(decide (i=0)||!J9 (Bi ss (i - 1)) (Bi ss i))
def Ax (ss:List ByteArray):Bool:=(List.range ss.length).all (Bo ss)&&decide (ss.length≤6)
def Kw (a b:ByteArray):Bool:=a.data.toList.isPrefixOf b.data.toList
def Cc (rights:List ByteArray) (g:ByteArray):Bool:=rights.any fun s=>Kw s g
def Ee (n:Int):Bool:=Bv n 0 9999
def Em (r:List Int):Bool:=r.all Ee&&decide (r.length=4)
def Bq (m:List (List Int)):Bool:=m.all Em&&decide (m.length=12)
def BV (w:Int):Bool:=decide (0<w)&&decide (w%2=1)&&decide (w<48)
def A1 (w:Int):Nat:=(w/4).toNat
def IS (w:Int):Bool:=decide (w%4=3)
def AK (m:List (List Int)) (f:Nat):List Int:=m.getD f []
def Ar (m:List (List Int)) (f i:Nat):Int:=(AK m f).getD i 0
def infoAt (l:List AL) (f:Nat):AL:=l.getD f AL.zero
def AD (l:List DQ) (f:Nat):DQ:=l.getD f ⟨[],0⟩
def Cb (x:AL):Bool:=decide (x=AL.zero)||(Bv x.k 1 3&&Az x.g&&Bv x.r 0 50)
def A3 (l:List AL):Bool:=l.all Cb&&decide (l.length=12)
def named (r:List Int):List Nat:=(r.filter BV).map A1
def Bg (k:Int):Bool:=decide (k=2)||decide (k=3)
def QQ (k:Int):Int:=if Bg k then k - 1 else 0
def A5 (m:List (List Int)) (root:Int):List Nat:=
 if root<0 then[] else root.toNat::(named (AK m root.toNat)++(named (AK m root.toNat)).flatMap fun t=>named (AK m t))
def At (infos:List AL) (fs:List Nat) (rights:List ByteArray):Bool:=fs.all fun f=>Cc rights (infoAt infos f).g
def EY (infos:List AL) (f:Nat) (kind:Int) (rights:List ByteArray) (w:Int):Bool:=
 if BV w then decide (A1 w≠f)&&decide ((infoAt infos (A1 w)).k=kind - 1)&&Cc rights (infoAt infos (A1 w)).g else decide (w=0)
def Gp (m:List (List Int)) (infos:List AL) (f:Nat) (kind:Int) (rights:List ByteArray):Bool:=(AK m f).all (EY infos f kind rights)
def countP (m:List (List Int)) (infos:List AL) (g:Nat):Nat:=
 ((List.range 12).map fun t=>if Bg (infoAt infos t).k then(named (AK m t)).count g else 0).sum
def Ex (envs:List DQ) (g:Nat):Nat:=envs.countP fun e=>decide (e.root=(g:Int))
def Ca (x:AU):Bool:=Bv x.e 0 2&&Bv x.p 0 15&&Bv x.f 0 11
def Ay (e p:Int) (y:AU):Bool:=decide (y.e=e)&&decide (y.p=p)
def Eu (c:List AU) (e p:Int):Int:=if c.any (Ay e p) then(c.findIdx (Ay e p):Nat) else -1
def Ae (c:List AU) (i:Nat):AU:=c.getD i ⟨0,0,0,false⟩
def D9 (c:List AU) (i:Nat):Bool:=Ca (Ae c i)&&!(c.take i).any (Ay (Ae c i).e (Ae c i).p)
def Bu (c:List AU):Bool:=(List.range c.length).all (D9 c)&&decide (c.length≤4)
def BS (m:List (List Int)) (root a:Nat):Int×Nat×Bool:=
 if BV (Ar m root (a/16)) then
  if BV (Ar m (A1 (Ar m root (a/16))) (a/4%4)) then(0,A1 (Ar m (A1 (Ar m root (a/16))) (a/4%4)),IS (Ar m root (a/16))&&IS (Ar m (A1 (Ar m root (a/16))) (a/4%4)))
  else(2,0,false)
 else(1,0,false)
def UB (k:AH) (e:DQ):Bool:=Ax e.rights&&(decide (e.root= -1)||(Bv e.root 0 11&&decide ((infoAt k.infos e.root.toNat).k=3)))&&At k.infos (A5 k.mem e.root) e.rights
def Q0 (k:AH):Bool:=k.envs.all (UB k)&&decide (k.envs.length=3)
def PY (k:AH) (f:Nat):Bool:=!Bg (infoAt k.infos f).k||Gp k.mem k.infos f (infoAt k.infos f).k [⟨#[]⟩]
def UY (k:AH) (f:Nat):Bool:=decide ((infoAt k.infos f).r=(countP k.mem k.infos f:Int)+(Ex k.envs f:Int))
def Fc (k:AH) (x:AU):Bool:=decide (0≤(AD k.envs x.e.toNat).root)&&decide (BS k.mem (AD k.envs x.e.toNat).root.toNat (4*x.p.toNat)=(0,x.f.toNat,x.w))
def Ox (k:AH):Bool:=Bq k.mem&&A3 k.infos&&Bu k.cache&&Q0 k&&(List.range 12).all (PY k)&&(List.range 12).all (UY k)&&k.cache.all (Fc k)
def AR {α:Type} (l:List α) (i:Nat) (f:α→α):List α:=match l[i]? with
 |some x=>l.set i (f x)
 |none=>l
def DD (n:Int) (x:AL):AL:= {x with r:=x.r+n}
def Av (infos:List AL) (fs:List Nat) (n:Int):List AL:=fs.foldl (fun l g=>AR l g (DD n)) infos
def Cs (infos:List AL):Int:=if infos.any (fun x=>decide (x.k=0)) then(infos.findIdx (fun x=>decide (x.k=0)):Nat) else -1
def Co (kind:Int) (x:AL):AL:= {x with k:=kind}
def Et (m:List (List Int)) (infos:List AL) (f:Nat) (kind:Int) (rights:List ByteArray):List AL×Int:=
 if(infoAt infos f).k≠1∨(infoAt infos f).r≠0 then(infos,1)
 else if Gp m infos f kind rights=false then(infos,2)
 else if A3 (AR (Av infos (named (AK m f)) 1) f (Co kind)) then(AR (Av infos (named (AK m f)) 1) f (Co kind),0) else(infos,1)
def Cq (m:List (List Int)) (infos:List AL) (f:Nat):List AL×Int:=
 if Bg (infoAt infos f).k=false∨(infoAt infos f).r≠0 then(infos,1)
 else if A3 (AR (Av infos (named (AK m f)) (-1)) f (Co 1)) then(AR (Av infos (named (AK m f)) (-1)) f (Co 1),0) else(infos,2)
def MB (ss:List ByteArray) (s:ByteArray):List ByteArray:=ss.takeWhile (fun x=>!J9 x s)++s::ss.dropWhile (fun x=>!J9 x s)
def A0 (ss:List ByteArray) (s:ByteArray):List ByteArray×Bool:=if ss.any (fun x=>decide (x=s)) then(ss,true) else if ss.length=6 then(ss,false) else(MB ss s,true)
def A9 (ss:List ByteArray) (s:ByteArray):List ByteArray:=ss.filter fun r=>!Kw s r
def El (c:List AU) (x:AU):List AU:=
 (if(c.filter fun y=>!Ay x.e x.p y).length=4 then(c.filter fun y=>!Ay x.e x.p y).drop 1 else c.filter fun y=>!Ay x.e x.p y)++[x]
def Cg (c:List AU) (e:Int):List AU:=c.filter fun y=>decide (y.e≠e)
def CZ (m:List (List Int)) (f i:Nat) (w:Int):List (List Int):=AR m f fun r=>r.set i w
def Ej (k:AH) (e:Int) (g:ByteArray):Bool:=Cc (AD k.envs e.toNat).rights g
abbrev Kk:=AH×Int×Int
def IK (k:AH) (c:AM):Kk:=
 if Az c.nm=false then(k,0,3)
 else if Ej k c.e c.nm=false then(k,0,1)
 else if Cs k.infos<0 then(k,0,4)
 else({k with infos:=k.infos.set (Cs k.infos).toNat ⟨1,c.nm,0⟩,mem:=k.mem.set (Cs k.infos).toNat [0,0,0,0]},Cs k.infos,0)
def KO (k:AH) (c:AM):Kk:=
 if(infoAt k.infos c.a.toNat).k≠1 then(k,0,3)
 else if(infoAt k.infos c.a.toNat).r≠0 then(k,0,2)
 else({k with infos:=k.infos.set c.a.toNat AL.zero},0,0)
def Ka (k:AH) (c:AM):Kk:=
 if(infoAt k.infos c.a.toNat).k≠1∨Bv c.b 0 3=false∨Ee c.c=false then(k,0,3)
 else({k with mem:=CZ k.mem c.a.toNat c.b.toNat c.c},0,0)
def GZ (n:Int):Int:=if n=0 then 0 else if n=1 then 2 else 3
def DG (k:AH) (r:List AL×Int):Kk:=if r.2=0 then({k with infos:=r.1},0,0) else(k,0,GZ r.2)
def DA (k:AH) (w:Int):List Nat:=if BV w then A1 w::(if Bg (infoAt k.infos (A1 w)).k then named (AK k.mem (A1 w)) else[]) else[]
def ET (k:AH) (a:Nat):List Nat:=(List.range 3).filter fun e=>(A5 k.mem (AD k.envs e).root).contains a
def Aw (infos:List AL) (w:Int) (n:Int):List AL:=if BV w then AR infos (A1 w) (DD n) else infos
def DU (k:AH) (c:AM):Bool:=if BV c.c then decide ((infoAt k.infos (A1 c.c)).k=(infoAt k.infos c.a.toNat).k - 1) else decide (c.c=0)
def FY (k:AH) (c:AM):Kk:=
 if Bg (infoAt k.infos c.a.toNat).k=false∨Bv c.b 0 3=false∨DU k c=false then(k,0,3)
 else if(ET k c.a.toNat).all (fun e=>At k.infos (DA k c.c) (AD k.envs e).rights)=false then(k,0,1)
 else if BV c.c=true∧Ej k c.e (infoAt k.infos (A1 c.c)).g=false then(k,0,1)
 else({k with mem:=CZ k.mem c.a.toNat c.b.toNat c.c,infos:=Aw (Aw k.infos (Ar k.mem c.a.toNat c.b.toNat) (-1)) c.c 1,cache:=(ET k c.a.toNat).foldl (fun c e=>Cg c (e:Nat)) k.cache},0,0)
def Bl (n:Int) (e:DQ):DQ:= {e with root:=n}
def Fi (k:AH) (c:AM):Kk:=
 if c.a≠ -1∧(Bv c.a 0 11=false∨(infoAt k.infos c.a.toNat).k≠3) then(k,0,3)
 else if At k.infos (A5 k.mem c.a) (AD k.envs c.e.toNat).rights=false then(k,0,1)
 else
  let i1:=if 0≤(AD k.envs c.e.toNat).root then AR k.infos (AD k.envs c.e.toNat).root.toNat (DD (-1)) else k.infos
  ({k with infos:=if 0≤c.a then AR i1 c.a.toNat (DD 1) else i1,envs:=AR k.envs c.e.toNat (Bl c.a),cache:=Cg k.cache c.e},0,0)
def A7 (ss:List ByteArray) (e:DQ):DQ:= {e with rights:=ss}
def EL (k:AH) (c:AM):Kk:=
 if Bv c.a 0 2=false∨Az c.nm=false then(k,0,3)
 else if Ej k c.e c.nm=false then(k,0,1)
 else if(A0 (AD k.envs c.a.toNat).rights c.nm).2=false then(k,0,4)
 else({k with envs:=AR k.envs c.a.toNat (A7 (A0 (AD k.envs c.a.toNat).rights c.nm).1)},0,0)
def DL (k:AH) (c:AM):Kk:=
 if Bv c.a 0 2=false∨c.a=c.e∨Az c.nm=false then(k,0,3)
 else if Ej k c.e c.nm=false then(k,0,1)
 else if At k.infos (A5 k.mem (AD k.envs c.a.toNat).root) (A9 (AD k.envs c.a.toNat).rights c.nm)=false then(k,0,2)
 else({k with envs:=AR k.envs c.a.toNat (A7 (A9 (AD k.envs c.a.toNat).rights c.nm))},0,0)
def Gz (k:AH) (c:AM):Kk:=
 let root:=(AD k.envs c.e.toNat).root
 if Bv c.a 0 63=false∨root<0∨(c.k=11∧Ee c.b=false) then(k,0,3)
 else
  let x:=BS k.mem root.toNat c.a.toNat
  if x.1≠0 then(k,0,3)
  else if c.k=11∧x.2.2=false then(k,0,1)
  else
   let cache:=if Eu k.cache c.e (c.a/4)<0 then El k.cache ⟨c.e,c.a/4,x.2.1,x.2.2⟩ else k.cache
   if c.k=11 then({k with mem:=CZ k.mem x.2.1 (c.a%4).toNat c.b,cache:=cache},0,0)
   else({k with cache:=cache},Ar k.mem x.2.1 (c.a%4).toNat,0)
def FF (k:AH) (c:AM):Kk:=
 if Bv c.a 0 11=false∨(infoAt k.infos c.a.toNat).k=0∨(c.k=4∧Bg c.b=false) then(k,0,3)
 else if Ej k c.e (infoAt k.infos c.a.toNat).g=false then(k,0,1)
 else if c.k=2 then KO k c
 else if c.k=3 then Ka k c
 else if c.k=4 then DG k (Et k.mem k.infos c.a.toNat c.b (AD k.envs c.e.toNat).rights)
 else if c.k=5 then DG k (Cq k.mem k.infos c.a.toNat)
 else FY k c
def AO (k:AH) (c:AM):Kk:=
 if c.k=1 then IK k c
 else if Bv c.k 2 6 then FF k c
 else if c.k=7 then Fi k c
 else if c.k=8 then EL k c
 else if c.k=9 then DL k c
 else if c.k=10∨c.k=11 then Gz k c
 else(k,0,3)
end Go.Proofs.YteocokgpmgfbaaaGreatDoor
namespace Go.Proofs.YteocokgpmgfbaaaGreatDoor
open Go.Proofs.Tryz
open Go.RowKit
def nth (xs:List Int) (k:Nat):Int:=xs.getD k 0
def Rd (w:World) (v:Value) (sz n:Nat) (xs:List Value):Prop:=
 ∃a cap,v= .slice a n cap∧n≤cap∧cap≤maxLen∧xs.length=n*sz∧(a=none→cap=0)∧
  (0<n→∃b off,a=some ⟨b,off,none⟩∧∀j,j<n*sz→w.cell? ⟨b,off+j,none⟩=xs[j]?)
theorem Rd.of_owns {w:World} {base e sz n:Nat} {v:Value} {xs:List Value} (h:w.ownsRow base e sz v n xs):Rd w v sz n xs:=by
 rcases h.2 with⟨rfl,rfl⟩|⟨g,cap,cur,rfl,hb,hg,hnc,hcm,hcs,htake⟩
 ·exact⟨none,0,rfl,Nat.le_refl _,by simp[maxLen],h.1,fun _=>rfl,fun h=>absurd h (Nat.lt_irrefl _)⟩
 ·refine⟨_,_,rfl,hnc,hcm,h.1,(fun h=>by cases h),fun _=>⟨g,0,rfl,fun j hj=>?_⟩⟩
  have:=h.cellAt j hj;simpa using this
theorem Rd.keep {w w':World} {sz n:Nat} {v:Value} {xs:List Value} (h:Rd w v sz n xs) (hk:∀k,k<w.heap.size→w'.heap[k]? =w.heap[k]?):Rd w' v sz n xs:=by
 obtain⟨a,cap,rfl,hnc,hcm,hl,hnil,hc⟩:=h;refine⟨a,cap,rfl,hnc,hcm,hl,hnil,fun hn=>?_⟩;obtain⟨b,off,rfl,hcell⟩:=hc hn;refine⟨b,off,rfl,fun j hj=>?_⟩;have h1:=hcell j hj;have hsome:∃u,xs[j]? =some u:=⟨xs[j]'(by omega),List.getElem?_eq_getElem (by omega)⟩
 obtain⟨u,hu⟩:=hsome;rw[hu] at h1 ⊢;have hlt:=World.block_lt_of_cell? w _ h1;exact(World.cell?_of_block (hk _ hlt)).trans h1
theorem Rd.below {w w':World} {sz n:Nat} {v:Value} {xs:List Value} (h:Rd w v sz n xs) (hb:Below w.heap.size w w'):Rd w' v sz n xs:=h.keep hb.block
theorem Rd.drewN {w:World} {sz n:Nat} {v:Value} {xs:List Value} (h:Rd w v sz n xs) (k:Nat):Rd (w.drewN k) v sz n xs:=h.keep (fun _ _=>rfl)
theorem Rd.alloc {w:World} {sz n:Nat} {v:Value} {xs:List Value} (h:Rd w v sz n xs) (o:Obj):Rd (w.alloc o) v sz n xs:=h.keep (fun k hk=>(World.grownBy_alloc w o none).block k hk (by simp))
def Ap (w:World) (v:Value) (xs:List Int):Prop:=Rd w v 1 xs.length (xs.map (Value.int .i64))
def Gh (w:World) (a:Option Addr) (xs:List Int):Prop:=
 ∀k,k<xs.length→∃b off,a=some ⟨b,off,none⟩∧∀j,j<xs.length→w.cell? ⟨b,off+j,none⟩=some (.int .i64 (nth xs j))
theorem Mh {xs:List Int} {k:Nat} (h:k<xs.length):xs[k]? =some (nth xs k):=by simp[nth,h]
theorem PG {xs:List Int} {k:Nat} (h:k<xs.length):nth xs k=xs[k]:=by simp[nth,h]
theorem Ap.open {w:World} {v:Value} {xs:List Int} (h:Ap w v xs):
 ∃a cap,v= .slice a xs.length cap∧xs.length≤cap∧cap≤maxLen∧Gh w a xs:=by
 obtain⟨a,cap,rfl,hnc,hcm,hl,_,hc⟩:=h;refine⟨a,cap,rfl,hnc,hcm,fun k hk=>?_⟩;obtain⟨b,off,rfl,hcell⟩:=hc (by omega);refine⟨b,off,rfl,fun j hj=>?_⟩;rw[hcell j (by omega),List.getElem?_map,Mh hj];rfl
theorem Gh.at {w:World} {a:Option Addr} {xs:List Int} (h:Gh w a xs) {k:Nat} (hk:k<xs.length):
 ∃b off,a=some ⟨b,off,none⟩∧w.cell? ⟨b,off+k,none⟩=some (.int .i64 (nth xs k)):=by
 obtain⟨b,off,rfl,hc⟩:=h k hk;exact⟨b,off,rfl,hc k hk⟩
theorem Gh.keep {w w':World} {a:Option Addr} {xs:List Int} (h:Gh w a xs) (hk:∀k,k<w.heap.size→w'.heap[k]? =w.heap[k]?):Gh w' a xs:=by
 intro k hk';obtain⟨b,off,rfl,hc⟩:=h k hk';exact⟨b,off,rfl,fun j hj=>(World.cell?_of_block (hk _ (World.block_lt_of_cell? w _ (hc j hj)))).trans (hc j hj)⟩
theorem Gh.below {w w':World} {a:Option Addr} {xs:List Int} (h:Gh w a xs) (hb:Below w.heap.size w w'):Gh w' a xs:=h.keep hb.block
theorem Ap.below {w w':World} {v:Value} {xs:List Int} (h:Ap w v xs) (hb:Below w.heap.size w w'):Ap w' v xs:=Rd.below h hb
theorem Ap.drewN {w:World} {v:Value} {xs:List Int} (h:Ap w v xs) (k:Nat):Ap (w.drewN k) v xs:=Rd.drewN h k
theorem Ap.keep {w w':World} {v:Value} {xs:List Int} (h:Ap w v xs) (hk:∀k,k<w.heap.size→w'.heap[k]? =w.heap[k]?):Ap w' v xs:=Rd.keep h hk
theorem Ap.alloc {w:World} {v:Value} {xs:List Int} (h:Ap w v xs) (o:Obj):Ap (w.alloc o) v xs:=Rd.alloc h o
def AE (lo:Nat) (w:World) (v:Value) (xs:List Int):Prop:=w.ownsRow lo 3 1 v xs.length (xs.map (Value.int .i64))
theorem AE.rd {lo:Nat} {w:World} {v:Value} {xs:List Int} (h:AE lo w v xs):Ap w v xs:=Rd.of_owns h
theorem AP {a b:Bool} (h:a=b):Ending.returned (.bool a)= .returned (.bool b):=by rw[h]
theorem BQ {a b:Int} (h:a=b):Ending.returned (.int .i64 a)= .returned (.int .i64 b):=by rw[h]
theorem LH (w:World) (a b:Nat):(w.drewN a).drewN b=w.drewN (a+b):=by simp[World.drewN,Nat.add_assoc]
theorem Ao {B:Nat} {a w:World} (h:Below B a w) (n:Nat):Below B a (w.drewN n):=⟨h.os,h.tape,h.output,h.size,h.block⟩
def KG (w:World) (v:Value) (bs:List Int):Prop:=Rd w v 1 bs.length (bs.map (Value.int .u8))∧∀b∈bs,0≤b∧b<256
theorem DH (n lo hi:Int) (w:World):
 Calls prog 9 #[.int .i64 n, .int .i64 lo, .int .i64 hi] w fun e w'=>e= .returned (.bool (Bv n lo hi))∧w=w':=by
 by_cases h1:lo≤n
 ·have e1:Bv n lo hi=decide (n≤hi):=by simp[Bv,h1]
  have H:=AA e1;clear e1;go_in;go_wp2;go_ret;exact⟨AP H.out.symm,rfl⟩
 ·have e1:Bv n lo hi=false:=by simp[Bv,h1]
  have H:=AA e1;clear e1;go_in;go_wp2;go_ret;exact⟨AP H.out.symm,rfl⟩
theorem EU (n lo hi:Int) (w:World):
 Calls prog 14 #[.int .i64 n, .int .i64 lo, .int .i64 hi] w fun e w'=>e= .returned (.bool (Bv n lo hi))∧w=w':=by
 by_cases h1:lo≤n
 ·have e1:Bv n lo hi=decide (n≤hi):=by simp[Bv,h1]
  have H:=AA e1;clear e1;go_in;go_wp2;go_ret;exact⟨AP H.out.symm,rfl⟩
 ·have e1:Bv n lo hi=false:=by simp[Bv,h1]
  have H:=AA e1;clear e1;go_in;go_wp2;go_ret;exact⟨AP H.out.symm,rfl⟩
theorem K5 (n:Int) (w:World):
 Calls prog 131 #[.int .i64 n] w fun e w'=>e= .returned (.bool (Bv n 0 2))∧w=w':=by
 go_in;go_wp2_with (go_at_call 14;refine(EU _ _ _ _).mono ?_;rintro e w' ⟨rfl,rfl⟩);go_ret;exact⟨rfl,rfl⟩
def findIdx (p:Int→Bool) (xs:List Int):Int:=if xs.any p then(xs.findIdx p:Int) else -1
theorem On {p:Int→Bool} {xs:List Int} (h:∀j,j<xs.length→p (nth xs j)=false):findIdx p xs= -1:=by
 unfold findIdx;have:xs.any p=false:=by rw[List.any_eq_false];intro x hx;obtain⟨j,hj,rfl⟩:=List.getElem_of_mem hx;have:=h j hj;rw[PG hj] at this;simp[this]
 simp[this]
theorem Q9 {p:Int→Bool} {xs:List Int} {k:Nat} (hk:k<xs.length) (h:∀j,j<k→p (nth xs j)=false) (hp:p (nth xs k)=true):findIdx p xs=k:=by
 unfold findIdx;rw[PG hk] at hp;have h1:xs.any p=true:=List.any_eq_true.2 ⟨xs[k],List.getElem_mem hk,hp⟩;have h2:xs.findIdx p=k:=by
  rw[List.findIdx_eq hk];refine⟨hp,fun j hj=>?_⟩;have:=h j hj
  rwa [PG (by omega)] at this
 simp[h1,h2]
theorem RA {p:Int→Bool} {xs:List Int}:decide (0≤findIdx p xs)=xs.any p:=by unfold findIdx;cases xs.any p<;>simp
theorem M9 (F:Nat) (caps:Array Value) (p:Int→Bool) (v:Value) (xs:List Int) (w:World) (h:Ap w v xs)
 (hF:∀args w,(callFunc F args).run prog w= .ok (.enter F args) w) (hf:∀x w,Calls prog F (#[.int .i64 x]++caps) w fun e w'=>e= .returned (.bool (p x))∧w=w'):
 Calls prog 201 #[v, .func (.func F) #[] caps] w fun e w'=>e= .returned (.int .i64 (findIdx p xs))∧w=w':=by
 obtain⟨a,c,rfl,hc,hcm,H⟩:=h.open;clear h;unfold maxLen at hcm;have Hf:=AA hf;clear hf;go_in;go_wp2;go_loop [8] (fun i=>∃k:Nat,k≤xs.length∧i= .int .i64 k∧∀j,j<k→p (nth xs j)=false) (fun i=>xs.length - (intOf i).toNat)
 case atStart=>exact⟨0,Nat.zero_le _,rfl,fun j hj=>absurd hj (Nat.not_lt_zero _)⟩
 case round=>
  obtain⟨k,hk,rfl,hpre⟩:=hrel;have Hpre:=AA hpre;clear hpre
  by_cases hlt:k<xs.length
  ·obtain⟨b,off,rfl,D⟩:=H.at hlt
   clear H;cases hp:p (nth xs k)
   ·have Hp:=AA hp;clear hp
    go_wp2_with (refine(Hf.out _ _).mono ?_;rintro e w' ⟨rfl,rfl⟩;rw[Hp.out]);go_round
    case rel=>exact⟨k+1,by omega,by go_num,fun j hj=>by
     rcases Nat.lt_succ_iff_lt_or_eq.1 hj with h|h
     ·exact Hpre.out j h
     ·subst h;exact Hp.out⟩
    case measure=>simp[intOf];omega
   ·have Hp:=AA hp;clear hp
    have hres:=AA (Q9 (p:=p) hlt Hpre.out Hp.out);go_wp2_with (refine(Hf.out _ _).mono ?_;rintro e w' ⟨rfl,rfl⟩;rw[Hp.out]);go_ret;exact⟨BQ hres.out.symm,rfl⟩
  ·have hres:=AA (On (p:=p) (xs:=xs) (fun j hj=>Hpre.out j (by omega)))
   go_wp2;go_ret;exact⟨BQ hres.out.symm,rfl⟩
theorem Kp (F:Nat) (caps:Array Value) (p:Int→Bool) (v:Value) (xs:List Int) (w:World) (h:Ap w v xs)
 (hF:∀args w,(callFunc F args).run prog w= .ok (.enter F args) w) (hf:∀x w,Calls prog F (#[.int .i64 x]++caps) w fun e w'=>e= .returned (.bool (p x))∧w=w'):
 Calls prog 165 #[v, .func (.func F) #[] caps] w fun e w'=>e= .returned (.bool (xs.any p))∧w=w':=by
 have Hf:=AA hf;clear hf;go_in;go_wp2_with (go_at_call 201;refine(M9 F caps p v xs _ h hF Hf.out).mono ?_;rintro e w' ⟨rfl,rfl⟩);go_ret;exact⟨AP RA,rfl⟩
theorem BK {p:Nat→Prop} {k:Nat} (h:∀j,j<k→p j) (hk:p k):∀j,j<k+1→p j:=fun j hj=>by
 rcases Nat.lt_succ_iff_lt_or_eq.1 hj with h'|h'
 ·exact h j h'
 ·subst h';exact hk
theorem Tryz.infoInt:(prog.info? 3).map (fun i=>(i.zero,i.size,i.bytes))=some (some (.int .i64 0),1,8):=by kernel_rfl
theorem AE.below {lo:Nat} {w w':World} {v:Value} {xs:List Int} (h:AE lo w v xs) (hb:Below w.heap.size w w'):AE lo w' v xs:=by
 refine World.ownsRow.kept (row:=none) h ⟨hb.os,hb.tape,hb.output,hb.size,fun k hk _=>hb.block k hk⟩ ?_;cases v.ownBlock<;>simp
theorem Bn {lo:Nat} {w w':World} {v:Value} {e sz n:Nat} {xs:List Value} (h:w.ownsRow lo e sz v n xs) (hb:Below w.heap.size w w'):w'.ownsRow lo e sz v n xs:=by
 refine World.ownsRow.kept (row:=none) h ⟨hb.os,hb.tape,hb.output,hb.size,fun k hk _=>hb.block k hk⟩ ?_;cases v.ownBlock<;>simp
theorem Below.of_grown {w w':World} (h:w.grownBy w' none):Below w.heap.size w w':=⟨h.os,h.tape,h.output,h.size,fun k hk=>h.block k hk (by simp)⟩
theorem KS (z:Value) (hz:z.cells= #[z]) (n:Nat):(madeCells z.cells (n*1)).toList=List.replicate n z:=by rw[hz,Nat.mul_one,toList_madeCells_one]
theorem VK {w:World} {ops:Array Oper} {rest:List Oper} {o:Oper} {a:Act} {Q:Exit→Act→World→Prop} {l:Operand} {t:TypeId} {n:Nat}
 (hg:o.guard=none) (hop:o.op=Op.makeSlice t l l) (e:TypeId) (z:Value) (bytes:Nat) (h1:prog.underlying t=some (.slice e))
 (h2:(prog.info? e).map (fun i=>(i.zero,i.size,i.bytes))=some (some z,1,bytes)) (hz:z.cells= #[z])
 (hl:a.eval l= .int .i64 n) (b2:bytes*n≤281474976710656) (b3:n≤maxLen)
 (hK:∀w',w'.ownsRow w.heap.size e 1 (.slice (some ⟨w.heap.size,0,none⟩) n n) n (List.replicate n z)→Below w.heap.size w w'→w.heap.size<w'.heap.size→
  wpList prog ops Q rest (a.put o.dst (.slice (some ⟨w.heap.size,0,none⟩) n n)) w'):wpList prog ops Q (o::rest) a w:=by
 obtain⟨i0,hi,hz0,hz1,hz2⟩:=info_parts h2;refine wpList_make_full w hg l l t hop w.heap.size e i0 z 1 h1 hi hz0 hz1 .i64 .i64 n n n hl hl rfl rfl (by rw[hz2];exact b2) b3 (Nat.le_refl _) fun w' h h'=>?_
 rw[KS z hz] at h;exact hK w' h (Below.of_grown h') (h.lt _ rfl).2
theorem DF {lo:Nat} {w:World} {ops:Array Oper} {rest:List Oper} {o:Oper} {a:Act} {Q:Exit→Act→World→Prop} {s x:Operand} {t:TypeId}
 (hgd:o.guard=none) (ho:o.op= .call {callee:= .builtin .append,args:= #[s,x],argTypes:= #[t,t]})
 (e:TypeId) (z:Value) (sz bytes:Nat) (ht:prog.underlying t=some (.slice e)) (hi:(prog.info? e).map (fun i=>(i.zero,i.size,i.bytes))=some (some z,sz,bytes))
 (hzs:z.cells.size=sz) (hsz:0<sz) {v u:Value} {n m:Nat} {xs news:List Value} (hs:a.eval s=v) (hown:w.ownsRow lo e sz v n xs)
 (hx:a.eval x=u) (hr:Rd w u sz m news) (h1:∀u∈news,u.oneCell'=true) (h63:n+m≤maxLen) (hbytes:(n+m)*bytes≤140737488355328) (hlo:lo≤w.heap.size)
 (hK:∀v' w',w'.ownsRow lo e sz v' (n+m) (xs++news)→w.grownBy w' v.ownBlock→Below lo w w'→wpList prog ops Q rest (a.put o.dst v') w'):wpList prog ops Q (o::rest) a w:=by
 obtain⟨i0,hi0,hz0,hz1,hz2⟩:=info_parts hi;obtain⟨ao,c,rfl,hmc,hcm,hl,hnil,hc⟩:=hr;have hbel:∀w',w.grownBy w' v.ownBlock→Below lo w w':=fun w' hg=>(Below.refl lo w).grown hg hlo (fun k hk=>(hown.lt k hk).1)
 cases ao with
 |none=>
  have hc0:=hnil rfl;subst hc0;obtain rfl:m=0:=by omega
  have hnews:news=[]:=List.eq_nil_of_length_eq_zero (by simpa using hl);subst hnews;refine wpList_append_own_none hgd s x t ho lo e i0 sz ht hi0 v n xs hs hown hx ?_;exact hK v w (by simpa using hown) ⟨rfl,rfl,rfl,Nat.le_refl _,fun _ _ _=>rfl⟩ (Below.refl _ _)
 |some ad=>
  refine wpList_append_own w hgd s x t ho lo e i0 z sz bytes ht hi0 hz0 hz1 hz2 hzs hsz v n xs hs hown ad m c news hx hl ?_ h1 h63 hbytes hlo (fun v' w' h2 h3 _=>hK v' w' h2 h3 (hbel w' h3));intro j u hu
  rcases Nat.eq_zero_or_pos m with rfl|hm
  ·simp at hl
   simp[hl] at hu
  ·obtain⟨b,off,had,hcell⟩:=hc hm
   obtain rfl:ad=⟨b,off,none⟩:=by simpa using had
   have hj:j<news.length:=(List.getElem?_eq_some_iff.1 hu).1;have hadd:(⟨b,off,none⟩:Addr).add j=⟨b,off+j,none⟩:=by unfold Addr.add;split<;>simp_all
   rw[hadd,hcell j (by omega),hu]
theorem Rd.news (w:World) (cs:Array Value) (e:TypeId) (sz n:Nat) (hs:cs.size=n*sz) (hn:n≤maxLen):Rd (w.alloc (.cells cs e)) (.slice (some ⟨w.heap.size,0,none⟩) n n) sz n cs.toList:=
 Rd.of_owns (World.ownsRow_lit (base:=w.heap.size) w cs n (Nat.le_refl _) hn hs)
theorem IE {xs:List Int}:∀u∈xs.map (Value.int .i64),u.oneCell'=true:=by intro u hu;obtain⟨x,_,rfl⟩:=List.mem_map.1 hu;rfl
theorem By (w:World) (e sz:Nat):(w.alloc (.cells #[] e)).ownsRow w.heap.size e sz (.slice (some ⟨w.heap.size,0,none⟩) 0 0) 0 []:=
 World.ownsRow_made w #[] 0 (Nat.le_refl _) (by simp[maxLen]) (by simp)
theorem HZ (v:Value) (xs:List Int) (w:World) (h:Ap w v xs) (hs:xs.length≤1048576):
 Calls prog 42 #[v] w fun e w'=>∃v',e= .returned v'∧AE w.heap.size w' v' xs∧Below w.heap.size w w':=by
 have h':=h;obtain⟨a,c,rfl,hnc,hcm,hl,hnil,hc⟩:=h';have hq:=fun w=>Lib.run_eql_slice_nil (P:=prog) w 28 3 a xs.length c 0 0 underlying28
 cases a with
 |none=>have hc0:=hnil rfl;subst hc0;have h0:xs=[]:=List.eq_nil_of_length_eq_zero (by omega);subst h0;simp only[List.length_nil] at hq;go_in;go_wp2;go_ret;exact⟨_,rfl,World.ownsRow_nil _ _ _ _,Below.refl _ _⟩
 |some ad=>clear hc hnil;go_in;go_wp2_with (refine DF (lo:=w.heap.size) (v:= .slice (some ⟨w.heap.size,0,none⟩) 0 0) (n:=0) (xs:=[]) (m:=xs.length) (news:=xs.map (Value.int .i64)) rfl rfl 3 (.int .i64 0) 1 8 underlying28 Tryz.infoInt rfl (by decide) rfl (By _ _ _) rfl (h.alloc _) IE (by unfold maxLen;omega) (by omega) (by simp) ?_;intro v' w' hown _ hbel);go_ret;refine⟨_,rfl,by simpa[AE] using hown,((Below.refl _ _).alloc (Nat.le_refl _) _).trans hbel⟩
theorem JW {w:World} {lo e sz n:Nat} {v:Value} {xs:List Value} (h:w.ownsRow lo e sz v n xs) (hn:0<n):∃g cap,v= .slice (some ⟨g,0,none⟩) n cap∧lo≤g∧g<w.heap.size:=by
 have hlt:=h.lt
 rcases h.2 with⟨_,rfl⟩|⟨g,cap,cur,rfl,hb,hg,_⟩
 ·omega
 ·exact⟨g,cap,rfl,hb,(hlt g rfl).2⟩
theorem Oq {xs:List Int} {a:Nat} (h:a<xs.length):(xs.map (Value.int .i64))[a]? =some (.int .i64 (nth xs a)):=by rw[List.getElem?_map,Mh h];rfl
theorem SU {xs:List Int} {a j:Nat} {x:Int} (ha:a<xs.length):nth (xs.set a x) j=if j=a then x else nth xs j:=by
 unfold nth;rw[List.getD_eq_getElem?_getD,List.getD_eq_getElem?_getD,List.getElem?_set]
 by_cases h:a=j
 ·subst h;simp[ha]
 ·have h':j≠a:=fun e=>h e.symm
  simp[h,h']
theorem KT (lo:Nat) (v:Value) (xs:List Int) (k:Int) (w:World) (h:AE lo w v xs) (hs:xs.length≤1048576) (hk0:0≤k) (hk1:k≤1099511627776):
 Calls prog 25 #[v, .int .i64 k] w fun e w'=>
  ∃ys:List Int,e= .returned (.int .i64 (k+xs.length))∧ys.length=xs.length∧(∀j,j<xs.length→nth ys j=k+j)∧AE lo w' v ys∧w.grownBy w' v.ownBlock:=by
 by_cases hz:xs.length=0
 ·obtain rfl:xs=[]:=List.eq_nil_of_length_eq_zero hz
  obtain⟨a,c,rfl,_,_,_⟩:=h.rd.open;go_in;go_wp2;refine wp_loop_rounds 1 ?_;rw[rounds_succ];go_wp2;go_ret;exact⟨[],by simp,rfl,by simp,h,⟨rfl,rfl,rfl,Nat.le_refl _,fun _ _ _=>rfl⟩⟩
 ·obtain⟨g,cap,rfl,hg1,hg2⟩:=JW h (by omega)
  have Hk:=AA hz;clear hz;go_in;go_wp2;go_loopw [1,5] (fun m i wr=>∃q:Nat,∃ys:List Int,q≤xs.length∧i= .int .i64 q∧m= .int .i64 (k+q)∧ys.length=xs.length∧(∀j,j<q→nth ys j=k+j)∧AE lo wr (.slice (some ⟨g,0,none⟩) xs.length cap) ys∧w.grownBy wr (some g)) (fun _ i _=>xs.length - (intOf i).toNat)
  case atStart=>exact⟨0,xs,Nat.zero_le _,rfl,by simp,rfl,fun j hj=>absurd hj (Nat.not_lt_zero _),h,⟨rfl,rfl,rfl,Nat.le_refl _,fun _ _ _=>rfl⟩⟩
  case round=>
   obtain⟨q,ys,hq,rfl,rfl,hl,hpre,hown,hgr⟩:=hrel;have Hl:=AA hl;clear hl;have Hpre:=AA hpre;clear hpre;clear h;have hl1:=Hl.out
   by_cases hlt:q<xs.length
   ·have own1:wr.ownsRow lo 3 1 (.slice (some ⟨g,0,none⟩) xs.length cap) xs.length (ys.map (Value.int .i64)):=by have:=hown;unfold AE at this;rwa [Hl.out] at this
    have C:=(own1.cellAt q (by omega)).trans (Oq (xs:=ys) (by have:=Hl.out;omega));have Fr:=own1.frozenAt q;have S:=AA (own1.stored q (.int .i64 (k+q)));clear hown own1 hl1;go_wp2;go_roundw
    case rel=>
     refine⟨q+1,ys.set q (k+q),by omega,by go_num,by go_num,by rw[List.length_set];exact Hl.out,?_,?_,?_⟩
     ·refine BK (fun j hj=>?_) ?_
      ·rw[SU (by have:=Hl.out;omega),if_neg (by omega)];exact Hpre.out j hj
      ·rw[SU (by have:=Hl.out;omega),if_pos rfl]
     ·have:=S.out.1
      unfold AE;rw[List.length_set,List.map_set,Hl.out];exact this
     ·have h2:=S.out.2
      exact⟨h2.os.trans hgr.os,h2.tape.trans hgr.tape,h2.output.trans hgr.output,Nat.le_trans hgr.size h2.size,fun b hb hne=>(h2.block b (Nat.lt_of_lt_of_le hb hgr.size) hne).trans (hgr.block b hb hne)⟩
    case measure=>simp[intOf];omega
   ·obtain rfl:q=xs.length:=by omega
    clear hl1;go_wp2;go_ret;exact⟨ys,rfl,Hl.out,Hpre.out,hown,hgr⟩
theorem KQ (v:Value) (ys:List Int) (k:Int) (w:World) (h:Ap w v ys) (hs:ys.length≤1048576) (hk0:0≤k) (hk1:k≤1099511627776) (hm:∀j,j<ys.length→nth ys j=k+j):
 Calls prog 29 #[v, .int .i64 k] w fun e w'=>e= .returned (.int .i64 (k+ys.length))∧w=w':=by
 obtain⟨a,c,rfl,hc,hcm,H⟩:=h.open;clear h;unfold maxLen at hcm;have Hm:=AA hm;clear hm;go_in;go_wp2;go_loop [1,5] (fun m i=>∃q:Nat,q≤ys.length∧i= .int .i64 q∧m= .int .i64 (k+q)) (fun _ i=>ys.length - (intOf i).toNat)
 case atStart=>exact⟨0,Nat.zero_le _,rfl,by simp⟩
 case round=>
  obtain⟨q,hq,rfl,rfl⟩:=hrel
  by_cases hlt:q<ys.length
  ·obtain⟨b,off,rfl,D⟩:=H.at hlt
   rw[Hm.out q hlt] at D;clear H;go_wp2;go_round
   case rel=>exact⟨q+1,by omega,by go_num,by go_num⟩
   case measure=>simp[intOf];omega
  ·obtain rfl:q=ys.length:=by omega
   go_wp2;go_ret;exact⟨rfl,rfl⟩
def lenOf:Value→Nat| .slice _ n _=>n|_=>0
def Bf {α:Type} (cs:α→List Value) (xs:List α):List Value:=xs.flatMap cs
theorem Gd {α:Type} (cs:α→List Value) (x:α) (xs:List α):Bf cs (x::xs)=cs x++Bf cs xs:=rfl
theorem BN {α:Type} (cs:α→List Value) (xs ys:List α):Bf cs (xs++ys)=Bf cs xs++Bf cs ys:=List.flatMap_append
theorem Dn {α:Type} (cs:α→List Value) (x:α):Bf cs [x]=cs x:=by simp[Bf]
theorem F8 {α:Type} {cs:α→List Value} {sz:Nat} (hs:∀x,(cs x).length=sz) (xs:List α):(Bf cs xs).length=xs.length*sz:=by
 induction xs with
 |nil=>simp[Bf]
 |cons x xs ih=>rw[Gd,List.length_append,hs,ih,List.length_cons,Nat.succ_mul];omega
theorem Ll {α:Type} {cs:α→List Value} {sz:Nat} (hs:∀x,(cs x).length=sz) {xs:List α} {k:Nat} {x:α} (h:xs[k]? =some x) {j:Nat} (hj:j<sz):(Bf cs xs)[k*sz+j]? =(cs x)[j]? :=by
 induction xs generalizing k with
 |nil=>simp at h
 |cons y ys ih=>
  cases k with
  |zero=>simp only[List.getElem?_cons_zero,Option.some.injEq] at h;subst h;rw[Gd,List.getElem?_append_left (by rw[hs];omega)];simp
  |succ k=>
   rw[List.getElem?_cons_succ] at h;rw[Gd,List.getElem?_append_right (by rw[hs,Nat.succ_mul];omega),hs,←ih h]
   congr 1
   rw[Nat.succ_mul];omega
def Ql {α:Type} (sz:Nat) (cs:α→List Value) (w:World) (a:Option Addr) (xs:List α):Prop:=
 ∀(k:Nat) x,xs[k]? =some x→∃b off,a=some ⟨b,off,none⟩∧b<w.heap.size∧∀(j:Nat) u,(cs x)[j]? =some u→w.cell? ⟨b,off+k*sz+j,none⟩=some u
theorem Ql.below {α:Type} {sz:Nat} {cs:α→List Value} {w w':World} {a:Option Addr} {xs:List α} (h:Ql sz cs w a xs) (hb:Below w.heap.size w w'):Ql sz cs w' a xs:=by
 intro k x hk;obtain⟨b,off,rfl,hlt,hc⟩:=h k x hk;exact⟨b,off,rfl,Nat.lt_of_lt_of_le hlt hb.size,fun j u hu=>(hb.cell (p:=⟨b,off+k*sz+j,none⟩) hlt).trans (hc j u hu)⟩
theorem Ql.of {α:Type} {sz:Nat} {cs:α→List Value} (hs:∀x,(cs x).length=sz) (hsz:0<sz) {w:World} {a:Option Addr} {n c:Nat} {xs:List α} (h:Rd w (.slice a n c) sz xs.length (Bf cs xs)):Ql sz cs w a xs:=by
 obtain⟨a',cap,hv,hnc,hcm,hl,_,hc⟩:=h;simp only[Value.slice.injEq] at hv;obtain⟨rfl,rfl,rfl⟩:=hv;intro k x hk;have hlt:=(List.getElem?_eq_some_iff.1 hk).1;obtain⟨b,off,rfl,hcell⟩:=hc (by omega);have key:∀(j:Nat) u,(cs x)[j]? =some u→w.cell? ⟨b,off+k*sz+j,none⟩=some u:=by
  intro j u hu;have hj:j<sz:=by rw[←hs x];exact(List.getElem?_eq_some_iff.1 hu).1
  have hm:k*sz+sz≤xs.length*sz:=by rw[←Nat.succ_mul];exact Nat.mul_le_mul_right _ hlt
  rw[Nat.add_assoc,hcell (k*sz+j) (by omega),Ll hs hk hj,hu]
 refine⟨b,off,rfl,?_,key⟩;have h0:(cs x)[0]? =some ((cs x)[0]'(by rw[hs];omega)):=List.getElem?_eq_getElem _;exact World.block_lt_of_cell? w _ (key 0 _ h0)
theorem Rd.shape {w:World} {v:Value} {sz n:Nat} {xs:List Value} (h:Rd w v sz n xs):∃a cap,v= .slice a n cap∧n≤cap∧cap≤maxLen:=by obtain⟨a,cap,rfl,hnc,hcm,_⟩:=h;exact⟨a,cap,rfl,hnc,hcm⟩
theorem Un {w:World} {ops:Array Oper} {rest:List Oper} {o:Oper} {a:Act} {Q:Exit→Act→World→Prop} {l:Operand} {t:TypeId} {n:Nat}
 (hg:o.guard=none) (hop:o.op=Op.makeSlice t l l) (e:TypeId) (z:Value) (sz bytes:Nat) (h1:prog.underlying t=some (.slice e))
 (h2:(prog.info? e).map (fun i=>(i.zero,i.size,i.bytes))=some (some z,sz,bytes))
 (hl:a.eval l= .int .i64 n) (b2:bytes*n≤281474976710656) (b3:n≤maxLen)
 (hK:∀w',w'.ownsRow w.heap.size e sz (.slice (some ⟨w.heap.size,0,none⟩) n n) n (madeCells z.cells (n*sz)).toList→Below w.heap.size w w'→w.heap.size<w'.heap.size→
  wpList prog ops Q rest (a.put o.dst (.slice (some ⟨w.heap.size,0,none⟩) n n)) w'):wpList prog ops Q (o::rest) a w:=by
 obtain⟨i0,hi,hz0,hz1,hz2⟩:=info_parts h2;refine wpList_make_full w hg l l t hop w.heap.size e i0 z sz h1 hi hz0 hz1 .i64 .i64 n n n hl hl rfl rfl (by rw[hz2];exact b2) b3 (Nat.le_refl _) fun w' h h'=>?_
 exact hK w' h (Below.of_grown h') (h.lt _ rfl).2
def Eg (w:World) (g o:Nat):Nat→List Value→World
 |_,[]=>w
 |j,u::us=>Eg (w.setCell ⟨g,o+j,none⟩ u) g o (j+1) us
def Dq (xs:List Value) (o:Nat):Nat→List Value→List Value
 |_,[]=>xs
 |j,u::us=>Dq (xs.set (o+j) u) o (j+1) us
theorem JG (A B C us:List Value) (j:Nat) (hB:B.length=us.length) (o:Nat) (ho:A.length=o+j):Dq (A++B++C) o j us=A++us++C:=by
 induction us generalizing A B j with
 |nil=>simp at hB;subst hB;simp[Dq]
 |cons u us ih=>
  cases B with
  |nil=>simp at hB
  |cons b B=>
   rw[Dq,←ho];have e:(A++b::B++C).set A.length u=(A++[u])++B++C:=by simp[List.set_append_right]
   rw[e,ih (A++[u]) B (j+1) (by simpa using hB) (by simp;omega)];simp
theorem Db {w:World} {lo e sz g n cap:Nat} {xs:List Value} (h:w.ownsRow lo e sz (.slice (some ⟨g,0,none⟩) n cap) n xs) (o j:Nat) (us:List Value):
 (Eg w g o j us).ownsRow lo e sz (.slice (some ⟨g,0,none⟩) n cap) n (Dq xs o j us)∧w.grownBy (Eg w g o j us) (some g):=by
 induction us generalizing w xs j with
 |nil=>exact⟨h,⟨rfl,rfl,rfl,Nat.le_refl _,fun _ _ _=>rfl⟩⟩
 |cons u us ih=>obtain⟨s1,s2⟩:=World.ownsRow.stored h (o+j) u;obtain⟨t1,t2⟩:=ih s1 (j+1);exact⟨t1,⟨t2.os.trans s2.os,t2.tape.trans s2.tape,t2.output.trans s2.output,Nat.le_trans s2.size t2.size,fun b hb hne=>(t2.block b (Nat.lt_of_lt_of_le hb s2.size) hne).trans (s2.block b hb hne)⟩⟩
theorem DI {α:Type} {xs:List α} {k:Nat} {x:α} (h:xs[k]? =some x):xs.take (k+1)=xs.take k++[x]:=by obtain⟨hlt,rfl⟩:=List.getElem?_eq_some_iff.1 h;exact List.take_succ_eq_append_getElem hlt
theorem Pv {α:Type} {cs:α→List Value} {sz:Nat} (hs:∀x,(cs x).length=sz) {xs:List α} {k:Nat} (hk:k<xs.length) (y:α):Dq (Bf cs xs) (k*sz) 0 (cs y)=Bf cs (xs.set k y):=by
 have e1:xs=xs.take k++[xs[k]]++xs.drop (k+1):=by simp
 have e2:xs.set k y=xs.take k++[y]++xs.drop (k+1):=by rw[List.set_eq_take_append_cons_drop,if_pos hk];simp
 rw[e2]
 conv=>lhs;rw[e1]
 rw[BN,BN,BN,BN,Dn,Dn];exact JG _ _ _ _ 0 (by rw[hs,hs]) _ (by rw[F8 hs,List.length_take];congr 1;omega)
def Fv (w:World) (lo e sz g n cap:Nat) (wr:World):Prop:=∃cs:List Value,wr.ownsRow lo e sz (.slice (some ⟨g,0,none⟩) n cap) n cs∧w.grownBy wr (some g)
theorem Fv.set {w wr:World} {lo e sz g n cap:Nat} (h:Fv w lo e sz g n cap wr) (j:Nat) (u:Value):Fv w lo e sz g n cap (wr.setCell ⟨g,j,none⟩ u):=by
 obtain⟨cs,h1,h2⟩:=h;obtain⟨s1,s2⟩:=World.ownsRow.stored h1 j u;exact⟨_,s1,s2.os.trans h2.os,s2.tape.trans h2.tape,s2.output.trans h2.output,Nat.le_trans h2.size s2.size,fun b hb hne=>(s2.block b (Nat.lt_of_lt_of_le hb h2.size) hne).trans (h2.block b hb hne)⟩
theorem Fv.below {w wr w1:World} {lo e sz g n cap:Nat} (h:Fv w lo e sz g n cap wr) (hb:Below wr.heap.size wr w1):Fv w lo e sz g n cap w1:=by
 obtain⟨cs,h1,h2⟩:=h;exact⟨_,Bn h1 hb,hb.os.trans h2.os,hb.tape.trans h2.tape,hb.output.trans h2.output,Nat.le_trans h2.size hb.size,fun b hb' hne=>(hb.block b (Nat.lt_of_lt_of_le hb' h2.size)).trans (h2.block b hb' hne)⟩
theorem Fv.cell {w wr:World} {lo e sz g n cap:Nat} (h:Fv w lo e sz g n cap wr) (j:Nat) (hj:j<n*sz):∃u,wr.cell? ⟨g,j,none⟩=some u:=by obtain⟨cs,h1,h2⟩:=h;have hl:=h1.1;exact⟨_,(h1.cellAt j hj).trans (List.getElem?_eq_getElem (by omega))⟩
theorem Fv.frozen {w wr:World} {lo e sz g n cap:Nat} (h:Fv w lo e sz g n cap wr) (j:Nat):wr.frozen? ⟨g,j,none⟩=false:=h.choose_spec.1.frozenAt j
theorem AF (w:World) (a:Obj):Below w.heap.size w (w.alloc a):=(Below.refl _ _).alloc (Nat.le_refl _) _
theorem FQ (w:World) (a b:Obj):Below w.heap.size w ((w.alloc a).alloc b):=(AF w a).alloc (by simp) _
theorem Tx (w:World) (a b c:Obj):Below w.heap.size w (((w.alloc a).alloc b).alloc c):=(FQ w a b).alloc (by simp;omega) _
theorem VU (w:World) (a b c d:Obj):Below w.heap.size w ((((w.alloc a).alloc b).alloc c).alloc d):=(Tx w a b c).alloc (by simp;omega) _
theorem Tw {W w1:World} (hb:Below W.heap.size W w1):(∀b o,b<W.heap.size→w1.cell? ⟨b,o,none⟩=W.cell? ⟨b,o,none⟩)∧(∀b o,b<W.heap.size→w1.frozen? ⟨b,o,none⟩=W.frozen? ⟨b,o,none⟩):=
 ⟨fun b o h=>hb.cell (p:=⟨b,o,none⟩) h,fun b o h=>hb.frozen (p:=⟨b,o,none⟩) h⟩
theorem BX {lo:Nat} {w:World} {ops:Array Oper} {rest:List Oper} {o:Oper} {a:Act} {Q:Exit→Act→World→Prop} {s x:Operand} {t:TypeId}
 (hgd:o.guard=none) (ho:o.op= .call {callee:= .builtin .append,args:= #[s,x],argTypes:= #[t,t]})
 (e:TypeId) (z:Value) (sz bytes:Nat) (ht:prog.underlying t=some (.slice e)) (hi:(prog.info? e).map (fun i=>(i.zero,i.size,i.bytes))=some (some z,sz,bytes))
 (hzs:z.cells.size=sz) (hsz:0<sz) {v u:Value} {n m:Nat} {xs news:List Value} (hs:a.eval s=v) (hown:w.ownsRow lo e sz v n xs)
 (hx:a.eval x=u) (hr:Rd w u sz m news) (h1:∀u∈news,u.oneCell'=true) (h63:n+m≤maxLen) (hbytes:(n+m)*bytes≤140737488355328) (hlo:lo≤w.heap.size)
 (hK:∀v' w',w'.ownsRow lo e sz v' (n+m) (xs++news)→w.grownBy w' v.ownBlock→(v'.ownBlock=v.ownBlock∨v'.ownBlock=some w.heap.size)→Below lo w w'→wpList prog ops Q rest (a.put o.dst v') w'):wpList prog ops Q (o::rest) a w:=by
 obtain⟨i0,hi0,hz0,hz1,hz2⟩:=info_parts hi;obtain⟨ao,c,rfl,hmc,hcm,hl,hnil,hc⟩:=hr;have hbel:∀w',w.grownBy w' v.ownBlock→Below lo w w':=fun w' hg=>(Below.refl lo w).grown hg hlo (fun k hk=>(hown.lt k hk).1)
 cases ao with
 |none=>
  have hc0:=hnil rfl;subst hc0;obtain rfl:m=0:=by omega
  have hnews:news=[]:=List.eq_nil_of_length_eq_zero (by simpa using hl);subst hnews;refine wpList_append_own_none hgd s x t ho lo e i0 sz ht hi0 v n xs hs hown hx ?_;exact hK v w (by simpa using hown) ⟨rfl,rfl,rfl,Nat.le_refl _,fun _ _ _=>rfl⟩ (.inl rfl) (Below.refl _ _)
 |some ad=>
  refine wpList_append_own_at w hgd s x t ho lo e i0 z sz bytes ht hi0 hz0 hz1 hz2 hzs hsz v n xs hs hown ad m c news hx hl ?_ h1 h63 hbytes hlo (fun v' w' h2 h3 _ h5=>hK v' w' h2 h3 h5 (hbel w' h3));intro j u hu
  rcases Nat.eq_zero_or_pos m with rfl|hm
  ·simp at hl
   simp[hl] at hu
  ·obtain⟨b,off,had,hcell⟩:=hc hm
   obtain rfl:ad=⟨b,off,none⟩:=by simpa using had
   have hj:j<news.length:=(List.getElem?_eq_some_iff.1 hu).1;have hadd:(⟨b,off,none⟩:Addr).add j=⟨b,off+j,none⟩:=by unfold Addr.add;split<;>simp_all
   rw[hadd,hcell j (by omega),hu]
theorem Rd.newsAt (w:World) (cs:Array Value) (e:TypeId) (sz n g:Nat) (hg:g=w.heap.size) (hs:cs.size=n*sz) (hn:n≤maxLen):Rd (w.alloc (.cells cs e)) (.slice (some ⟨g,0,none⟩) n n) sz n cs.toList:=by subst hg;exact Rd.news w cs e sz n hs hn
theorem An {lo e sz n:Nat} {w w':World} {v:Value} {xs:List Value} {row:Option Nat} (h:w.ownsRow lo e sz v n xs) (hg:w.grownBy w' row) (hne:v.ownBlock=none∨v.ownBlock≠row):w'.ownsRow lo e sz v n xs:=World.ownsRow.kept h hg hne
theorem Bd {lo lo' e sz n:Nat} {w:World} {v:Value} {xs:List Value} (h:w.ownsRow lo e sz v n xs) (hl:lo'≤lo):w.ownsRow lo' e sz v n xs:=by
 refine⟨h.1,?_⟩
 rcases h.2 with h'|⟨g,cap,cur,rfl,hb,rest⟩
 ·exact .inl h'
 ·exact .inr ⟨g,cap,cur,rfl,Nat.le_trans hl hb,rest⟩
theorem Bp {w w' w'':World} {row:Option Nat} (h:w.grownBy w' row) (h':w'.grownBy w'' row):w.grownBy w'' row:=
 ⟨h'.os.trans h.os,h'.tape.trans h.tape,h'.output.trans h.output,Nat.le_trans h.size h'.size,fun b hb hne=>(h'.block b (Nat.lt_of_lt_of_le hb h.size) hne).trans (h.block b hb hne)⟩
theorem Cy {w w':World} (h:Below w.heap.size w w') (row:Option Nat):w.grownBy w' row:=⟨h.os,h.tape,h.output,h.size,fun b hb _=>h.block b hb⟩
def Ey (v1 v2:Value):Prop:=∀k,v1.ownBlock=some k→v2.ownBlock≠some k
theorem Ey.symm {v1 v2:Value} (h:Ey v1 v2):Ey v2 v1:=fun k h1 h2=>h k h2 h1
theorem Ey.ne {v1 v2:Value} (h:Ey v1 v2):v1.ownBlock=none∨v1.ownBlock≠v2.ownBlock:=by
 cases hv:v1.ownBlock with
 |none=>exact .inl rfl
 |some k=>exact .inr fun e=>h k hv e.symm
theorem Ey.grown {v v' u:Value} {B:Nat} (h:Ey v u) (hv:v'.ownBlock=v.ownBlock∨v'.ownBlock=some B) (hu:∀k,u.ownBlock=some k→k<B):Ey v' u:=by
 intro k hk hu'
 rcases hv with e|e
 ·exact h k (e▸hk) hu'
 ·rw[e] at hk
  cases hk;exact absurd (hu _ hu') (Nat.lt_irrefl _)
theorem mixed:prog.follows .mixedOrders=true:=by kernel_rfl
section
variable {P:Program}
def AQ (l:List Oper) (i:Nat):Nat:=((l[i]?).bind (·.dst)).getD 0
def Ai (l:List Oper) (is:List Nat) (vs:Nat→Value) (b:Array Value):Array Value:=is.foldl (fun b i=>b.setIfInBounds (AQ l i) (vs i)) b
def Ft (l:List Oper) (n:Nat):Bool:=
 decide (n<l.length)&&Region.sinkB .any l.toArray n&&Region.chainB .any l.toArray n&&
 ((List.range n).all fun i=>match l[i]? with|some o=>o.dst.isSome|none=>false)&&
 ((List.range n).all fun i=>(List.range n).all fun j=>i==j||AQ l i !=AQ l j)&&
 Region.seqB .any l.toArray (l.length - n) n (Array.ofFn (n:=l.length) fun i=>decide (i.val<n))&&
 ((List.range l.length).all fun j=>match l[j]? with|some o=>o.after.all fun e=>!Region.binds .any e||decide (e.on<j)|none=>false)
def Gy (L:Nat→Bool) (i:Nat):Nat→Bool:=fun j=>if j=i then true else L j
theorem EQ {L:Nat→Bool} {i j:Nat} (h:Gy L i j=false):L j=false:=by
 unfold Gy at h
 split at h
 ·cases h
 ·exact h
def Aa (P:Program) (l:List Oper) (o:Oper) (a:Act) (w:World) (K:Act→World→Prop) (Q:Exit→Act→World→Prop):Prop:=
 (Region.wanted o (yielded l.toArray a.tmps)=true→Oper.wp P o a w K Q)∧(Region.wanted o (yielded l.toArray a.tmps)=false→K (a.put o.dst undef) w)
theorem Aa.of {P:Program} {l:List Oper} {o:Oper} {a:Act} {w:World} {K:Act→World→Prop} {Q:Exit→Act→World→Prop} (hg:o.guard=none) (h:Oper.wp P o a w K Q):Aa P l o a w K Q:=
 ⟨fun _=>h,fun hw=>by simp[Region.wanted,hg] at hw⟩
theorem Kj {l:List Oper} {tmps:Array Value} {g d:Nat} {b:Bool} (hd:(l[g]?).bind (·.dst)=some d) (hv:tmps[d]?.getD undef= .bool b):yielded l.toArray tmps g=some b:=by
 have h:(l.toArray[g]?).bind (·.dst)=some d:=by simpa using hd
 cases hx:tmps[d]? with
 |none=>rw[hx] at hv;simp[undef] at hv
 |some x=>rw[hx] at hv;simp at hv;subst hv;unfold yielded;rw[h,Option.bind_some,hx]
theorem Aa.yes {P:Program} {l:List Oper} {o:Oper} {a:Act} {w:World} {K:Act→World→Prop} {Q:Exit→Act→World→Prop} {g d:Nat} {b:Bool} (hg:o.guard=some (g,b)) (hd:(l[g]?).bind (·.dst)=some d) (hv:a.tmps[d]?.getD undef= .bool b) (h:Oper.wp P o a w K Q):Aa P l o a w K Q:=
 ⟨fun _=>h,fun hw=>by simp[Region.wanted,hg,Kj hd hv] at hw⟩
theorem Aa.no {P:Program} {l:List Oper} {o:Oper} {a:Act} {w:World} {K:Act→World→Prop} {Q:Exit→Act→World→Prop} {g d:Nat} {b:Bool} (hg:o.guard=some (g,b)) (hd:(l[g]?).bind (·.dst)=some d) (hv:a.tmps[d]?.getD undef= .bool (!b)) (h:K (a.put o.dst undef) w):Aa P l o a w K Q:=
 ⟨fun hw=>by rw[Region.wanted,hg] at hw;simp only[Kj hd hv] at hw;cases b<;>simp at hw,fun _=>h⟩
theorem BC {a:Act} {t:Nat} {v:Value} (h:a.tmps[t]?.getD undef=v):a.eval (.tmp t)=v:=by
 show a.tmps.getD t undef=v
 rw[Array.getD_eq_getD_getElem?];exact h
theorem BR {P:Program} {o:Oper} {a:Act} {w w':World} {K:Act→World→Prop} {Q:Exit→Act→World→Prop} {s x:Operand} {t:TypeId} (ho:o.op= .call {callee:= .builtin .append,args:= #[s,x],argTypes:= #[t,t]})
 {v u v':Value} (hs:a.eval s=v) (hx:a.eval x=u) (hrun:(Builtin.append_ #[t,t] o.type #[v,u]).run P w= .ok v' w') (h:K (a.put o.dst v') w'):Oper.wp P o a w K Q:=by
 unfold Oper.wp execOp;simp only[ho,resolve,invoke,builtin,Sem.run_bind,Sem.run_pure,Result.andThen_ok,List.map_toArray,List.map_cons,List.map_nil,hs,hx,hrun];exact h
structure OY (l:List Oper) (n:Nat) (a0:Act) (R:Nat→Value→World→Prop) (G:(Nat→Bool)→World→Prop) (listed:Array Bool) (a:Act) (w:World):Prop where
 head:HeadInv .any l.toArray n listed
 defers:a.defers=a0.defers
 size:a.tmps.size=a0.tmps.size
 base:∀t,(∀i,i<n→AQ l i≠t)→a.tmps[t]? =a0.tmps[t]?
 post:∀i,i<n→listed.getD i false=true→R i (a.tmps.getD (AQ l i) undef) w
 glob:G (fun j=>listed.getD j false) w
theorem Dt {listed:Array Bool} {i:Nat} (h:i<listed.size) (d:Bool):(listed.setIfInBounds i true).getD i d=true:=by simp[h]
theorem OY.wpAny {l:List Oper} {n:Nat} {a0:Act} {R:Nat→Value→World→Prop} {G:(Nat→Bool)→World→Prop} {Q:Exit→Act→World→Prop}
 (hB:Ft l n=true) (hdst:∀i,i<n→AQ l i<a0.tmps.size)
 (hstep:∀i,i<n→∀o,l[i]? =some o→∀a w,a.defers=a0.defers→a.tmps.size=a0.tmps.size→(∀t,(∀i,i<n→AQ l i≠t)→a.tmps[t]? =a0.tmps[t]?)→
  (∀j,Region.waitsFor .any l.toArray i j=true→R j (a.tmps.getD (AQ l j) undef) w)→∀L:Nat→Bool,L i=false→(∀j,Region.waitsFor .any l.toArray i j=true→L j=true)→(∀j j',L j=true→Region.waitsFor .any l.toArray j j'=true→L j'=true)→G L w→
  ∀K:Act→World→Prop,(∀v w',R i v w'→G (Gy L i) w'→(∀j u,j≠i→j<n→L j=true→R j u w→R j u w')→K (a.put o.dst v) w')→Aa P l o a w K Q)
 (htail:∀a w,a.defers=a0.defers→a.tmps.size=a0.tmps.size→(∀t,(∀i,i<n→AQ l i≠t)→a.tmps[t]? =a0.tmps[t]?)→
  (∀i,i<n→R i (a.tmps.getD (AQ l i) undef) w)→∀L:Nat→Bool,(∀i,i<n→L i=true)→G L w→wpList P l.toArray Q (l.drop n) a w):
 ∀(f:Nat) (listed:Array Bool) (a:Act) (w:World),f=(l.length - n)+((List.range n).filter fun i=>!listed.getD i false).length→OY l n a0 R G listed a w→Go.wpAny P .any l.toArray Q f listed a w:=by
 simp only[Ft,Bool.and_eq_true,decide_eq_true_eq] at hB;obtain⟨⟨⟨⟨⟨⟨hn,hs⟩,hc⟩,hg⟩,hdis⟩,hseq⟩,hback⟩:=hB;have hgd:∀i,i<n→∃o d,l[i]? =some o∧o.dst=some d∧AQ l i=d:=by
  intro i hi;have:=List.all_eq_true.1 hg i (List.mem_range.2 hi);cases ho:l[i]? with
  |none=>rw[ho] at this;cases this
  |some o=>rw[ho] at this;simp only[Option.isSome_iff_exists] at this;obtain⟨d,h2⟩:=this;exact⟨o,d,rfl,h2,by simp[AQ,ho,h2]⟩
 have hne:∀i j,i<n→j<n→i≠j→AQ l i≠AQ l j:=by intro i j hi hj hij;have:=List.all_eq_true.1 (List.all_eq_true.1 hdis i (List.mem_range.2 hi)) j (List.mem_range.2 hj);simpa[hij] using this
 have hn':n<l.toArray.size:=by simpa using hn
 intro f
 induction f with
 |zero=>intro listed a w hf _;omega
 |succ f ih=>
  intro listed a w hf inv
  by_cases hall:∀i,i<n→listed.getD i false=true
  ·have hlisted:listed=Array.ofFn (n:=l.length) fun i=>decide (i.val<n):=by
    have hsz:listed.size=l.length:=by have:=inv.head.size;simpa using this
    apply Array.ext
    ·simp[hsz]
    ·intro i h1 h2
     simp only[Array.getElem_ofFn]
     by_cases hi:i<n
     ·have:=hall i hi
      simp[h1] at this;simp[hi,this]
     ·have:=inv.head.tail i (by omega) (by simpa[hsz] using h1)
      simp[h1] at this;simp[hi,this]
   have h0:((List.range n).filter fun i=>!listed.getD i false)=[]:=by rw[List.filter_eq_nil_iff];intro i hi;simp[hall i (List.mem_range.1 hi)]
   have hT:=htail a w inv.defers inv.size inv.base (fun i hi=>inv.post i hi (hall i hi)) _ hall inv.glob;have hW:=wpAny_of_seq (P:=P) (md:= .any) (ops:=l.toArray) (Q':=Q) (l.drop n) n listed a w (fun j=>by simp[List.getElem?_drop]) (by rw[hlisted];simpa using hseq) hT;have e:(l.drop n).length=f+1:=by rw[h0] at hf;simp at hf ⊢;omega
   rw[e] at hW;exact hW
  ·obtain⟨i0,hi0⟩:=Classical.not_forall.1 hall
   obtain⟨hi0n,hi0l⟩:=Classical.not_imp.1 hi0;have hi0f:listed.getD i0 false=false:=by simpa using hi0l
   have hsz:listed.size=l.length:=by have:=inv.head.size;simpa using this
   have hi0t:listed.getD i0 true=false:=getD_in (by omega) hi0f;refine⟨fun hr=>?_,fun i hi=>?_⟩
   ·exfalso
    have:∀k,k≤l.length→∀i,i<k→i<n→listed.getD i true=false→False:=by
     intro k
     induction k with
     |zero=>intro _ i hi;omega
     |succ k ihk=>
      intro hk i hik hin hun;have hnr:i∉Region.ready .any l.toArray listed:=by rw[hr];simp
      obtain⟨o,d,ho,_,_⟩:=hgd i hin;apply hnr;rw[mem_ready];refine⟨hun,o,by simpa using ho,fun e he hb=>?_⟩;have hlt:e.on<i:=by have:=List.all_eq_true.1 hback i (List.mem_range.2 (by omega));rw[ho] at this;simpa[hb] using Array.all_eq_true'.1 this e he
      cases hx:listed.getD e.on false with
      |true=>rfl
      |false=>exact(ihk (by omega) e.on (by omega) (by omega) (getD_in (by omega) hx)).elim
    exact this l.length (Nat.le_refl _) i0 (by omega) hi0n hi0t
   ·have hin:i<n:=by
     rcases Nat.lt_or_ge i n with h|h
     ·exact h
     ·exact absurd hi (tail_waits hs hc hn' inv.head _ i0 rfl hi0n hi0t i h)
    obtain⟨o,d,ho,hod,hdo⟩:=hgd i hin;obtain⟨hun,o',ho',hdep⟩:=mem_ready.1 hi;obtain rfl:o'=o:=by
     have:l[i]? =some o':=by simpa using ho'
     rw[ho] at this;exact(So_ this).symm
    have hdeps:∀j,Region.waitsFor .any l.toArray i j=true→R j (a.tmps.getD (AQ l j) undef) w:=by
     intro j hj;obtain⟨oj,hoj,e,he,hb,rfl⟩:=Region.waitsFor_spec hj;obtain rfl:oj=o':=So_ (hoj.symm.trans ho');have hlt:e.on<i:=by have:=List.all_eq_true.1 hback i (List.mem_range.2 (by omega));rw[ho] at this;simpa[hb] using Array.all_eq_true'.1 this e he
     exact inv.post e.on (by omega) (hdep e he hb)
    unfold Go.wpOp;rw[ho'];have hlis:∀j,Region.waitsFor .any l.toArray i j=true→listed.getD j false=true:=by intro j hj;obtain⟨oj,hoj,e,he,hb,rfl⟩:=Region.waitsFor_spec hj;obtain rfl:oj=o':=So_ (hoj.symm.trans ho');exact hdep e he hb
    suffices H:∀K:Act→World→Prop,(∀v w',R i v w'→G (Gy (fun j=>listed.getD j false) i) w'→(∀j u,j≠i→j<n→listed.getD j false=true→R j u w→R j u w')→K (a.put o'.dst v) w')→Aa P l o' a w K Q by
     have hK:=H (Go.wpAny P .any l.toArray Q f (listed.setIfInBounds i true)) ?_
     ·cases hwt:Region.wanted o' (yielded l.toArray a.tmps) with
      |true=>dsimp only;rw[hwt,if_pos rfl];exact .inl (hK.1 hwt)
      |false=>dsimp only;rw[hwt,if_neg Bool.false_ne_true];exact hK.2 hwt
     ·intro v w' hR hG' hkeep
      have hcount:f=(l.length - n)+((List.range n).filter fun k=>!(listed.setIfInBounds i true).getD k false).length:=by
       have hone:((List.range n).filter fun k=>!listed.getD k false).length=((List.range n).filter fun k=>!(listed.setIfInBounds i true).getD k false).length+1:=by
        have hmem:i∈(List.range n).filter fun k=>!listed.getD k false:=by rw[List.mem_filter];exact⟨List.mem_range.2 hin,by simp[getD_both hun]⟩
        have hnd:((List.range n).filter fun k=>!listed.getD k false).Nodup:=List.nodup_range.filter _;have he:((List.range n).filter fun k=>!(listed.setIfInBounds i true).getD k false)=((List.range n).filter fun k=>!listed.getD k false).erase i:=by
         rw[hnd.erase_eq_filter,List.filter_filter];refine List.filter_congr fun k hk=>?_
         by_cases hki:k=i
         ·subst hki
          simp[Dt (show k<listed.size by omega)]
         ·rw[getD_set_ne false (Ne.symm hki)]
          simp[hki]
        rw[he,List.length_erase_of_mem hmem];have:=List.length_pos_of_mem hmem;omega
       omega
      refine ih _ _ _ hcount ⟨inv.head.set hi hin,?_,?_,?_,?_,?_⟩
      ·rw[hod];exact inv.defers
      ·rw[hod];simpa[Act.put] using inv.size
      ·intro t ht
       rw[hod];simp only[Act.put];rw[Array.getElem?_setIfInBounds_ne (by rw[←hdo];exact ht i hin)];exact inv.base t ht
      ·intro j hj hjl
       rw[hod];simp only[Act.put]
       by_cases hji:j=i
       ·subst hji
        rw[hdo];have:d<a.tmps.size:=by rw[←hdo,inv.size];exact hdst j hj
        simpa[this] using hR
       ·have hjl':listed.getD j false=true:=by rwa [getD_set_ne false (Ne.symm hji)] at hjl
        have h1:=hkeep j _ hji hj hjl' (inv.post j hj hjl');have e:(a.tmps.setIfInBounds d v).getD (AQ l j) undef=a.tmps.getD (AQ l j) undef:=by
         have:d≠AQ l j:=by rw[←hdo];exact hne i j hin hj (Ne.symm hji)
         simp only[Array.getD_eq_getD_getElem?];rw[Array.getElem?_setIfInBounds_ne this]
        rw[e];exact h1
      ·have eL:(fun j=>(listed.setIfInBounds i true).getD j false)=Gy (fun j=>listed.getD j false) i:=by
        funext j
        unfold Gy
        by_cases hji:j=i
        ·subst hji
         rw[if_pos rfl,Dt (by omega)]
        ·rw[if_neg hji,getD_set_ne false (Ne.symm hji)]
       rw[eL];exact hG'
    have hclo:∀j j',listed.getD j false=true→Region.waitsFor .any l.toArray j j'=true→listed.getD j' false=true:=by intro j j' hj hw;obtain⟨oj,hoj,e,he,hb,rfl⟩:=Region.waitsFor_spec hw;exact inv.head.closed j oj hoj hj e he hb
    exact fun K hK=>hstep i hin o' ho a w inv.defers inv.size inv.base hdeps _ (getD_both hun) hlis hclo inv.glob K hK
theorem Ng (l:List Oper):∀(is:List Nat) (b c:Array Value),c.size=b.size→(∀t,(∀i,i∈is→AQ l i≠t)→c[t]? =b[t]?)→
 c=Ai l is (fun i=>c.getD (AQ l i) undef) b:=by
 intro is
 induction is with
 |nil=>intro b c hs h;exact Array.ext_getElem? fun t=>h t (fun i hi=>by cases hi)
 |cons i is ih=>
  intro b c hs h
  show c=Ai l is _ (b.setIfInBounds (AQ l i) (c.getD (AQ l i) undef))
  refine ih _ c (by simpa using hs) fun t ht=>?_
  by_cases hti:AQ l i=t
  ·subst hti
   rcases Nat.lt_or_ge (AQ l i) c.size with h'|h'
   ·have:AQ l i<b.size:=by omega
    simp[h',this]
   ·have:b.size≤AQ l i:=by omega
    simp[h',this]
  ·rw[Array.getElem?_setIfInBounds_ne hti]
   exact h t fun j hj=>by
    rcases List.mem_cons.1 hj with rfl|hj
    ·exact hti
    ·exact ht j hj
def Qz (l:List Oper) (n N:Nat):Bool:=(List.range n).all fun i=>decide (AQ l i<N)
theorem FD {id:Nat} {Q:Exit→Act→World→Prop} {a0:Act} {w0:World} {l:List Oper} (n:Nat) (hm:P.follows .mixedOrders=true) (hB:Ft l n=true)
 (N:Nat) (hN:a0.tmps.size=N) (hD:Qz l n N=true) (R:Nat→Value→World→Prop) (G:(Nat→Bool)→World→Prop) (hG:G (fun _=>false) {w0 with drawn:=w0.drawn+1})
 (hstep:∀i,i<n→∀o,l[i]? =some o→∀a w,Hid (a.defers=a0.defers∧a.tmps.size=a0.tmps.size∧∀t,(∀i,i<n→AQ l i≠t)→a.tmps[t]? =a0.tmps[t]?)→
  Hid (∀j,Region.waitsFor .any l.toArray i j=true→R j (a.tmps[AQ l j]?.getD undef) w)→∀L:Nat→Bool,Hid (L i=false∧(∀j,Region.waitsFor .any l.toArray i j=true→L j=true)∧∀j j',L j=true→Region.waitsFor .any l.toArray j j'=true→L j'=true)→G L w→
  ∀K:Act→World→Prop,Hid (∀v w',R i v w'→G (Gy L i) w'→(∀j u,j≠i→j<n→L j=true→R j u w→R j u w')→K (a.put o.dst v) w')→Aa P l o a w K Q)
 (htail:∀(vs:Nat→Value) w,(∀i,i<n→R i (vs i) w)→∀L:Nat→Bool,(∀i,i<n→L i=true)→G L w→wpList P l.toArray Q (l.drop n) {a0 with tmps:=Ai l (List.range n) vs a0.tmps} w):
 (Code.region id l.toArray true).wp P Q a0 w0:=by
 have hdst:∀i,i<n→AQ l i<a0.tmps.size:=fun i hi=>by have:=List.all_eq_true.1 hD i (List.mem_range.2 hi);rw[hN];simpa using this
 refine wp_region_any hm ?_;refine OY.wpAny (a0:=a0) (R:=R) (G:=G) hB hdst (fun i hi o ho a w h1 h2 h3 h4 L h6 h7 h8 h5 K hK=>hstep i hi o ho a w (AA ⟨h1,h2,h3⟩) (AA fun j hj=>by have:=h4 j hj;rwa [Array.getD_eq_getD_getElem?] at this) L (AA ⟨h6,h7,h8⟩) h5 K (AA hK)) (fun a w h1 h2 h3 h4 L h6 h5=>?_) _ _ _ _ ?_ ⟨⟨by simp,fun j oj _ hl=>(by rw[getD_replicate_false] at hl;cases hl),fun t _ ht=>getD_in (by simpa using ht) (getD_replicate_false _ _)⟩,rfl,rfl,fun _ _=>rfl,fun i _ hl=>(by rw[getD_replicate_false] at hl;cases hl),(show G (fun j=>(Array.replicate l.toArray.size false).getD j false) _ from(funext fun j=>getD_replicate_false _ _:(fun j=>(Array.replicate l.toArray.size false).getD j false)=fun _=>false)▸hG)⟩
 ·have e:=Ng l (List.range n) a0.tmps a.tmps h2 (fun t ht=>h3 t fun i hi=>ht i (List.mem_range.2 hi))
  have:=htail (fun i=>a.tmps.getD (AQ l i) undef) w h4 L h6 h5;rw[←e] at this;obtain⟨tm,df⟩:=a;dsimp only at h1 this;subst h1;exact this
 ·have hn:n<l.length:=by
   simp only[Ft,Bool.and_eq_true,decide_eq_true_eq] at hB;exact hB.1.1.1.1.1.1
  have:((List.range n).filter fun i=>!(Array.replicate l.toArray.size false).getD i false)=List.range n:=by rw[List.filter_eq_self];intro i _;rw[getD_replicate_false];rfl
  rw[this];simp;omega
end
section
variable {P:Program} {l:List Oper} {i:Nat} {o o':Oper} {a a0:Act} {w:World} {K:Act→World→Prop} {Q:Exit→Act→World→Prop} {R:Value→World→Prop} {x y z:Operand} {v u:Value}
def Vj (l:List Oper) (o:Oper) (a:Act):Prop:=Region.wanted o (yielded l.toArray a.tmps)=true
theorem gn (h:o.guard=none):Vj l o a:=by simp[Vj,Region.wanted,h]
theorem et {t:Nat} (h:a.tmps[t]?.getD undef=v):a.eval (.tmp t)=v:=BC h
theorem eb {t:Nat} (h:a.tmps[t]? =a0.tmps[t]?):a.eval (.tmp t)=a0.tmps[t]?.getD undef:=BC (by rw[h])
theorem eg {t:Nat} (h:a.tmps[t]? =a0.tmps[t]?):a.tmps[t]?.getD undef=a0.tmps[t]?.getD undef:=by rw[h]
theorem bc {B b off:Nat} {w0:World} (hG:Below B w0 w) (hlt:b<B) (h:w0.cell? ⟨b,off,none⟩=some v):w.cell? ⟨b,off,none⟩=some v:=(hG.cell (p:=⟨b,off,none⟩) hlt).trans h
theorem dV (ho:l[i]? =some o) (e:l[i]? =some o') (hw:Vj l o' a) (HK:Hid (∀v w',R v w'→Below w.heap.size w w'→K (a.put o.dst v) w')) (hr:(execOp a.eval o').run P w= .ok (.value v) w) (hR:R v w):Aa P l o a w K Q:=by
 obtain rfl:=So_ (ho.symm.trans e);exact⟨fun _=>by unfold Oper.wp;rw[hr];exact HK.out _ _ hR (Below.refl _ _),fun h=>by rw[show Region.wanted o (yielded l.toArray a.tmps)=true from hw] at h;cases h⟩
theorem dM (ho:l[i]? =some o) (e:l[i]? =some o') (hw:Vj l o' a) (HK:Hid (∀v w',R v w'→Below w.heap.size w w'→K (a.put o.dst v) w')) (hop:o'.op= .move x) (hx:a.eval x=v) (hR:R v w):Aa P l o a w K Q:=
 dV ho e hw HK (by unfold execOp;rw[hop,←hx];rfl) hR
theorem dF {s f b off k:Nat} (ho:l[i]? =some o) (e:l[i]? =some o') (hw:Vj l o' a) (HK:Hid (∀v w',R v w'→Below w.heap.size w w'→K (a.put o.dst v) w')) (hop:o'.op= .fieldAddr s x f) (hf:∀b off w,(Instr.fieldAt s (.pointer (some ⟨b,off,none⟩)) f).run P w= .ok (.pointer (some ⟨b,off+k,none⟩)) w) (hx:a.eval x= .pointer (some ⟨b,off,none⟩)) (hR:R (.pointer (some ⟨b,off+k,none⟩)) w):Aa P l o a w K Q:=
 dV ho e hw HK (by unfold execOp;rw[hop];simp only[hx,Sem.run_bind,hf,Result.andThen_ok];rfl) hR
theorem dL {t:Nat} {p:Addr} (ho:l[i]? =some o) (e:l[i]? =some o') (hw:Vj l o' a) (HK:Hid (∀v w',R v w'→Below w.heap.size w w'→K (a.put o.dst v) w')) (hop:o'.op= .load t x) (hx:a.eval x= .pointer (some p)) (hl:(Instr.loadAt t (.pointer (some p))).run P w= .ok v w) (hR:R v w):Aa P l o a w K Q:=
 dV ho e hw HK (by unfold execOp;rw[hop];simp only[hx,Sem.run_bind,hl,Result.andThen_ok];rfl) hR
end
section
variable {b off:Nat} {w:World} {v0 v1 v2 v3 v4 v5 v6 v7 v8 v9:Value}
theorem VV:∀b off w,(Instr.fieldAt 27 (.pointer (some ⟨b,off,none⟩)) 0).run prog w= .ok (.pointer (some ⟨b,off+0,none⟩)) w:=fun b off w=>by go_simp
theorem VW:∀b off w,(Instr.fieldAt 27 (.pointer (some ⟨b,off,none⟩)) 2).run prog w= .ok (.pointer (some ⟨b,off+2,none⟩)) w:=fun b off w=>by go_simp
theorem UC:∀b off w,(Instr.fieldAt 31 (.pointer (some ⟨b,off,none⟩)) 0).run prog w= .ok (.pointer (some ⟨b,off+0,none⟩)) w:=fun b off w=>by go_simp
theorem VX:∀b off w,(Instr.fieldAt 31 (.pointer (some ⟨b,off,none⟩)) 1).run prog w= .ok (.pointer (some ⟨b,off+4,none⟩)) w:=fun b off w=>by go_simp
theorem VY:∀b off w,(Instr.fieldAt 31 (.pointer (some ⟨b,off,none⟩)) 2).run prog w= .ok (.pointer (some ⟨b,off+5,none⟩)) w:=fun b off w=>by go_simp
theorem VZ:∀b off w,(Instr.fieldAt 31 (.pointer (some ⟨b,off,none⟩)) 3).run prog w= .ok (.pointer (some ⟨b,off+6,none⟩)) w:=fun b off w=>by go_simp
theorem Fg (h:w.cell? ⟨b,off,none⟩=some v0):(Instr.loadAt 3 (.pointer (some ⟨b,off,none⟩))).run prog w= .ok v0 w:=by go_simp
theorem V0 (h:w.cell? ⟨b,off,none⟩=some v0):(Instr.loadAt 4 (.pointer (some ⟨b,off,none⟩))).run prog w= .ok v0 w:=by go_simp
theorem UL (h:w.cell? ⟨b,off,none⟩=some v0):(Instr.loadAt 9 (.pointer (some ⟨b,off,none⟩))).run prog w= .ok v0 w:=by go_simp
theorem Ff (h:w.cell? ⟨b,off,none⟩=some v0):(Instr.loadAt 22 (.pointer (some ⟨b,off,none⟩))).run prog w= .ok v0 w:=by go_simp
theorem GX (h:w.cell? ⟨b,off,none⟩=some v0):(Instr.loadAt 23 (.pointer (some ⟨b,off,none⟩))).run prog w= .ok v0 w:=by go_simp
theorem MX (h:w.cell? ⟨b,off,none⟩=some v0):(Instr.loadAt 24 (.pointer (some ⟨b,off,none⟩))).run prog w= .ok v0 w:=by go_simp
theorem K6 (h:w.cell? ⟨b,off,none⟩=some v0):(Instr.loadAt 25 (.pointer (some ⟨b,off,none⟩))).run prog w= .ok v0 w:=by go_simp
theorem MY (h0:w.cell? ⟨b,off,none⟩=some v0) (h1:w.cell? ⟨b,off+1,none⟩=some v1) (h2:w.cell? ⟨b,off+2,none⟩=some v2) (h3:w.cell? ⟨b,off+3,none⟩=some v3):(Instr.loadAt 27 (.pointer (some ⟨b,off,none⟩))).run prog w= .ok (.agg #[v0,v1,v2,v3]) w:=by go_simp
theorem Ra (h:w.cell? ⟨b,off,none⟩=some v0):(Instr.loadAt 28 (.pointer (some ⟨b,off,none⟩))).run prog w= .ok v0 w:=by go_simp
theorem Vy (h:w.cell? ⟨b,off,none⟩=some v0):(Instr.loadAt 29 (.pointer (some ⟨b,off,none⟩))).run prog w= .ok v0 w:=by go_simp
theorem K7 (h:w.cell? ⟨b,off,none⟩=some v0):(Instr.loadAt 40 (.pointer (some ⟨b,off,none⟩))).run prog w= .ok v0 w:=by go_simp
theorem Vn (h0:w.cell? ⟨b,off,none⟩=some v0) (h1:w.cell? ⟨b,off+1,none⟩=some v1) (h2:w.cell? ⟨b,off+2,none⟩=some v2) (h3:w.cell? ⟨b,off+3,none⟩=some v3) (h4:w.cell? ⟨b,off+4,none⟩=some v4) (h5:w.cell? ⟨b,off+5,none⟩=some v5):(Instr.loadAt 48 (.pointer (some ⟨b,off,none⟩))).run prog w= .ok (.agg #[v0,v1,v2,v3,v4,v5]) w:=by go_simp
theorem GC (h:w.cell? ⟨b,off,none⟩=some v0):(Instr.loadAt 85 (.pointer (some ⟨b,off,none⟩))).run prog w= .ok v0 w:=by go_simp
theorem Va (h0:w.cell? ⟨b,off,none⟩=some v0) (h1:w.cell? ⟨b,off+1,none⟩=some v1) (h2:w.cell? ⟨b,off+2,none⟩=some v2) (h3:w.cell? ⟨b,off+3,none⟩=some v3) (h4:w.cell? ⟨b,off+4,none⟩=some v4) (h5:w.cell? ⟨b,off+5,none⟩=some v5) (h6:w.cell? ⟨b,off+6,none⟩=some v6):(Instr.loadAt 87 (.pointer (some ⟨b,off,none⟩))).run prog w= .ok (.agg #[v0,v1,v2,v3,v4,v5,v6]) w:=by go_simp
theorem Vo (h0:w.cell? ⟨b,off,none⟩=some v0) (h1:w.cell? ⟨b,off+1,none⟩=some v1) (h2:w.cell? ⟨b,off+2,none⟩=some v2) (h3:w.cell? ⟨b,off+3,none⟩=some v3):(Instr.loadAt 95 (.pointer (some ⟨b,off,none⟩))).run prog w= .ok (.agg #[v0,v1,v2,v3]) w:=by go_simp
end
section
variable {P:Program}
theorem JL {id:Nat} {Q:Exit→Act→World→Prop} {a0:Act} {w0:World} {l:List Oper} (n:Nat) (hm:P.follows .mixedOrders=true) (hB:Ft l n=true)
 (N:Nat) (hN:a0.tmps.size=N) (hD:Qz l n N=true) (R:Nat→Value→World→Prop) (hmono:∀i,i<n→∀v w w',Below w.heap.size w w'→R i v w→R i v w')
 (hstep:∀i,i<n→∀o,l[i]? =some o→∀a w,Hid (a.defers=a0.defers∧a.tmps.size=a0.tmps.size∧∀t,(∀i,i<n→AQ l i≠t)→a.tmps[t]? =a0.tmps[t]?)→
  Hid (∀j,Region.waitsFor .any l.toArray i j=true→R j (a.tmps[AQ l j]?.getD undef) w)→Below w0.heap.size w0 w→
  ∀K:Act→World→Prop,Hid (∀v w',R i v w'→Below w.heap.size w w'→K (a.put o.dst v) w')→Aa P l o a w K Q)
 (htail:∀(vs:Nat→Value) w,(∀i,i<n→R i (vs i) w)→Below w0.heap.size w0 w→wpList P l.toArray Q (l.drop n) {a0 with tmps:=Ai l (List.range n) vs a0.tmps} w):
 (Code.region id l.toArray true).wp P Q a0 w0:=by
 refine FD n hm hB N hN hD R (fun _ w=>Below w0.heap.size w0 w) ⟨rfl,rfl,rfl,Nat.le_refl _,fun _ _=>rfl⟩ ?_ (fun vs w h1 _ _ h2=>htail vs w h1 h2);intro i hi o ho a w Hb Hd L HL hG K HK;exact hstep i hi o ho a w Hb Hd hG K (AA fun v w' h1 h2=>HK.out v w' h1 (hG.trans ⟨h2.os,h2.tape,h2.output,h2.size,fun k hk=>h2.block k (Nat.lt_of_lt_of_le hk hG.size)⟩) (fun j u _ hj _ h=>hmono j hj u w w' h2 h))
end
def AX (x:AL):List Value:=[.int .i64 x.k, .string x.g, .int .i64 x.r]
theorem Ak (x:AL):(AX x).length=3:=rfl
def AL.val (x:AL):Value:= .agg #[.int .i64 x.k, .string x.g, .int .i64 x.r]
def AJ (x:AU):List Value:=[.int .i64 x.e, .int .i64 x.p, .int .i64 x.f, .bool x.w]
theorem BP (x:AU):(AJ x).length=4:=rfl
def AU.val (x:AU):Value:= .agg #[.int .i64 x.e, .int .i64 x.p, .int .i64 x.f, .bool x.w]
def Ag (s:ByteArray):List Value:=[.string s]
theorem DE (s:ByteArray):(Ag s).length=1:=rfl
def Dz (v:Value):List Value:=[v]
theorem D8 (v:Value):(Dz v).length=1:=rfl
def DO (p:Value×Int):List Value:=[p.1, .int .i64 p.2]
theorem EO (p:Value×Int):(DO p).length=2:=rfl
def A6 {α:Type} (sz:Nat) (cs:α→List Value) (w:World) (v:Value) (xs:List α):Prop:=Rd w v sz xs.length (Bf cs xs)
def AC {α:Type} (lo e sz:Nat) (cs:α→List Value) (w:World) (v:Value) (xs:List α):Prop:=w.ownsRow lo e sz v xs.length (Bf cs xs)
section
variable {α:Type} {sz lo e:Nat} {cs:α→List Value} {w w':World} {v:Value} {xs:List α}
theorem A6.below (h:A6 sz cs w v xs) (hb:Below w.heap.size w w'):A6 sz cs w' v xs:=Rd.below h hb
theorem AC.rd (h:AC lo e sz cs w v xs):A6 sz cs w v xs:=Rd.of_owns h
theorem AC.below (h:AC lo e sz cs w v xs) (hb:Below w.heap.size w w'):AC lo e sz cs w' v xs:=Bn h hb
theorem AC.grown {row:Option Nat} (h:AC lo e sz cs w v xs) (hg:w.grownBy w' row) (hne:v.ownBlock=none∨v.ownBlock≠row):AC lo e sz cs w' v xs:=An h hg hne
theorem AC.lower {lo':Nat} (h:AC lo e sz cs w v xs) (hl:lo'≤lo):AC lo' e sz cs w v xs:=Bd h hl
theorem A6.shape (h:A6 sz cs w v xs):∃a cap,v= .slice a xs.length cap∧xs.length≤cap∧cap≤maxLen:=Rd.shape h
theorem A6.open (hs:∀x,(cs x).length=sz) (hsz:0<sz) (h:A6 sz cs w v xs):∃a cap,v= .slice a xs.length cap∧xs.length≤cap∧cap≤maxLen∧Ql sz cs w a xs:=by obtain⟨a,cap,rfl,h1,h2⟩:=Rd.shape h;exact⟨a,cap,rfl,h1,h2,Ql.of hs hsz h⟩
end
abbrev BH (w:World) (v:Value) (xs:List AL):Prop:=A6 3 AX w v xs
abbrev Bh (w:World) (v:Value) (xs:List AU):Prop:=A6 4 AJ w v xs
abbrev BG (w:World) (v:Value) (xs:List ByteArray):Prop:=A6 1 Ag w v xs
def Ei {α β:Type} (R:α→β→Prop) (xs:List α) (ys:List β):Prop:=xs.length=ys.length∧∀(i:Nat) x y,xs[i]? =some x→ys[i]? =some y→R x y
theorem Ei.mono {α β:Type} {R S:α→β→Prop} {xs:List α} {ys:List β} (h:Ei R xs ys) (hRS:∀x y,R x y→S x y):Ei S xs ys:=⟨h.1,fun i x y hx hy=>hRS _ _ (h.2 i x y hx hy)⟩
theorem Ei.nil {α β:Type} {R:α→β→Prop}:Ei R [] []:=⟨rfl,fun i x y h=>by simp at h⟩
theorem Ei.snoc {α β:Type} {R:α→β→Prop} {xs:List α} {ys:List β} {x:α} {y:β} (h:Ei R xs ys) (hxy:R x y):Ei R (xs++[x]) (ys++[y]):=by
 refine⟨by simp[h.1],fun i a b ha hb=>?_⟩
 by_cases hi:i<xs.length
 ·rw[List.getElem?_append_left hi] at ha
  rw[List.getElem?_append_left (by rw[←h.1];exact hi)] at hb;exact h.2 i a b ha hb
 ·have h1:=(List.getElem?_eq_some_iff.1 ha).1
  simp at h1;obtain rfl:i=xs.length:=by omega
  simp at ha;rw[h.1] at hb;simp at hb;subst ha hb;exact hxy
def BI (w:World) (v:Value) (xss:List (List Int)):Prop:=∃vs,A6 1 Dz w v vs∧Ei (Ap w) vs xss
def G4 (w:World) (v:Value) (tss:List (List ByteArray)):Prop:=∃vs,A6 1 Dz w v vs∧Ei (BG w) vs tss
def Ew (w:World) (v:Value) (es:List DQ):Prop:=∃ps,A6 2 DO w v ps∧Ei (fun p e=>BG w p.1 e.rights∧p.2=e.root) ps es
def L6 (w:World) (m i e c:Value) (k:AH):Prop:=BI w m k.mem∧BH w i k.infos∧Ew w e k.envs∧Bh w c k.cache
section
variable {w w':World} {v:Value}
theorem BI.below {xss:List (List Int)} (h:BI w v xss) (hb:Below w.heap.size w w'):BI w' v xss:=by
 obtain⟨vs,h1,h2⟩:=h;exact⟨vs,h1.below hb,h2.mono fun _ _ h=>Ap.below h hb⟩
theorem G4.below {tss:List (List ByteArray)} (h:G4 w v tss) (hb:Below w.heap.size w w'):G4 w' v tss:=by
 obtain⟨vs,h1,h2⟩:=h;exact⟨vs,h1.below hb,h2.mono fun _ _ h=>A6.below h hb⟩
theorem Ew.below {es:List DQ} (h:Ew w v es) (hb:Below w.heap.size w w'):Ew w' v es:=by
 obtain⟨ps,h1,h2⟩:=h;exact⟨ps,h1.below hb,h2.mono fun _ _ h=>⟨A6.below h.1 hb,h.2⟩⟩
theorem L6.below {m i e c:Value} {k:AH} (h:L6 w m i e c k) (hb:Below w.heap.size w w'):L6 w' m i e c k:=⟨h.1.below hb,h.2.1.below hb,h.2.2.1.below hb,h.2.2.2.below hb⟩
end
def Bj (vs:List Value):Prop:=∀(i j:Nat) u u',i≠j→vs[i]? =some u→vs[j]? =some u'→Ey u u'
theorem Bj.nil:Bj []:=fun i j u u' _ h=>by simp at h
theorem Bj.snoc {vs:List Value} {v:Value} (h:Bj vs) (hv:∀u∈vs,Ey u v):Bj (vs++[v]):=by
 intro i j u u' hij hi hj;have h1:=(List.getElem?_eq_some_iff.1 hi).1;have h2:=(List.getElem?_eq_some_iff.1 hj).1;simp at h1 h2
 by_cases hi':i<vs.length
 ·rw[List.getElem?_append_left hi'] at hi
  by_cases hj':j<vs.length
  ·rw[List.getElem?_append_left hj'] at hj
   exact h i j u u' hij hi hj
  ·obtain rfl:j=vs.length:=by omega
   simp at hj;subst hj;exact hv u (List.mem_of_getElem? hi)
 ·obtain rfl:i=vs.length:=by omega
  simp at hi;subst hi;rw[List.getElem?_append_left (by omega)] at hj;exact(hv u' (List.mem_of_getElem? hj)).symm
def AV (lo:Nat) (w:World) (v:Value) (vs:List Value) (xss:List (List Int)):Prop:=AC lo 28 1 Dz w v vs∧Ei (AE lo w) vs xss∧Bj vs
def A2 (lo:Nat) (w:World) (v:Value) (ps:List (Value×Int)) (es:List DQ):Prop:=AC lo 62 2 DO w v ps∧Ei (fun p e=>AC lo 9 1 Ag w p.1 e.rights∧p.2=e.root) ps es∧Bj (ps.map (·.1))
theorem AV.rd {lo:Nat} {w:World} {v:Value} {vs:List Value} {xss:List (List Int)} (h:AV lo w v vs xss):BI w v xss:=⟨vs,h.1.rd,h.2.1.mono fun _ _ h=>AE.rd h⟩
theorem A2.rd {lo:Nat} {w:World} {v:Value} {ps:List (Value×Int)} {es:List DQ} (h:A2 lo w v ps es):Ew w v es:=⟨ps,h.1.rd,h.2.1.mono fun _ _ h=>⟨h.1.rd,h.2⟩⟩
theorem AV.below {lo:Nat} {w w':World} {v:Value} {vs:List Value} {xss:List (List Int)} (h:AV lo w v vs xss) (hb:Below w.heap.size w w'):AV lo w' v vs xss:=⟨h.1.below hb,h.2.1.mono fun _ _ h=>AE.below h hb,h.2.2⟩
theorem A2.below {lo:Nat} {w w':World} {v:Value} {ps:List (Value×Int)} {es:List DQ} (h:A2 lo w v ps es) (hb:Below w.heap.size w w'):A2 lo w' v ps es:=⟨h.1.below hb,h.2.1.mono fun _ _ h=>⟨h.1.below hb,h.2⟩,h.2.2⟩
theorem AV.lower {lo lo':Nat} {w:World} {v:Value} {vs:List Value} {xss:List (List Int)} (h:AV lo w v vs xss) (hl:lo'≤lo):AV lo' w v vs xss:=⟨h.1.lower hl,h.2.1.mono fun _ _ h=>Bd h hl,h.2.2⟩
theorem A2.lower {lo lo':Nat} {w:World} {v:Value} {ps:List (Value×Int)} {es:List DQ} (h:A2 lo w v ps es) (hl:lo'≤lo):A2 lo' w v ps es:=⟨h.1.lower hl,h.2.1.mono fun _ _ h=>⟨h.1.lower hl,h.2⟩,h.2.2⟩
theorem Bw {α:Type} (cs:α→List Value) (w:World) (e sz:Nat):AC w.heap.size e sz cs (w.alloc (.cells #[] e)) (.slice (some ⟨w.heap.size,0,none⟩) 0 0) []:=By w e sz
def Ct (lo:Nat) (w:World) (m i e c:Value) (k:AH):Prop:=
 (∃vs,AV lo w m vs k.mem)∧AC lo 91 3 AX w i k.infos∧(∃ps,A2 lo w e ps k.envs)∧AC lo 95 4 AJ w c k.cache
theorem Ct.rd {lo:Nat} {w:World} {m i e c:Value} {k:AH} (h:Ct lo w m i e c k):L6 w m i e c k:=⟨h.1.choose_spec.rd,h.2.1.rd,h.2.2.1.choose_spec.rd,h.2.2.2.rd⟩
theorem Ct.below {lo:Nat} {w w':World} {m i e c:Value} {k:AH} (h:Ct lo w m i e c k) (hb:Below w.heap.size w w'):Ct lo w' m i e c k:=
 ⟨⟨_,h.1.choose_spec.below hb⟩,h.2.1.below hb,⟨_,h.2.2.1.choose_spec.below hb⟩,h.2.2.2.below hb⟩
theorem A8 {w:World} {lo e sz n:Nat} {v:Value} {xs:List Value} (h:w.ownsRow lo e sz v n xs):∀g,v.ownBlock=some g→∃cur,w.heap[g]? =some (.cells cur e (0,0)):=by
 intro g hg
 rcases h.2 with⟨rfl,_⟩|⟨g',cap,cur,rfl,_,hh,_⟩
 ·simp[Value.ownBlock] at hg
 ·simp[Value.ownBlock] at hg
  subst hg;exact⟨cur,hh⟩
theorem BA {w:World} {lo lo' e e' sz sz' n n':Nat} {v v':Value} {xs xs':List Value} (h:w.ownsRow lo e sz v n xs) (h':w.ownsRow lo' e' sz' v' n' xs') (hne:e≠e'):Ey v v':=by intro g hg hg';obtain⟨c1,h1⟩:=A8 h g hg;obtain⟨c2,h2⟩:=A8 h' g hg';rw[h1] at h2;simp at h2;exact hne h2.2
theorem AB {w:World} {g t:Nat} {m i e c:Value} (h:w.heap[g]? =some (.cells #[m,i,e,c] t (0,0))):w.cell? ⟨g,0,none⟩=some m∧w.cell? ⟨g,1,none⟩=some i∧w.cell? ⟨g,2,none⟩=some e∧w.cell? ⟨g,3,none⟩=some c:=
 ⟨cell_of_row w g 0 _ _ _ h,cell_of_row w g 1 _ _ _ h,cell_of_row w g 2 _ _ _ h,cell_of_row w g 3 _ _ _ h⟩
theorem AI {w:World} {g t:Nat} {cs:Array Value} (h:w.heap[g]? =some (.cells cs t (0,0))):∀j,w.frozen? ⟨g,j,none⟩=false:=fun j=>frozen_of_row w g j _ _ h
theorem Aq {w:World} {g:Nat} {o:Obj} (h:w.heap[g]? =some o):g<w.heap.size:=(Array.getElem?_eq_some_iff.1 h).1
theorem AG {w w':World} {g:Nat} {o:Obj} (h:w.heap[g]? =some o) (hb:Below w.heap.size w w'):w'.heap[g]? =some o:=(hb.block g (Aq h)).trans h
theorem DB {w:World} {g t:Nat} {m i e c m' i' e' c':Value} (h:w.heap[g]? =some (.cells #[m,i,e,c] t (0,0))):
 ((((w.setCell ⟨g,0,none⟩ m').setCell ⟨g,1,none⟩ i').setCell ⟨g,2,none⟩ e').setCell ⟨g,3,none⟩ c').heap[g]? =some (.cells #[m',i',e',c'] t (0,0)):=by
 have h0:=heap_setCell_same w g 0 _ t m' h;have h1:=heap_setCell_same _ g 1 _ t i' h0;have h2:=heap_setCell_same _ g 2 _ t e' h1;have h3:=heap_setCell_same _ g 3 _ t c' h2;simpa using h3
theorem EN {w w':World} {lo e sz n g T:Nat} {v:Value} {xs:List Value} {cur:Array Value} {fr:Nat×Nat} (h:w.ownsRow lo e sz v n xs) (hg:w.grownBy w' (some g)) (hb:w.heap[g]? =some (.cells cur T fr)) (hne:e≠T):w'.ownsRow lo e sz v n xs:=by
 refine An h hg ?_;cases hv:v.ownBlock with
 |none=>exact .inl rfl
 |some k=>
  refine .inr fun he=>?_
  simp only[Option.some.injEq] at he;subst he;obtain⟨c1,h1⟩:=A8 h k hv;rw[h1] at hb;simp at hb;exact hne hb.2.1
section
variable {w w':World} {lo g T:Nat} {v:Value} {cur:Array Value} {fr:Nat×Nat}
theorem AC.far {α:Type} {e sz:Nat} {cs:α→List Value} {xs:List α} (h:AC lo e sz cs w v xs) (hg:w.grownBy w' (some g)) (hb:w.heap[g]? =some (.cells cur T fr)) (hne:e≠T):AC lo e sz cs w' v xs:=EN h hg hb hne
theorem AV.far {vs:List Value} {xss:List (List Int)} (h:AV lo w v vs xss) (hg:w.grownBy w' (some g)) (hb:w.heap[g]? =some (.cells cur T fr)) (h1:28≠T) (h2:3≠T):AV lo w' v vs xss:=
 ⟨h.1.far hg hb h1,h.2.1.mono fun _ _ h=>EN h hg hb h2,h.2.2⟩
theorem A2.far {ps:List (Value×Int)} {es:List DQ} (h:A2 lo w v ps es) (hg:w.grownBy w' (some g)) (hb:w.heap[g]? =some (.cells cur T fr)) (h1:62≠T) (h2:9≠T):A2 lo w' v ps es:=
 ⟨h.1.far hg hb h1,h.2.1.mono fun _ _ h=>⟨h.1.far hg hb h2,h.2⟩,h.2.2⟩
end
theorem AV.kept {w w':World} {lo lo' e sz n:Nat} {v u:Value} {vs xs:List Value} {xss:List (List Int)} (h:AV lo w v vs xss) (hg:w.grownBy w' u.ownBlock) (hu:w.ownsRow lo' e sz u n xs) (h1:28≠e) (h2:3≠e):AV lo w' v vs xss:=
 ⟨An h.1 hg (BA h.1 hu h1).ne,h.2.1.mono fun _ _ h=>An h hg (BA h hu h2).ne,h.2.2⟩
theorem Aj (w:World) (g j:Nat) (u:Value):w.grownBy (w.setCell ⟨g,j,none⟩ u) (some g):=⟨rfl,rfl,rfl,by simp,fun k _ hk=>heap_setCell_other w ⟨g,j,none⟩ k u (fun e=>hk (by simp[e]))⟩
theorem AZ {w0 w:World} {g:Nat} (h:w0.grownBy w (some g)) (j:Nat) (u:Value):w0.grownBy (w.setCell ⟨g,j,none⟩ u) (some g):=Bp h (Aj w g j u)
section
variable {P:Program}
theorem Jr {id:Nat} {Q:Exit→Act→World→Prop} {a0:Act} {w0:World} {l:List Oper} (n:Nat) (hm:P.follows .mixedOrders=true) (hB:Ft l n=true)
 (N:Nat) (hN:a0.tmps.size=N) (hD:Qz l n N=true) (s:Nat) (row:Option Nat) (R:Nat→Value→World→Prop)
 (hmono:∀i,i<n→i≠s→∀v w w',w0.grownBy w row→w.grownBy w' row→R i v w→R i v w') (hmonoS:∀v w w',Below w.heap.size w w'→R s v w→R s v w')
 (hstep:∀i,i<n→i≠s→∀o,l[i]? =some o→∀a w,Hid (a.defers=a0.defers∧a.tmps.size=a0.tmps.size∧∀t,(∀i,i<n→AQ l i≠t)→a.tmps[t]? =a0.tmps[t]?)→
  Hid (∀j,Region.waitsFor .any l.toArray i j=true→R j (a.tmps[AQ l j]?.getD undef) w)→w0.grownBy w row→
  ∀K:Act→World→Prop,Hid (∀v w',R i v w'→Below w.heap.size w w'→K (a.put o.dst v) w')→Aa P l o a w K Q)
 (hstepS:∀o,l[s]? =some o→∀a w,Hid (a.defers=a0.defers∧a.tmps.size=a0.tmps.size∧∀t,(∀i,i<n→AQ l i≠t)→a.tmps[t]? =a0.tmps[t]?)→
  Hid (∀j,Region.waitsFor .any l.toArray s j=true→R j (a.tmps[AQ l j]?.getD undef) w)→Below w0.heap.size w0 w→
  ∀K:Act→World→Prop,Hid (∀v w',R s v w'→w.grownBy w' row→K (a.put o.dst v) w')→Aa P l o a w K Q)
 (htail:∀(vs:Nat→Value) w,(∀i,i<n→R i (vs i) w)→w0.grownBy w row→wpList P l.toArray Q (l.drop n) {a0 with tmps:=Ai l (List.range n) vs a0.tmps} w):
 (Code.region id l.toArray true).wp P Q a0 w0:=by
 refine FD n hm hB N hN hD R (fun L w=>w0.grownBy w row∧(L s=false→Below w0.heap.size w0 w)) ⟨Cy (Ao (Below.refl _ _) 1) _,fun _=>Ao (Below.refl _ _) 1⟩ ?_ (fun vs w h1 _ _ h2=>htail vs w h1 h2.1);intro i hi o ho a w Hb Hd L HL hG K HK
 by_cases his:i=s
 ·subst his
  exact hstepS o ho a w Hb Hd (hG.2 HL.out.1) K (AA fun v w' h1 h2=>HK.out v w' h1 ⟨Bp hG.1 h2,fun h=>by simp[Gy] at h⟩ (fun j u hj hjn _ h=>hmono j hjn hj u w w' hG.1 h2 h))
 ·exact hstep i hi his o ho a w Hb Hd hG.1 K (AA fun v w' h1 h2=>HK.out v w' h1 ⟨Bp hG.1 (Cy h2 _),fun h=>(hG.2 (EQ h)).trans (h2.mono hG.1.size)⟩ (fun j u hj hjn _ h=>by
   by_cases hjs:j=s
   ·subst hjs;exact hmonoS u w w' h2 h
   ·exact hmono j hjn hjs u w w' hG.1 (Cy h2 _) h))
end
theorem Uo {l:List Oper} {tmps:Array Value} {g d:Nat} (hd:(l[g]?).bind (·.dst)=some d) (hv:tmps[d]?.getD undef=undef):yielded l.toArray tmps g=none:=by
 have h:(l.toArray[g]?).bind (·.dst)=some d:=by simpa using hd
 unfold yielded;rw[h,Option.bind_some];cases hx:tmps[d]? with
 |none=>rfl
 |some x=>rw[hx] at hv;simp at hv;subst hv;rfl
theorem Aa.un {P:Program} {l:List Oper} {o:Oper} {a:Act} {w:World} {K:Act→World→Prop} {Q:Exit→Act→World→Prop} {g d:Nat} {b:Bool} (hg:o.guard=some (g,b)) (hd:(l[g]?).bind (·.dst)=some d) (hv:a.tmps[d]?.getD undef=undef) (h:K (a.put o.dst undef) w):Aa P l o a w K Q:=
 ⟨fun hw=>by rw[Region.wanted,hg] at hw;simp only[Uo hd hv] at hw;cases b<;>simp at hw,fun _=>h⟩
theorem Du {w w':World} {row:Option Nat} {b o:Nat} (h:w.grownBy w' row) (hb:b<w.heap.size) (hne:row≠some b):w'.cell? ⟨b,o,none⟩=w.cell? ⟨b,o,none⟩:=World.cell?_of_block (h.block b hb (fun e=>hne e.symm))
def BW (l:List Oper) (i:Nat):Option Nat:=(l[i]?).bind (·.dst)
def DS (l:List Oper) (is:List Nat) (vs:Nat→Value) (b:Array Value):Array Value:=is.foldl (fun b i=>match BW l i with|some d=>b.setIfInBounds d (vs i)|none=>b) b
def SI (l:List Oper) (N:Nat):Bool:=
 ((List.range l.length).all fun i=>(List.range l.length).all fun j=>i==j||(BW l i).isNone||BW l i !=BW l j)&&
 ((List.range l.length).all fun j=>match l[j]? with|some o=>o.after.all fun e=>!Region.binds .any e||decide (e.on<j)|none=>false)&&
 ((List.range l.length).all fun i=>match BW l i with|some d=>decide (d<N)|none=>true)
def EH (l:List Oper) (tmps:Array Value) (i:Nat):Value:=match BW l i with|some d=>tmps[d]?.getD undef|none=>undef
structure Lg (l:List Oper) (a0:Act) (R:(Nat→Bool)→Nat→Value→World→Prop) (G:(Nat→Bool)→World→Prop) (listed:Array Bool) (a:Act) (w:World):Prop where
 size':listed.size=l.length
 closed:∀j oj,l[j]? =some oj→listed.getD j false=true→∀e∈oj.after,Region.binds .any e=true→listed.getD e.on false=true
 defers:a.defers=a0.defers
 size:a.tmps.size=a0.tmps.size
 base:∀t,(∀i,i<l.length→BW l i≠some t)→a.tmps[t]? =a0.tmps[t]?
 post:∀i,i<l.length→listed.getD i false=true→R (fun j=>listed.getD j false) i (EH l a.tmps i) w
 glob:G (fun j=>listed.getD j false) w
section
variable {P:Program}
theorem Ti {l:List Oper} {a:Act} {i j:Nat} {o:Oper} {v:Value} (ho:l[i]? =some o) (hne:BW l i=none∨BW l i≠BW l j):EH l (a.put o.dst v).tmps j=EH l a.tmps j:=by
 have e:BW l i=o.dst:=by simp[BW,ho]
 rw[e] at hne;unfold EH;cases hj:BW l j with
 |none=>rfl
 |some d=>
  cases hd:o.dst with
  |none=>rfl
  |some d'=>
   have:d'≠d:=by
    rintro rfl
    rcases hne with h|h
    ·rw[hd] at h;cases h
    ·exact h (by rw[hd,hj])
   simp only[Act.put];rw[Array.getElem?_setIfInBounds_ne this]
theorem Th {l:List Oper} {a:Act} {i:Nat} {o:Oper} {v:Value} (ho:l[i]? =some o) (hN:∀d,BW l i=some d→d<a.tmps.size):EH l (a.put o.dst v).tmps i=match o.dst with|some _=>v|none=>undef:=by
 have e:BW l i=o.dst:=by simp[BW,ho]
 unfold EH;rw[e];cases hd:o.dst with
 |none=>rfl
 |some d=>have:=hN d (by rw[e,hd]);simp[Act.put,this]
theorem Pu (l:List Oper):∀(is:List Nat) (b c:Array Value),c.size=b.size→(∀t,(∀i,i∈is→BW l i≠some t)→c[t]? =b[t]?)→c=DS l is (fun i=>EH l c i) b:=by
 intro is
 induction is with
 |nil=>intro b c hs h;exact Array.ext_getElem? fun t=>h t (fun i hi=>by cases hi)
 |cons i is ih=>
  intro b c hs h
  show c=DS l is _ (match BW l i with|some d=>b.setIfInBounds d (EH l c i)|none=>b)
  cases hd:BW l i with
  |none=>
   exact ih b c hs fun t ht=>h t fun j hj=>by
    rcases List.mem_cons.1 hj with rfl|hj
    ·rw[hd];exact(fun e=>by cases e)
    ·exact ht j hj
  |some d=>
   refine ih _ c (by simpa using hs) fun t ht=>?_
   by_cases hti:d=t
   ·subst hti
    have hv:EH l c i=c[d]?.getD undef:=by unfold EH;rw[hd]
    show c[d]? =(b.setIfInBounds d (EH l c i))[d]?
    rw[hv]
    rcases Nat.lt_or_ge d c.size with h'|h'
    ·have:d<b.size:=by omega
     simp[h',this]
    ·have:b.size≤d:=by omega
     simp[h',this]
   ·show c[t]? =(b.setIfInBounds d (EH l c i))[t]?
    rw[Array.getElem?_setIfInBounds_ne hti];exact h t fun j hj=>by
     rcases List.mem_cons.1 hj with rfl|hj
     ·rw[hd];exact fun e=>hti (So_ e)
     ·exact ht j hj
theorem Lg.wpAny {l:List Oper} {a0:Act} {R:(Nat→Bool)→Nat→Value→World→Prop} {G:(Nat→Bool)→World→Prop} {Q:Exit→Act→World→Prop}
 (hB:SI l a0.tmps.size=true)
 (hstep:∀i,i<l.length→∀o,l[i]? =some o→∀a w,a.defers=a0.defers→a.tmps.size=a0.tmps.size→(∀t,(∀i,i<l.length→BW l i≠some t)→a.tmps[t]? =a0.tmps[t]?)→
  ∀L:Nat→Bool,(∀j,j<l.length→L j=true→R L j (EH l a.tmps j) w)→L i=false→(∀j,Region.waitsFor .any l.toArray i j=true→L j=true)→(∀j j',L j=true→Region.waitsFor .any l.toArray j j'=true→L j'=true)→G L w→
  ∀K:Act→World→Prop,(∀v w',R (Gy L i) i (match o.dst with|some _=>v|none=>undef) w'→G (Gy L i) w'→(∀j,j≠i→j<l.length→L j=true→R L j (EH l a.tmps j) w→R (Gy L i) j (EH l a.tmps j) w')→K (a.put o.dst v) w')→Aa P l o a w K Q)
 (htail:∀a w,a.defers=a0.defers→a.tmps.size=a0.tmps.size→(∀t,(∀i,i<l.length→BW l i≠some t)→a.tmps[t]? =a0.tmps[t]?)→
  ∀L:Nat→Bool,(∀i,i<l.length→L i=true)→(∀i,i<l.length→R L i (EH l a.tmps i) w)→G L w→Q .normal a w):
 ∀(f:Nat) (listed:Array Bool) (a:Act) (w:World),f=((List.range l.length).filter fun i=>!listed.getD i false).length→Lg l a0 R G listed a w→Go.wpAny P .any l.toArray Q f listed a w:=by
 simp only[SI,Bool.and_eq_true] at hB;obtain⟨⟨hdis,hback⟩,hin⟩:=hB;have hne:∀i j,i<l.length→j<l.length→i≠j→BW l i=none∨BW l i≠BW l j:=by intro i j hi hj hij;have:=List.all_eq_true.1 (List.all_eq_true.1 hdis i (List.mem_range.2 hi)) j (List.mem_range.2 hj);simp only[Bool.or_eq_true,beq_iff_eq,hij,false_or,bne_iff_ne,Option.isNone_iff_eq_none] at this;exact this
 have hN:∀i,i<l.length→∀d,BW l i=some d→d<a0.tmps.size:=by intro i hi d hd;have:=List.all_eq_true.1 hin i (List.mem_range.2 hi);rw[hd] at this;simpa using this
 have done:∀(listed:Array Bool) (a:Act) (w:World),(∀i,i<l.length→listed.getD i false=true)→Lg l a0 R G listed a w→Q .normal a w:=fun listed a w hall inv=>htail a w inv.defers inv.size inv.base _ hall (fun i hi=>inv.post i hi (hall i hi)) inv.glob
 have stuck:∀(listed:Array Bool),listed.size=l.length→Region.ready .any l.toArray listed=[]→∀i,i<l.length→listed.getD i false=true:=by
  intro listed hsz hr;have:∀k,∀i,i<k→i<l.length→listed.getD i false=true:=by
   intro k
   induction k with
   |zero=>intro i hi;omega
   |succ k ihk=>
    intro i hik hin';cases hx:listed.getD i false with
    |true=>rfl
    |false=>
     exfalso;have hun:listed.getD i true=false:=getD_in (by omega) hx;have ho:l[i]? =some l[i]:=List.getElem?_eq_getElem hin';have hnr:i∉Region.ready .any l.toArray listed:=by rw[hr];simp
     apply hnr;rw[mem_ready];refine⟨hun,l[i],by simp,fun e he hb=>?_⟩;have hlt:e.on<i:=by have:=List.all_eq_true.1 hback i (List.mem_range.2 hin');rw[ho] at this;simpa[hb] using Array.all_eq_true'.1 this e he
     exact ihk e.on (by omega) (by omega)
  exact fun i hi=>this l.length i hi hi
 intro f
 induction f with
 |zero=>
  intro listed a w hf inv;have hall:∀i,i<l.length→listed.getD i false=true:=by
   intro i hi;cases hx:listed.getD i false with
   |true=>rfl
   |false=>
    exfalso;have:i∈(List.range l.length).filter fun i=>!listed.getD i false:=List.mem_filter.2 ⟨List.mem_range.2 hi,by simp[hx]⟩
    have:=List.length_pos_of_mem this;omega
  refine⟨?_,done listed a w hall inv⟩;rw[List.eq_nil_iff_forall_not_mem];intro i hi;obtain⟨hun,o,ho,_⟩:=mem_ready.1 hi;have hil:i<l.length:=by have:=(Array.getElem?_eq_some_iff.1 ho).1;simpa using this
  have:=getD_both hun;rw[hall i hil] at this;cases this
 |succ f ih=>
  intro listed a w hf inv;refine⟨fun hr=>done listed a w (stuck listed inv.size' hr) inv,fun i hi=>?_⟩;obtain⟨hun,o,ho',hdep⟩:=mem_ready.1 hi;have ho:l[i]? =some o:=by simpa using ho'
  have hil:i<l.length:=(List.getElem?_eq_some_iff.1 ho).1;have hunf:=getD_both hun;unfold Go.wpOp;rw[ho'];have hlis:∀j,Region.waitsFor .any l.toArray i j=true→listed.getD j false=true:=by intro j hj;obtain⟨oj,hoj,e,he,hb,rfl⟩:=Region.waitsFor_spec hj;obtain rfl:oj=o:=So_ (hoj.symm.trans ho');exact hdep e he hb
  have hclo:∀j j',listed.getD j false=true→Region.waitsFor .any l.toArray j j'=true→listed.getD j' false=true:=by intro j j' hj hw;obtain⟨oj,hoj,e,he,hb,rfl⟩:=Region.waitsFor_spec hw;exact inv.closed j oj (by simpa using hoj) hj e he hb
  have eL:(fun j=>(listed.setIfInBounds i true).getD j false)=Gy (fun j=>listed.getD j false) i:=by
   have hsz:=inv.size'
   funext j
   unfold Gy
   by_cases hji:j=i
   ·subst hji
    rw[if_pos rfl,Dt (by omega)]
   ·rw[if_neg hji,getD_set_ne false (Ne.symm hji)]
  have hK:=hstep i hil o ho a w inv.defers inv.size inv.base (fun j=>listed.getD j false) (fun j hj hjl=>inv.post j hj hjl) hunf hlis hclo inv.glob (Go.wpAny P .any l.toArray Q f (listed.setIfInBounds i true)) (fun v w' hR hG' hkeep=>by
   have hcount:f=((List.range l.length).filter fun k=>!(listed.setIfInBounds i true).getD k false).length:=by
    have hmem:i∈(List.range l.length).filter fun k=>!listed.getD k false:=by rw[List.mem_filter];exact⟨List.mem_range.2 hil,by rw[hunf];rfl⟩
    have hnd:((List.range l.length).filter fun k=>!listed.getD k false).Nodup:=List.nodup_range.filter _;have he:((List.range l.length).filter fun k=>!(listed.setIfInBounds i true).getD k false)=((List.range l.length).filter fun k=>!listed.getD k false).erase i:=by
     rw[hnd.erase_eq_filter,List.filter_filter];refine List.filter_congr fun k hk=>?_
     have hsz:=inv.size'
     by_cases hki:k=i
     ·subst hki
      simp[Dt (show k<listed.size by omega)]
     ·rw[getD_set_ne false (Ne.symm hki)]
      simp[hki]
    rw[he,List.length_erase_of_mem hmem];have:=List.length_pos_of_mem hmem;omega
   refine ih _ _ _ hcount ⟨by simpa using inv.size',?_,?_,?_,?_,?_,?_⟩
   ·intro j oj hoj hj e he hb
    by_cases hji:j=i
    ·subst hji
     obtain rfl:oj=o:=So_ (hoj.symm.trans ho);have:=hdep e he hb
     by_cases h2:e.on=j
     ·rw[h2] at this;rw[this] at hunf;cases hunf
     ·rw[getD_set_ne false (Ne.symm h2)];exact this
    ·rw[getD_set_ne false (Ne.symm hji)] at hj
     have:=inv.closed j oj hoj hj e he hb
     by_cases h2:e.on=i
     ·have hsz:=inv.size'
      rw[h2,Dt (by omega)]
     ·rw[getD_set_ne false (Ne.symm h2)];exact this
   ·cases hd:o.dst<;>simpa[Act.put] using inv.defers
   ·cases hd:o.dst<;>simpa[Act.put] using inv.size
   ·intro t ht
    rw[←inv.base t ht];cases hd:o.dst with
    |none=>rfl
    |some d=>
     have:d≠t:=fun e=>ht i hil (by simp[BW,ho,hd,e])
     simp only[Act.put];rw[Array.getElem?_setIfInBounds_ne this]
   ·intro j hj hjl
    rw[eL]
    by_cases hji:j=i
    ·subst hji
     rw[Th ho (fun d hd=>by rw[inv.size];exact hN j hj d hd)];exact hR
    ·have hjl':listed.getD j false=true:=by rwa [getD_set_ne false (Ne.symm hji)] at hjl
     rw[Ti ho (hne i j hil hj (Ne.symm hji))];exact hkeep j hji hj hjl' (inv.post j hj hjl')
   ·rw[eL];exact hG')
  cases hwt:Region.wanted o (yielded l.toArray a.tmps) with
  |true=>dsimp only;rw[hwt,if_pos rfl];exact .inl (hK.1 hwt)
  |false=>dsimp only;rw[hwt,if_neg Bool.false_ne_true];exact hK.2 hwt
theorem M5 {id:Nat} {Q:Exit→Act→World→Prop} {a0:Act} {w0:World} {l:List Oper} (n:Nat) (hm:P.follows .mixedOrders=true)
 (N:Nat) (hN:a0.tmps.size=N) (hB:SI l N=true) (hn:l.length=n) (S:Nat→Bool) (R:(Nat→Bool)→Nat→Value→World→Prop) (G:(Nat→Bool)→World→Prop)
 (hG:G (fun _=>false) {w0 with drawn:=w0.drawn+1})
 (hmono:∀j,j<n→∀L i v w w',i<n→S i=false→L i=false→L j=true→Below w.heap.size w w'→R L j v w→R (Gy L i) j v w')
 (hgrow:∀L i w w',i<n→S i=false→L i=false→Below w.heap.size w w'→G L w→G (Gy L i) w')
 (hstep:∀i,i<n→S i=false→∀o,l[i]? =some o→∀a w,Hid (a.defers=a0.defers∧a.tmps.size=a0.tmps.size∧∀t,(∀i,i<n→BW l i≠some t)→a.tmps[t]? =a0.tmps[t]?)→
  ∀L:Nat→Bool,Hid (∀j,L j=true→j<n→R L j (EH l a.tmps j) w)→Hid (L i=false∧(∀j,Region.waitsFor .any l.toArray i j=true→L j=true)∧∀j j',L j=true→Region.waitsFor .any l.toArray j j'=true→L j'=true)→G L w→
  ∀K:Act→World→Prop,Hid (∀v w',R (Gy L i) i (match o.dst with|some _=>v|none=>undef) w'→Below w.heap.size w w'→K (a.put o.dst v) w')→Aa P l o a w K Q)
 (hspec:∀i,i<n→S i=true→∀o,l[i]? =some o→∀a w,Hid (a.defers=a0.defers∧a.tmps.size=a0.tmps.size∧∀t,(∀i,i<n→BW l i≠some t)→a.tmps[t]? =a0.tmps[t]?)→
  ∀L:Nat→Bool,Hid (∀j,L j=true→j<n→R L j (EH l a.tmps j) w)→Hid (L i=false∧(∀j,Region.waitsFor .any l.toArray i j=true→L j=true)∧∀j j',L j=true→Region.waitsFor .any l.toArray j j'=true→L j'=true)→G L w→
  ∀K:Act→World→Prop,Hid (∀v w',R (Gy L i) i (match o.dst with|some _=>v|none=>undef) w'→G (Gy L i) w'→(∀j,j≠i→j<n→L j=true→R L j (EH l a.tmps j) w→R (Gy L i) j (EH l a.tmps j) w')→K (a.put o.dst v) w')→Aa P l o a w K Q)
 (htail:∀(vs:Nat→Value) w,∀L:Nat→Bool,(∀i,i<n→L i=true)→(∀i,i<n→R L i (vs i) w)→G L w→wpList P l.toArray Q [] {a0 with tmps:=DS l (List.range n) vs a0.tmps} w):
 (Code.region id l.toArray true).wp P Q a0 w0:=by
 subst hn;refine wp_region_any hm ?_;refine Lg.wpAny (a0:=a0) (R:=R) (G:=G) (by rw[hN];exact hB) (fun i hi o ho a w h1 h2 h3 L h4 h6 h7 h8 h5 K hK=>?_) (fun a w h1 h2 h3 L h6 h4 h5=>?_) _ _ _ _ ?_ ⟨by simp,fun j oj _ hl=>(by rw[getD_replicate_false] at hl;cases hl),rfl,rfl,fun _ _=>rfl,fun i _ hl=>(by rw[getD_replicate_false] at hl;cases hl),(show G (fun j=>(Array.replicate l.toArray.size false).getD j false) _ from(funext fun j=>getD_replicate_false _ _:(fun j=>(Array.replicate l.toArray.size false).getD j false)=fun _=>false)▸hG)⟩
 ·cases hS:S i with
  |false=>exact hstep i hi hS o ho a w (AA ⟨h1,h2,h3⟩) L (AA fun j hj hjn=>h4 j hjn hj) (AA ⟨h6,h7,h8⟩) h5 K (AA fun v w' hR hb=>hK v w' hR (hgrow L i w w' hi hS h6 hb h5) (fun j hji hjn hjl hu=>hmono j hjn L i _ w w' hi hS h6 hjl hb hu))
  |true=>exact hspec i hi hS o ho a w (AA ⟨h1,h2,h3⟩) L (AA fun j hj hjn=>h4 j hjn hj) (AA ⟨h6,h7,h8⟩) h5 K (AA hK)
 ·have e:=Pu l (List.range l.length) a0.tmps a.tmps h2 (fun t ht=>h3 t fun i hi=>ht i (List.mem_range.2 hi))
  have:=htail (fun i=>EH l a.tmps i) w L h6 h4 h5;rw[←e] at this;obtain⟨tm,df⟩:=a;dsimp only at h1 this;subst h1;exact this
 ·have:((List.range l.length).filter fun i=>!(Array.replicate l.toArray.size false).getD i false)=List.range l.length:=by
   rw[List.filter_eq_self];intro i _;rw[getD_replicate_false];rfl
  rw[this];simp
end
inductive Vx where
 |p (b o:Nat)
 |i (x:Int)
 |s (b n c:Nat)
 |b (x:Bool)
 |t (x:ByteArray)
 |v (x:Value)
 |a (x:Array Value)
 |u
 |z
def Vx.val:Vx→Option Value
 | .p x y=>some (.pointer (some ⟨x,y,none⟩))
 | .i x=>some (.int .i64 x)
 | .s x y k=>some (.slice (some ⟨x,0,none⟩) y k)
 | .b x=>some (.bool x)
 | .t x=>some (.string x)
 | .v x=>some x
 | .a x=>some (.agg x)
 | .u=>some undef
 | .z=>none
def EB (L:List Vx) (i:Nat):Option Value:=(L[i]?).bind Vx.val
def RV (L:List Vx) (R:Nat→Value→World→Prop) (i:Nat) (v:Value) (w:World):Prop:=
 match EB L i with
 |some x=>v=x
 |none=>R i v w
theorem RV.of {L:List Vx} {R:Nat→Value→World→Prop} {i:Nat} {v:Value} {w:World} (h:EB L i=some v):RV L R i v w:=by unfold RV;rw[h]
theorem RV.eq {L:List Vx} {R:Nat→Value→World→Prop} {i:Nat} {v x:Value} {w:World} (h:RV L R i v w) (e:EB L i=some x):v=x:=by unfold RV at h;rw[e] at h;exact h
theorem RV.mono {L:List Vx} {R:Nat→Value→World→Prop} {i:Nat} {v:Value} {w w':World} (hR:R i v w→R i v w') (h:RV L R i v w):RV L R i v w':=by
 unfold RV at h ⊢;cases e:EB L i with
 |some x=>rw[e] at h;exact h
 |none=>rw[e] at h;exact hR h
def PW (l:List Oper) (n t:Nat):Option Nat:=(List.range n).find? fun j=>AQ l j==t
def Vd (l:List Oper) (n i:Nat) (L:List Vx) (a0 a:Act):Operand→Value
 | .tmp t=>
  match PW l n t with
  |some j=>
   match Region.waitsFor .any l.toArray i j with
   |true=>match EB L j with
    |some x=>x
    |none=>a.eval (.tmp t)
   |false=>a.eval (.tmp t)
  |none=>a0.tmps[t]?.getD undef
 |x=>a.eval x
def TV (l:List Oper) (n:Nat) (L:List Vx) (a0:Act):Operand→Value
 | .tmp t=>
  match PW l n t with
  |some j=>(EB L j).getD undef
  |none=>a0.tmps[t]?.getD undef
 |_=>undef
def LV (l:List Oper) (i:Nat) (L:List Vx) (o:Oper):Option Bool:=
 match o.guard with
 |none=>some true
 |some (g,b)=>
  match Region.waitsFor .any l.toArray i g with
  |true=>
   match(l[g]?).bind (·.dst) with
   |some _=>
    match EB L g with
    |some (.bool c)=>some (c==b)
    |some (.tuple _)=>some false
    |_=>none
   |none=>none
  |false=>none
section
variable {P:Program} {l:List Oper} {n i:Nat} {o o':Oper} {a a0:Act} {w:World} {K:Act→World→Prop} {Q:Exit→Act→World→Prop} {L:List Vx} {R:Nat→Value→World→Prop} {v:Value}
theorem PP (Hb:Hid (a.defers=a0.defers∧a.tmps.size=a0.tmps.size∧∀t,(∀i,i<n→AQ l i≠t)→a.tmps[t]? =a0.tmps[t]?)) (Hd:Hid (∀j,Region.waitsFor .any l.toArray i j=true→RV L R j (a.tmps[AQ l j]?.getD undef) w)):Vd l n i L a0 a=a.eval:=by
 funext x
 cases x with
 |tmp t=>
  show(match PW l n t with|some j=>_|none=>_)=_
  cases e:PW l n t with
  |none=>
   simp only;have h:∀j,j<n→AQ l j≠t:=by intro j hj h2;have:=List.find?_eq_none.1 e j (List.mem_range.2 hj);simp[h2] at this
   exact(BC (by rw[Hb.out.2.2 t h])).symm
  |some j=>
   simp only;have h2:AQ l j=t:=by have:=List.find?_some e;simpa using this
   cases e3:Region.waitsFor .any l.toArray i j with
   |false=>rfl
   |true=>
    simp only;cases e4:EB L j with
    |none=>rfl
    |some y=>simp only;have:=(Hd.out j e3).eq e4;rw[h2] at this;exact(BC this).symm
 |const v=>rfl
 |global g=>rfl
 |func f=>rfl
theorem JK {c:Bool} (Hd:Hid (∀j,Region.waitsFor .any l.toArray i j=true→RV L R j (a.tmps[AQ l j]?.getD undef) w)) (h:LV l i L o=some c):Region.wanted o (yielded l.toArray a.tmps)=c:=by
 unfold LV at h;unfold Region.wanted;cases e:o.guard with
 |none=>rw[e] at h;simp only at h ⊢;exact So_ h
 |some gb=>
  obtain⟨g,b⟩:=gb;rw[e] at h;simp only at h ⊢;cases e1:Region.waitsFor .any l.toArray i g with
  |false=>rw[e1] at h;cases h
  |true=>
   rw[e1] at h;simp only at h;cases e2:(l[g]?).bind (·.dst) with
   |none=>rw[e2] at h;cases h
   |some d=>
    rw[e2] at h;simp only at h;have hd:AQ l g=d:=by unfold AQ;rw[e2];rfl
    have h2:(l.toArray[g]?).bind (·.dst)=some d:=by simpa using e2
    cases e3:EB L g with
    |none=>rw[e3] at h;cases h
    |some x=>
     have h3:=(Hd.out g e1).eq e3;rw[hd] at h3;rw[e3] at h;cases x with
     |bool c9=>have hv:=So_ h;rw[Kj e2 h3,←hv];cases c9<;>cases b<;>rfl
     |tuple y=>
      have hv:=So_ h;rw[←hv];unfold yielded;rw[h2,Option.bind_some];cases hx:a.tmps[d]? with
      |none=>rfl
      |some y=>rw[hx] at h3;simp only[Option.getD_some] at h3;subst h3;rfl
     |_=>cases h
theorem sP (ho:l[i]? =some o) (HK:Hid (∀v w',RV L R i v w'→Below w.heap.size w w'→K (a.put o.dst v) w')) (Hb:Hid (a.defers=a0.defers∧a.tmps.size=a0.tmps.size∧∀t,(∀i,i<n→AQ l i≠t)→a.tmps[t]? =a0.tmps[t]?)) (Hd:Hid (∀j,Region.waitsFor .any l.toArray i j=true→RV L R j (a.tmps[AQ l j]?.getD undef) w))
 (e:l[i]? =some o':=by rfl) (hv:EB L i=some v:=by rfl) (hw:LV l i L o'=some true:=by kernel_rfl) (hr:(execOp (Vd l n i L a0 a) o').run P w= .ok (.value v) w:=by kernel_rfl):Aa P l o a w K Q:=
 dV ho e (JK Hd hw) HK (by rw[←PP Hb Hd];exact hr) (RV.of hv)
theorem sL {t:Nat} {x:Operand} {p:Value} (ho:l[i]? =some o) (HK:Hid (∀v w',RV L R i v w'→Below w.heap.size w w'→K (a.put o.dst v) w')) (Hb:Hid (a.defers=a0.defers∧a.tmps.size=a0.tmps.size∧∀t,(∀i,i<n→AQ l i≠t)→a.tmps[t]? =a0.tmps[t]?)) (Hd:Hid (∀j,Region.waitsFor .any l.toArray i j=true→RV L R j (a.tmps[AQ l j]?.getD undef) w))
 (e:l[i]? =some o':=by rfl) (hop:o'.op= .load t x:=by rfl) (hp:TV l n L a0 x=p:=by rfl) (hq:Vd l n i L a0 a x=TV l n L a0 x:=by kernel_rfl) (hv:EB L i=some v:=by rfl) (hw:LV l i L o'=some true:=by kernel_rfl) (hl:(Instr.loadAt t p).run P w= .ok v w):Aa P l o a w K Q:=
 dV ho e (JK Hd hw) HK (by rw[←PP Hb Hd];unfold execOp;rw[hop];simp only[hq.trans hp,Sem.run_bind,hl,Result.andThen_ok];rfl) (RV.of hv)
theorem sB (ho:l[i]? =some o) (HK:Hid (∀v w',RV L R i v w'→Below w.heap.size w w'→K (a.put o.dst v) w')) (Hd:Hid (∀j,Region.waitsFor .any l.toArray i j=true→RV L R j (a.tmps[AQ l j]?.getD undef) w))
 (e:l[i]? =some o':=by rfl) (hv:EB L i=some undef:=by rfl) (hw:LV l i L o'=some false:=by kernel_rfl):Aa P l o a w K Q:=by
 obtain rfl:=So_ (ho.symm.trans e);exact⟨fun h=>absurd ((JK Hd hw).symm.trans h) (by decide),fun _=>HK.out _ _ (RV.of hv) (Below.refl _ _)⟩
theorem sC {F:FuncId} {vs:Array Value} {Qc:Ending→World→Prop} (ho:l[i]? =some o) (HK:Hid (∀v w',RV L R i v w'→Below w.heap.size w w'→K (a.put o.dst v) w')) (Hb:Hid (a.defers=a0.defers∧a.tmps.size=a0.tmps.size∧∀t,(∀i,i<n→AQ l i≠t)→a.tmps[t]? =a0.tmps[t]?)) (Hd:Hid (∀j,Region.waitsFor .any l.toArray i j=true→RV L R j (a.tmps[AQ l j]?.getD undef) w))
 (hc:Calls P F vs w Qc) (hq:∀e w',Qc e w'→∃v,e= .returned v∧RV L R i v w'∧Below w.heap.size w w')
 (e:l[i]? =some o':=by rfl) (hw:LV l i L o'=some true:=by kernel_rfl) (hr:(execOp (Vd l n i L a0 a) o').run P w= .ok (.enter F vs) w:=by kernel_rfl):Aa P l o a w K Q:=by
 obtain rfl:=So_ (ho.symm.trans e);refine⟨fun _=>?_,fun h=>absurd ((JK Hd hw).symm.trans h) (by decide)⟩;unfold Oper.wp;rw[←PP Hb Hd,hr,Oper.upon_enter];refine hc.mono ?_;intro x w' h;obtain⟨v,rfl,h1,h2⟩:=hq x w' h;exact HK.out v w' h1 h2
theorem sD {F:FuncId} {vs:Array Value} (ho:l[i]? =some o) (HK:Hid (∀v w',RV L R i v w'→Below w.heap.size w w'→K (a.put o.dst v) w')) (Hb:Hid (a.defers=a0.defers∧a.tmps.size=a0.tmps.size∧∀t,(∀i,i<n→AQ l i≠t)→a.tmps[t]? =a0.tmps[t]?)) (Hd:Hid (∀j,Region.waitsFor .any l.toArray i j=true→RV L R j (a.tmps[AQ l j]?.getD undef) w))
 (hc:Calls P F vs w fun e w'=>e= .returned v∧Below w.heap.size w w') (e:l[i]? =some o':=by rfl) (hv:EB L i=some v:=by rfl) (hw:LV l i L o'=some true:=by kernel_rfl) (hr:(execOp (Vd l n i L a0 a) o').run P w= .ok (.enter F vs) w:=by kernel_rfl):Aa P l o a w K Q:=
 sC ho HK Hb Hd hc (fun _ _ h=>⟨v,h.1,RV.of hv,h.2⟩) e hw hr
theorem sI {t b off ln cp:Nat} {x y:Operand} {j:Int} (ho:l[i]? =some o) (HK:Hid (∀v w',RV L R i v w'→Below w.heap.size w w'→K (a.put o.dst v) w')) (Hb:Hid (a.defers=a0.defers∧a.tmps.size=a0.tmps.size∧∀t,(∀i,i<n→AQ l i≠t)→a.tmps[t]? =a0.tmps[t]?)) (Hd:Hid (∀j,Region.waitsFor .any l.toArray i j=true→RV L R j (a.tmps[AQ l j]?.getD undef) w))
 (e:l[i]? =some o':=by rfl) (hop:o'.op= .indexAddr t x y:=by rfl) (hp:TV l n L a0 x= .slice (some ⟨b,off,none⟩) ln cp:=by rfl) (hy:TV l n L a0 y= .int .i64 j:=by rfl) (hpr:Vd l n i L a0 a x=TV l n L a0 x:=by kernel_rfl) (hyr:Vd l n i L a0 a y=TV l n L a0 y:=by kernel_rfl) (hv:EB L i=some v:=by rfl) (hw:LV l i L o'=some true:=by kernel_rfl) (hr:(Instr.indexAt t (.slice (some ⟨b,off,none⟩) ln cp) (.int .i64 j)).run P w= .ok v w):Aa P l o a w K Q:=
 dV ho e (JK Hd hw) HK (by rw[←PP Hb Hd];unfold execOp;rw[hop];simp only[hpr.trans hp,hyr.trans hy,Sem.run_bind,hr,Result.andThen_ok];rfl) (RV.of hv)
theorem Al {id:Nat} {w0:World} (n N:Nat) (L:List Vx) (R:Nat→Value→World→Prop)
 (hstep:∀i,i<n→∀o,l[i]? =some o→∀a w,Hid (a.defers=a0.defers∧a.tmps.size=a0.tmps.size∧∀t,(∀i,i<n→AQ l i≠t)→a.tmps[t]? =a0.tmps[t]?)→
  Hid (∀j,Region.waitsFor .any l.toArray i j=true→RV L R j (a.tmps[AQ l j]?.getD undef) w)→Below w0.heap.size w0 w→
  ∀K:Act→World→Prop,Hid (∀v w',RV L R i v w'→Below w.heap.size w w'→K (a.put o.dst v) w')→Aa P l o a w K Q)
 (htail:∀(vs:Nat→Value) w,(∀i,i<n→RV L R i (vs i) w)→Below w0.heap.size w0 w→wpList P l.toArray Q (l.drop n) {a0 with tmps:=Ai l (List.range n) vs a0.tmps} w)
 (hm:P.follows .mixedOrders=true:=by kernel_rfl) (hB:Ft l n=true:=by kernel_rfl) (hN:a0.tmps.size=N:=by rfl) (hD:Qz l n N=true:=by kernel_rfl)
 (hmono:∀i,i<n→∀v w w',Below w.heap.size w w'→R i v w→R i v w':=by exact fun _ _ _ _ _ _ h=>h):(Code.region id l.toArray true).wp P Q a0 w0:=
 JL n hm hB N hN hD (RV L R) (fun i hi v w w' hb h=>RV.mono (hmono i hi v w w' hb) h) hstep htail
theorem Am {id:Nat} {w0:World} (n N:Nat) (L:List Vx) (R:Nat→Value→World→Prop)
 (hstep:∀i,i<n→∀o,l[i]? =some o→∀a w,Hid (a.defers=a0.defers∧a.tmps.size=a0.tmps.size∧∀t,(∀i,i<n→AQ l i≠t)→a.tmps[t]? =a0.tmps[t]?)→
  Hid (∀j,Region.waitsFor .any l.toArray i j=true→RV L R j (a.tmps[AQ l j]?.getD undef) w)→Below w0.heap.size w0 w→
  ∀K:Act→World→Prop,Hid (∀v w',RV L R i v w'→Below w.heap.size w w'→K (a.put o.dst v) w')→Aa P l o a w K Q)
 (hmono:∀i,i<n→∀v w w',Below w.heap.size w w'→R i v w→R i v w')
 (htail:∀(vs:Nat→Value) w,(∀i,i<n→RV L R i (vs i) w)→Below w0.heap.size w0 w→wpList P l.toArray Q (l.drop n) {a0 with tmps:=Ai l (List.range n) vs a0.tmps} w)
 (hm:P.follows .mixedOrders=true:=by kernel_rfl) (hB:Ft l n=true:=by kernel_rfl) (hN:a0.tmps.size=N:=by rfl) (hD:Qz l n N=true:=by kernel_rfl):(Code.region id l.toArray true).wp P Q a0 w0:=
 JL n hm hB N hN hD (RV L R) (fun i hi v w w' hb h=>RV.mono (hmono i hi v w w' hb) h) hstep htail
end
def RF (V:List Vx) (R:(Nat→Bool)→Nat→Value→World→Prop) (L:Nat→Bool) (i:Nat) (v:Value) (w:World):Prop:=
 match EB V i with
 |some x=>v=x
 |none=>R L i v w
section
variable {P:Program} {l:List Oper} {n i:Nat} {o o':Oper} {a a0:Act} {w:World} {K:Act→World→Prop} {Q:Exit→Act→World→Prop} {V:List Vx} {R:(Nat→Bool)→Nat→Value→World→Prop} {L:Nat→Bool} {v:Value}
theorem RF.of (h:EB V i=some v):RF V R L i v w:=by unfold RF;rw[h]
theorem RF.eq {x:Value} (h:RF V R L i v w) (e:EB V i=some x):v=x:=by unfold RF at h;rw[e] at h;exact h
theorem RF.mono {L':Nat→Bool} {w':World} (hR:R L i v w→R L' i v w') (h:RF V R L i v w):RF V R L' i v w':=by
 unfold RF at h ⊢;cases e:EB V i with
 |some x=>rw[e] at h;exact h
 |none=>rw[e] at h;exact hR h
def Se (l:List Oper) (n t:Nat):Option Nat:=(List.range n).find? fun j=>BW l j==some t
def UZ (l:List Oper) (n i:Nat) (V:List Vx) (a0 a:Act):Operand→Value
 | .tmp t=>
  match Se l n t with
  |some j=>
   match Region.waitsFor .any l.toArray i j with
   |true=>match EB V j with
    |some x=>x
    |none=>a.eval (.tmp t)
   |false=>a.eval (.tmp t)
  |none=>a0.tmps[t]?.getD undef
 |x=>a.eval x
def Vr (l:List Oper) (n:Nat) (V:List Vx) (a0:Act):Operand→Value
 | .tmp t=>
  match Se l n t with
  |some j=>(EB V j).getD undef
  |none=>a0.tmps[t]?.getD undef
 |_=>undef
def OL (l:List Oper) (n i:Nat) (V:List Vx) (o:Oper):Option Bool:=
 match o.guard with
 |none=>some true
 |some (g,b)=>
  match Region.waitsFor .any l.toArray i g&&decide (g<n) with
  |true=>
   match(l[g]?).bind (·.dst) with
   |some _=>
    match EB V g with
    |some (.bool c)=>some (c==b)
    |some (.tuple _)=>some false
    |_=>none
   |none=>none
  |false=>none
abbrev VR (l:List Oper) (n:Nat) (a0 a:Act):Prop:=a.defers=a0.defers∧a.tmps.size=a0.tmps.size∧∀t,(∀i,i<n→BW l i≠some t)→a.tmps[t]? =a0.tmps[t]?
abbrev VM (l:List Oper) (n:Nat) (V:List Vx) (R:(Nat→Bool)→Nat→Value→World→Prop) (L:Nat→Bool) (a:Act) (w:World):Prop:=∀j,L j=true→j<n→RF V R L j (EH l a.tmps j) w
abbrev Us (l:List Oper) (i:Nat) (L:Nat→Bool):Prop:=L i=false∧(∀j,Region.waitsFor .any l.toArray i j=true→L j=true)∧∀j j',L j=true→Region.waitsFor .any l.toArray j j'=true→L j'=true
abbrev Vi (V:List Vx) (R:(Nat→Bool)→Nat→Value→World→Prop) (L:Nat→Bool) (i:Nat) (o:Oper) (a:Act) (w:World) (K:Act→World→Prop):Prop:=∀v w',RF V R (Gy L i) i (match o.dst with|some _=>v|none=>undef) w'→Below w.heap.size w w'→K (a.put o.dst v) w'
theorem PO (Hb:Hid (VR l n a0 a)) (Hd:Hid (VM l n V R L a w)) (HL:Hid (Us l i L)):UZ l n i V a0 a=a.eval:=by
 funext x
 cases x with
 |tmp t=>
  show(match Se l n t with|some j=>_|none=>_)=_
  cases e:Se l n t with
  |none=>
   simp only;have h:∀j,j<n→BW l j≠some t:=by intro j hj h2;have:=List.find?_eq_none.1 e j (List.mem_range.2 hj);simp[h2] at this
   exact(BC (by rw[Hb.out.2.2 t h])).symm
  |some j=>
   simp only;have h2:BW l j=some t:=by have:=List.find?_some e;simpa using this
   have hj:j<n:=List.mem_range.1 (List.mem_of_find?_eq_some e);cases e3:Region.waitsFor .any l.toArray i j with
   |false=>rfl
   |true=>
    simp only;cases e4:EB V j with
    |none=>rfl
    |some y=>simp only;have:=(Hd.out j (HL.out.2.1 j e3) hj).eq e4;unfold EH at this;rw[h2] at this;exact(BC this).symm
 |const v=>rfl
 |global g=>rfl
 |func f=>rfl
theorem Mz {c:Bool} (Hd:Hid (VM l n V R L a w)) (HL:Hid (Us l i L)) (h:OL l n i V o=some c):Region.wanted o (yielded l.toArray a.tmps)=c:=by
 unfold OL at h;unfold Region.wanted;cases e:o.guard with
 |none=>rw[e] at h;simp only at h ⊢;exact So_ h
 |some gb=>
  obtain⟨g,b⟩:=gb;rw[e] at h;simp only at h ⊢;cases e1:(Region.waitsFor .any l.toArray i g&&decide (g<n)) with
  |false=>rw[e1] at h;cases h
  |true=>
   rw[e1] at h;simp only at h;obtain⟨e5,e6⟩:=Bool.and_eq_true_iff.1 e1;have e6:=of_decide_eq_true e6;cases e2:(l[g]?).bind (·.dst) with
   |none=>rw[e2] at h;cases h
   |some d=>
    rw[e2] at h;simp only at h;have h2:(l.toArray[g]?).bind (·.dst)=some d:=by simpa using e2
    cases e3:EB V g with
    |none=>rw[e3] at h;cases h
    |some x=>
     have h3:=(Hd.out g (HL.out.2.1 g e5) e6).eq e3;unfold EH at h3;rw[show BW l g=some d from e2] at h3;simp only at h3;rw[e3] at h;cases x with
     |bool c9=>have hv:=So_ h;rw[Kj e2 h3,←hv];cases c9<;>cases b<;>rfl
     |tuple y=>
      have hv:=So_ h;rw[←hv];unfold yielded;rw[h2,Option.bind_some];cases hx:a.tmps[d]? with
      |none=>rfl
      |some y=>rw[hx] at h3;simp only[Option.getD_some] at h3;subst h3;rfl
     |_=>cases h
theorem Vz (ho:l[i]? =some o) (e:l[i]? =some o') (hw:Region.wanted o' (yielded l.toArray a.tmps)=true) (HK:Hid (Vi V R L i o a w K)) (hv:EB V i=some v) (hd:o'.dst.isSome=true) (hr:(execOp a.eval o').run P w= .ok (.value v) w):Aa P l o a w K Q:=by
 obtain rfl:=So_ (ho.symm.trans e);refine⟨fun _=>?_,fun h=>by rw[hw] at h;cases h⟩;unfold Oper.wp;rw[hr,Oper.upon_value];obtain⟨d,h2⟩:=Option.isSome_iff_exists.1 hd;exact HK.out _ _ (by rw[h2];exact RF.of hv) (Below.refl _ _)
theorem Tk (ho:l[i]? =some o) (HK:Hid (Vi V R L i o a w K)) (Hb:Hid (VR l n a0 a)) (Hd:Hid (VM l n V R L a w)) (HL:Hid (Us l i L))
 (e:l[i]? =some o':=by rfl) (hd:o'.dst.isSome=true:=by rfl) (hv:EB V i=some v:=by rfl) (hw:OL l n i V o'=some true:=by kernel_rfl) (hr:(execOp (UZ l n i V a0 a) o').run P w= .ok (.value v) w:=by kernel_rfl):Aa P l o a w K Q:=
 Vz ho e (Mz Hd HL hw) HK hv hd (by rw[←PO Hb Hd HL];exact hr)
theorem Je {t:Nat} {x:Operand} {p:Value} (ho:l[i]? =some o) (HK:Hid (Vi V R L i o a w K)) (Hb:Hid (VR l n a0 a)) (Hd:Hid (VM l n V R L a w)) (HL:Hid (Us l i L))
 (e:l[i]? =some o':=by rfl) (hd:o'.dst.isSome=true:=by rfl) (hop:o'.op= .load t x:=by rfl) (hp:Vr l n V a0 x=p:=by rfl) (hq:UZ l n i V a0 a x=Vr l n V a0 x:=by kernel_rfl) (hv:EB V i=some v:=by rfl) (hw:OL l n i V o'=some true:=by kernel_rfl) (hl:(Instr.loadAt t p).run P w= .ok v w):Aa P l o a w K Q:=
 Vz ho e (Mz Hd HL hw) HK hv hd (by rw[←PO Hb Hd HL];unfold execOp;rw[hop];simp only[hq.trans hp,Sem.run_bind,hl,Result.andThen_ok];rfl)
theorem Vw {F:FuncId} {vs:Array Value} {Qc:Ending→World→Prop} (ho:l[i]? =some o) (HK:Hid (Vi V R L i o a w K)) (Hb:Hid (VR l n a0 a)) (Hd:Hid (VM l n V R L a w)) (HL:Hid (Us l i L))
 (hc:Calls P F vs w Qc) (hq:∀e w',Qc e w'→∃v,e= .returned v∧RF V R (Gy L i) i v w'∧Below w.heap.size w w')
 (e:l[i]? =some o':=by rfl) (hd:o'.dst.isSome=true:=by rfl) (hw:OL l n i V o'=some true:=by kernel_rfl) (hr:(execOp (UZ l n i V a0 a) o').run P w= .ok (.enter F vs) w:=by kernel_rfl):Aa P l o a w K Q:=by
 obtain rfl:=So_ (ho.symm.trans e);refine⟨fun _=>?_,fun h=>absurd ((Mz Hd HL hw).symm.trans h) (by decide)⟩;unfold Oper.wp;rw[←PO Hb Hd HL,hr,Oper.upon_enter];refine hc.mono ?_;intro x w' h;obtain⟨v,rfl,h1,h2⟩:=hq x w' h;obtain⟨d,h3⟩:=Option.isSome_iff_exists.1 hd;exact HK.out v w' (by rw[h3];exact h1) h2
theorem Vt {F:FuncId} {vs:Array Value} (ho:l[i]? =some o) (HK:Hid (Vi V R L i o a w K)) (Hb:Hid (VR l n a0 a)) (Hd:Hid (VM l n V R L a w)) (HL:Hid (Us l i L))
 (hc:Calls P F vs w fun e w'=>e= .returned v∧Below w.heap.size w w') (e:l[i]? =some o':=by rfl) (hd:o'.dst.isSome=true:=by rfl) (hv:EB V i=some v:=by rfl) (hw:OL l n i V o'=some true:=by kernel_rfl) (hr:(execOp (UZ l n i V a0 a) o').run P w= .ok (.enter F vs) w:=by kernel_rfl):Aa P l o a w K Q:=
 Vw ho HK Hb Hd HL hc (fun _ _ h=>⟨v,h.1,RF.of hv,h.2⟩) e hd hw hr
theorem Cl (H:Hid (Us l i L)) (k:Nat) (h:Region.waitsFor .any l.toArray k i=true:=by kernel_rfl):L k=false:=by
 cases hx:L k with
 |false=>rfl
 |true=>exact absurd (H.out.2.2 k i hx h) (by rw[H.out.1];decide)
theorem Cz {id:Nat} {w0:World} (n N:Nat) (S:Nat→Bool) (V:List Vx) (R:(Nat→Bool)→Nat→Value→World→Prop) (G:(Nat→Bool)→World→Prop)
 (hG:G (fun _=>false) {w0 with drawn:=w0.drawn+1})
 (hmono:∀j,j<n→∀L i v w w',i<n→S i=false→L i=false→L j=true→Below w.heap.size w w'→R L j v w→R (Gy L i) j v w')
 (hgrow:∀L i w w',i<n→S i=false→L i=false→Below w.heap.size w w'→G L w→G (Gy L i) w')
 (hstep:∀i,i<n→S i=false→∀o,l[i]? =some o→∀a w,Hid (VR l n a0 a)→∀L:Nat→Bool,Hid (VM l n V R L a w)→Hid (Us l i L)→G L w→∀K:Act→World→Prop,Hid (Vi V R L i o a w K)→Aa P l o a w K Q)
 (hspec:∀i,i<n→S i=true→∀o,l[i]? =some o→∀a w,Hid (VR l n a0 a)→∀L:Nat→Bool,Hid (VM l n V R L a w)→Hid (Us l i L)→G L w→
  ∀K:Act→World→Prop,Hid (∀v w',RF V R (Gy L i) i (match o.dst with|some _=>v|none=>undef) w'→G (Gy L i) w'→(∀j,j≠i→j<n→L j=true→RF V R L j (EH l a.tmps j) w→RF V R (Gy L i) j (EH l a.tmps j) w')→K (a.put o.dst v) w')→Aa P l o a w K Q)
 (htail:∀(vs:Nat→Value) w,∀L:Nat→Bool,(∀i,i<n→L i=true)→(∀i,i<n→RF V R L i (vs i) w)→G L w→wpList P l.toArray Q [] {a0 with tmps:=DS l (List.range n) vs a0.tmps} w)
 (hm:P.follows .mixedOrders=true:=by kernel_rfl) (hN:a0.tmps.size=N:=by rfl) (hB:SI l N=true:=by kernel_rfl) (hn:l.length=n:=by rfl):(Code.region id l.toArray true).wp P Q a0 w0:=
 M5 n hm N hN hB hn S (RF V R) G hG (fun j hj L i v w w' h1 h2 h3 h4 hb h=>RF.mono (hmono j hj L i v w w' h1 h2 h3 h4 hb) h) hgrow hstep hspec htail
end
def Pi (d:Int):ByteArray:=⟨#[UInt8.ofNat d.toNat]⟩
theorem Qs (d:Int):(Pi d).size=1:=rfl
theorem T5 (W:World) (d:Int) (h0:0≤d) (h1:d<256):
 (convert 104 9 (.slice (some ⟨W.heap.size,0,none⟩) 1 1)).run prog (W.alloc (.cells #[.int .u8 d] 5))= .ok (.string (Pi d)) (W.alloc (.cells #[.int .u8 d] 5)):=by
 refine run_convert_bytes_back (P:=prog) _ 104 9 5 ⟨W.heap.size,0,none⟩ 1 [UInt8.ofNat d.toNat] underlying104 underlying5 underlying9 ?_;intro j hj;obtain rfl:j=0:=by simpa using hj
 have e:((UInt8.ofNat d.toNat).toNat:Int)=d:=by simp;omega
 have hadd:(⟨W.heap.size,0,none⟩:Addr).add 0=⟨W.heap.size,0,none⟩:=rfl;rw[hadd,World.cell?_alloc_new]
 show some (Value.int .u8 d)=some (.int .u8 ((UInt8.ofNat d.toNat).toNat:Int))
 rw[e]
def MH (n:Nat):List UInt8:=if _h:n=0 then[] else MH (n/10)++[UInt8.ofNat (48+n%10)]
termination_by n
decreasing_by omega
theorem Pp {n:Nat} (h:0<n):MH n=MH (n/10)++[UInt8.ofNat (48+n%10)]:=by rw[MH,dif_neg (by omega)]
theorem Ky:MH 0=[]:=by rw[MH,dif_pos rfl]
theorem T7:∀(k n:Nat),n<10 ^ k→(MH n).length≤k:=by
 intro k
 induction k with
 |zero=>
  intro n h;obtain rfl:n=0:=by omega
  simp[Ky]
 |succ k ih=>
  intro n h
  rcases Nat.eq_zero_or_pos n with rfl|hn
  ·simp[Ky]
  ·rw[Pp hn]
   have:=ih (n/10) (by rw[Nat.pow_succ] at h;omega);simp;omega
def D6 (k:Int):ByteArray:=if k≤0 then⟨#[109,48]⟩ else⟨(109::MH k.toNat).toArray⟩
theorem GY (k:Int) (w:World) (h0:0≤k) (h1:k≤1099511627776):
 Calls prog 67 #[.int .i64 k] w fun e w'=>e= .returned (.string (D6 k))∧Below w.heap.size w w':=by
 by_cases hk:k=0
 ·subst hk
  have S:=AA (show(⟨#[109,48]⟩:ByteArray)=D6 0 by simp[D6]);go_in;go_wp2_with fail;go_ret;exact⟨by rw[←S.out];rfl,Below.refl _ _⟩
 have Hk:=AA (show(⟨(109::MH k.toNat).toArray⟩:ByteArray)=D6 k by simp[D6];omega);have hk0:0<k:=by omega
 clear hk h0;go_in;go_wp2_with fail;go_loopw [0,3] (fun i o wr=>∃n:Nat,∃s:List UInt8,i= .int .i64 n∧(n:Int)≤1099511627776∧o= .string ⟨s.toArray⟩∧MH n++s=MH k.toNat∧Below w.heap.size w wr) (fun i _ _=>(intOf i).toNat)
 case atStart=>exact⟨k.toNat,[],by rw[Int.toNat_of_nonneg (by omega)],by omega,rfl,by simp,Below.refl _ _⟩
 case round=>
  obtain⟨n,s,rfl,hn,rfl,hs,hbel⟩:=hrel;have hl:s.length≤20:=by have a1:=T7 20 k.toNat (by omega);rw[←hs,List.length_append] at a1;omega
  have Hs:=AA hs;clear hs
  by_cases hpos:0<n
  ·have hcv:=fun W=>T5 W (48+(n:Int)%10) (by omega) (by omega)
   have E:=AA (show(Pi (48+(n:Int)%10)++⟨s.toArray⟩:ByteArray)=⟨(UInt8.ofNat (48+n%10)::s).toArray⟩ by rw[Pi,ByteArray.mk_append_mk];rw[show(48+(n:Int)%10).toNat=48+n%10 by omega];simp)
   have hadd:=fun W=>run_string_add_sum (P:=prog) W (Pi (48+(n:Int)%10)) ⟨s.toArray⟩ (by rw[Qs];simp[ByteArray.size];omega)
   go_wp2_with fail;go_roundw
   case rel=>exact⟨n/10,UInt8.ofNat (48+n%10)::s,by go_num,by omega,by rw[E.out],by rw[←Hs.out,Pp hpos];simp,hbel.alloc hbel.size _⟩
   case measure=>simp[intOf];omega
  ·obtain rfl:n=0:=by omega
   have hadd:=fun W=>run_string_add_sum (P:=prog) W ⟨#[109]⟩ ⟨s.toArray⟩ (by simp[ByteArray.size];omega)
   have E:=AA (show((⟨#[109]⟩:ByteArray)++⟨s.toArray⟩:ByteArray)=D6 k by rw[←Hk.out,ByteArray.mk_append_mk];have:=Hs.out;rw[Ky,List.nil_append] at this;rw[this];simp)
   go_wp2_with fail;go_ret;exact⟨by rw[←E.out];rfl,hbel⟩
end Go.Proofs.YteocokgpmgfbaaaGreatDoor
