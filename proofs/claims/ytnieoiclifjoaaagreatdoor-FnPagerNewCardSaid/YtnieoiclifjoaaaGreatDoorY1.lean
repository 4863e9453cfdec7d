/-
  Packed:13 texts.
-/
import Derived.Lib.Strings
import Derived.Test.YtnieoiclifjoaaaGreatDoorRows
import Derived.WalkKit
import Derived.WalkSpells
import Derived.WalkLawsBesides
import Derived.Deep.QuietTactic
import Derived.BigQuiet
import Derived.Deep.LoopGhost
import Derived.Deep.RegionHeld3
import Derived.Lib.Hide
import Derived.Handy
import Derived.Laws.AppendOwnNone
import Derived.StillTailTactics
import Derived.Maps.AppendAt
set_option linter.unusedVariables false
set_option maxHeartbeats 16000000
set_option maxRecDepth 100000
namespace Go.Proofs.YtnieoiclifjoaaaGreatDoor
open Go.Proofs.Tryz
theorem So_.{u_} {α:Type u_} {a b:α} (h:some a=some b):a=b:=Option.some.inj h
theorem AA {p:Prop} (h:p):RowKit.Hid p:=h
theorem AD {P:Nat→Prop} {Q:∀i,P i→Prop} (H:RowKit.Hid (∀i (h:P i),Q i h)) (i:Nat) (h:P i:=by kernel_rfl):Q i h:=H i h
theorem Be {P R:Nat→Prop} {Q:∀i,P i→R i→Prop} {A C:Prop} {S:Nat→Prop} (H:RowKit.Hid (∀i (h:P i) (g:R i),Q i h g)) (L:RowKit.Hid (A∧(∀i,S i→P i)∧C)) (i:Nat) (h:S i:=by kernel_rfl) (g:R i:=by decide):Q i (L.2.1 i h) g:=H i (L.2.1 i h) g
theorem Aj {A B:Prop} {P:Nat→Prop} {Q:∀i,P i→Prop} (H:RowKit.Hid (A∧B∧∀i (h:P i),Q i h)) (i:Nat) (h:P i:=by decide):Q i h:=H.2.2 i h
theorem BI {P:Nat→Prop} {Q:∀i,P i→Prop} (H:∀i (h:P i),Q i h) (i:Nat) (h:P i:=by decide):Q i h:=H i h
structure AR where
 k:Int
 e:Int
 a:Int
 b:Int
 c:Int
 nm:ByteArray
structure AQ where
 k:Int
 g:ByteArray
 r:Int
 deriving DecidableEq
def AQ.zero:AQ:=⟨0,⟨#[]⟩,0⟩
structure Aa where
 e:Int
 p:Int
 f:Int
 w:Bool
 deriving DecidableEq
structure EM where
 rights:List ByteArray
 root:Int
 deriving DecidableEq
structure AN where
 mem:List (List Int)
 infos:List AQ
 envs:List EM
 cache:List Aa
 deriving DecidableEq
def Bk (n lo hi:Int):Bool:=decide (lo≤n)&&decide (n≤hi)
theorem AZ {n lo hi:Int}:Bk n lo hi=true↔lo≤n∧n≤hi:=by simp[Bk]
theorem Rc {n lo hi:Int}:Bk n lo hi=false↔n<lo∨hi<n:=by by_cases h1:lo≤n<;>by_cases h2:n≤hi<;>simp[Bk,h1,h2]<;>omega
def Ec (c:UInt8):Bool:=decide (97≤c.toNat)&&decide (c.toNat≤99)
def A4 (s:ByteArray):Bool:=s.data.toList.all Ec&&decide (s.size≤4)
def Bp (ss:List ByteArray) (k:Nat):ByteArray:=ss.getD k ⟨#[]⟩
theorem F8 {ss:List ByteArray} {k:Nat} (h:k<ss.length):ss[k]? =some (Bp ss k):=by simp[Bp,h]
def Kd (a b:ByteArray):Bool:=!Op.bytesLess a.toList b.toList
def Bx (ss:List ByteArray) (i:Nat):Bool:=A4 (Bp ss i)&&(decide (i=0)||!Kd (Bp ss (i - 1)) (Bp ss i))
def A2 (ss:List ByteArray):Bool:=(List.range ss.length).all (Bx ss)&&decide (ss.length≤6)
def LR (a b:ByteArray):Bool:=a.data.toList.isPrefixOf b.data.toList
def Ca (rights:List ByteArray) (g:ByteArray):Bool:=rights.any fun s=>LR s g
def E9 (n:Int):Bool:=Bk n 0 9999
def Ed (r:List Int):Bool:=r.all E9&&decide (r.length=4)
def Bg (m:List (List Int)):Bool:=m.all Ed&&decide (m.length=12)
def BX (w:Int):Bool:=decide (0<w)&&decide (w%2=1)&&decide (w<48)
def Ax (w:Int):Nat:=(w/4).toNat
def Iw (w:Int):Bool:=decide (w%4=3)
def AL (m:List (List Int)) (f:Nat):List Int:=m.getD f []
def Am (m:List (List Int)) (f i:Nat):Int:=(AL m f).getD i 0
def infoAt (l:List AQ) (f:Nat):AQ:=l.getD f AQ.zero
def AC (l:List EM) (f:Nat):EM:=l.getD f ⟨[],0⟩
def Cj (x:AQ):Bool:=decide (x=AQ.zero)||(Bk x.k 1 3&&A4 x.g&&Bk x.r 0 50)
def A0 (l:List AQ):Bool:=l.all Cj&&decide (l.length=12)
def named (r:List Int):List Nat:=(r.filter BX).map Ax
def Ba (k:Int):Bool:=decide (k=2)||decide (k=3)
def Qi (k:Int):Int:=if Ba k then k - 1 else 0
def Az (m:List (List Int)) (root:Int):List Nat:=
 if root<0 then[] else root.toNat::(named (AL m root.toNat)++(named (AL m root.toNat)).flatMap fun t=>named (AL m t))
def Aq (infos:List AQ) (fs:List Nat) (rights:List ByteArray):Bool:=fs.all fun f=>Ca rights (infoAt infos f).g
def Et (infos:List AQ) (f:Nat) (kind:Int) (rights:List ByteArray) (w:Int):Bool:=
 if BX w then decide (Ax w≠f)&&decide ((infoAt infos (Ax w)).k=kind - 1)&&Ca rights (infoAt infos (Ax w)).g else decide (w=0)
def Gv (m:List (List Int)) (infos:List AQ) (f:Nat) (kind:Int) (rights:List ByteArray):Bool:=(AL m f).all (Et infos f kind rights)
def countP (m:List (List Int)) (infos:List AQ) (g:Nat):Nat:=
 ((List.range 12).map fun t=>if Ba (infoAt infos t).k then(named (AL m t)).count g else 0).sum
def Dr (envs:List EM) (g:Nat):Nat:=envs.countP fun e=>decide (e.root=(g:Int))
def CZ (x:Aa):Bool:=Bk x.e 0 2&&Bk x.p 0 15&&Bk x.f 0 11
def A5 (e p:Int) (y:Aa):Bool:=decide (y.e=e)&&decide (y.p=p)
def FX (c:List Aa) (e p:Int):Int:=if c.any (A5 e p) then(c.findIdx (A5 e p):Nat) else -1
def Ac (c:List Aa) (i:Nat):Aa:=c.getD i ⟨0,0,0,false⟩
def EI (c:List Aa) (i:Nat):Bool:=CZ (Ac c i)&&!(c.take i).any (A5 (Ac c i).e (Ac c i).p)
def Bc (c:List Aa):Bool:=(List.range c.length).all (EI c)&&decide (c.length≤4)
def BV (m:List (List Int)) (root a:Nat):Int×Nat×Bool:=
 if BX (Am m root (a/16)) then
  if BX (Am m (Ax (Am m root (a/16))) (a/4%4)) then(0,Ax (Am m (Ax (Am m root (a/16))) (a/4%4)),Iw (Am m root (a/16))&&Iw (Am m (Ax (Am m root (a/16))) (a/4%4)))
  else(2,0,false)
 else(1,0,false)
def Fc (k:AN) (e:EM):Bool:=A2 e.rights&&(decide (e.root= -1)||(Bk e.root 0 11&&decide ((infoAt k.infos e.root.toNat).k=3)))&&Aq k.infos (Az k.mem e.root) e.rights
def LV (k:AN):Bool:=k.envs.all (Fc k)&&decide (k.envs.length=3)
def FE (k:AN) (f:Nat):Bool:=!Ba (infoAt k.infos f).k||Gv k.mem k.infos f (infoAt k.infos f).k [⟨#[]⟩]
def Im (k:AN) (f:Nat):Bool:=decide ((infoAt k.infos f).r=(countP k.mem k.infos f:Int)+(Dr k.envs f:Int))
def Dd (k:AN) (x:Aa):Bool:=decide (0≤(AC k.envs x.e.toNat).root)&&decide (BV k.mem (AC k.envs x.e.toNat).root.toNat (4*x.p.toNat)=(0,x.f.toNat,x.w))
def DU (k:AN):Bool:=Bg k.mem&&A0 k.infos&&Bc k.cache&&LV k&&(List.range 12).all (FE k)&&(List.range 12).all (Im k)&&k.cache.all (Dd k)
def AV {α:Type} (l:List α) (i:Nat) (f:α→α):List α:=match l[i]? with
 |some x=>l.set i (f x)
 |none=>l
def DK (n:Int) (x:AQ):AQ:= {x with r:=x.r+n}
def Aw (infos:List AQ) (fs:List Nat) (n:Int):List AQ:=fs.foldl (fun l g=>AV l g (DK n)) infos
def Cy (infos:List AQ):Int:=if infos.any (fun x=>decide (x.k=0)) then(infos.findIdx (fun x=>decide (x.k=0)):Nat) else -1
def Cu (kind:Int) (x:AQ):AQ:= {x with k:=kind}
def FU (m:List (List Int)) (infos:List AQ) (f:Nat) (kind:Int) (rights:List ByteArray):List AQ×Int:=
 if(infoAt infos f).k≠1∨(infoAt infos f).r≠0 then(infos,1)
 else if Gv m infos f kind rights=false then(infos,2)
 else if A0 (AV (Aw infos (named (AL m f)) 1) f (Cu kind)) then(AV (Aw infos (named (AL m f)) 1) f (Cu kind),0) else(infos,1)
def Cw (m:List (List Int)) (infos:List AQ) (f:Nat):List AQ×Int:=
 if Ba (infoAt infos f).k=false∨(infoAt infos f).r≠0 then(infos,1)
 else if A0 (AV (Aw infos (named (AL m f)) (-1)) f (Cu 1)) then(AV (Aw infos (named (AL m f)) (-1)) f (Cu 1),0) else(infos,2)
def Mg (ss:List ByteArray) (s:ByteArray):List ByteArray:=ss.takeWhile (fun x=>!Kd x s)++s::ss.dropWhile (fun x=>!Kd x s)
def A6 (ss:List ByteArray) (s:ByteArray):List ByteArray×Bool:=if ss.any (fun x=>decide (x=s)) then(ss,true) else if ss.length=6 then(ss,false) else(Mg ss s,true)
def BA (ss:List ByteArray) (s:ByteArray):List ByteArray:=ss.filter fun r=>!LR s r
def FM (c:List Aa) (x:Aa):List Aa:=
 (if(c.filter fun y=>!A5 x.e x.p y).length=4 then(c.filter fun y=>!A5 x.e x.p y).drop 1 else c.filter fun y=>!A5 x.e x.p y)++[x]
def Co (c:List Aa) (e:Int):List Aa:=c.filter fun y=>decide (y.e≠e)
def Ch (m:List (List Int)) (f i:Nat) (w:Int):List (List Int):=AV m f fun r=>r.set i w
def FJ (k:AN) (e:Int) (g:ByteArray):Bool:=Ca (AC k.envs e.toNat).rights g
abbrev LB:=AN×Int×Int
def Io (k:AN) (c:AR):LB:=
 if A4 c.nm=false then(k,0,3)
 else if FJ k c.e c.nm=false then(k,0,1)
 else if Cy k.infos<0 then(k,0,4)
 else({k with infos:=k.infos.set (Cy k.infos).toNat ⟨1,c.nm,0⟩,mem:=k.mem.set (Cy k.infos).toNat [0,0,0,0]},Cy k.infos,0)
def Kr (k:AN) (c:AR):LB:=
 if(infoAt k.infos c.a.toNat).k≠1 then(k,0,3)
 else if(infoAt k.infos c.a.toNat).r≠0 then(k,0,2)
 else({k with infos:=k.infos.set c.a.toNat AQ.zero},0,0)
def Kz (k:AN) (c:AR):LB:=
 if(infoAt k.infos c.a.toNat).k≠1∨Bk c.b 0 3=false∨E9 c.c=false then(k,0,3)
 else({k with mem:=Ch k.mem c.a.toNat c.b.toNat c.c},0,0)
def G0 (n:Int):Int:=if n=0 then 0 else if n=1 then 2 else 3
def DQ (k:AN) (r:List AQ×Int):LB:=if r.2=0 then({k with infos:=r.1},0,0) else(k,0,G0 r.2)
def DH (k:AN) (w:Int):List Nat:=if BX w then Ax w::(if Ba (infoAt k.infos (Ax w)).k then named (AL k.mem (Ax w)) else[]) else[]
def Eo (k:AN) (a:Nat):List Nat:=(List.range 3).filter fun e=>(Az k.mem (AC k.envs e).root).contains a
def A1 (infos:List AQ) (w:Int) (n:Int):List AQ:=if BX w then AV infos (Ax w) (DK n) else infos
def Dl (k:AN) (c:AR):Bool:=if BX c.c then decide ((infoAt k.infos (Ax c.c)).k=(infoAt k.infos c.a.toNat).k - 1) else decide (c.c=0)
def GC (k:AN) (c:AR):LB:=
 if Ba (infoAt k.infos c.a.toNat).k=false∨Bk c.b 0 3=false∨Dl k c=false then(k,0,3)
 else if(Eo k c.a.toNat).all (fun e=>Aq k.infos (DH k c.c) (AC k.envs e).rights)=false then(k,0,1)
 else if BX c.c=true∧FJ k c.e (infoAt k.infos (Ax c.c)).g=false then(k,0,1)
 else({k with mem:=Ch k.mem c.a.toNat c.b.toNat c.c,infos:=A1 (A1 k.infos (Am k.mem c.a.toNat c.b.toNat) (-1)) c.c 1,cache:=(Eo k c.a.toNat).foldl (fun c e=>Co c (e:Nat)) k.cache},0,0)
def Bu (n:Int) (e:EM):EM:= {e with root:=n}
def GI (k:AN) (c:AR):LB:=
 if c.a≠ -1∧(Bk c.a 0 11=false∨(infoAt k.infos c.a.toNat).k≠3) then(k,0,3)
 else if Aq k.infos (Az k.mem c.a) (AC k.envs c.e.toNat).rights=false then(k,0,1)
 else
  let i1:=if 0≤(AC k.envs c.e.toNat).root then AV k.infos (AC k.envs c.e.toNat).root.toNat (DK (-1)) else k.infos
  ({k with infos:=if 0≤c.a then AV i1 c.a.toNat (DK 1) else i1,envs:=AV k.envs c.e.toNat (Bu c.a),cache:=Co k.cache c.e},0,0)
def A9 (ss:List ByteArray) (e:EM):EM:= {e with rights:=ss}
def Ei (k:AN) (c:AR):LB:=
 if Bk c.a 0 2=false∨A4 c.nm=false then(k,0,3)
 else if FJ k c.e c.nm=false then(k,0,1)
 else if(A6 (AC k.envs c.a.toNat).rights c.nm).2=false then(k,0,4)
 else({k with envs:=AV k.envs c.a.toNat (A9 (A6 (AC k.envs c.a.toNat).rights c.nm).1)},0,0)
def Dc (k:AN) (c:AR):LB:=
 if Bk c.a 0 2=false∨c.a=c.e∨A4 c.nm=false then(k,0,3)
 else if FJ k c.e c.nm=false then(k,0,1)
 else if Aq k.infos (Az k.mem (AC k.envs c.a.toNat).root) (BA (AC k.envs c.a.toNat).rights c.nm)=false then(k,0,2)
 else({k with envs:=AV k.envs c.a.toNat (A9 (BA (AC k.envs c.a.toNat).rights c.nm))},0,0)
def IF (k:AN) (c:AR):LB:=
 let root:=(AC k.envs c.e.toNat).root
 if Bk c.a 0 63=false∨root<0∨(c.k=11∧E9 c.b=false) then(k,0,3)
 else
  let x:=BV k.mem root.toNat c.a.toNat
  if x.1≠0 then(k,0,3)
  else if c.k=11∧x.2.2=false then(k,0,1)
  else
   let cache:=if FX k.cache c.e (c.a/4)<0 then FM k.cache ⟨c.e,c.a/4,x.2.1,x.2.2⟩ else k.cache
   if c.k=11 then({k with mem:=Ch k.mem x.2.1 (c.a%4).toNat c.b,cache:=cache},0,0)
   else({k with cache:=cache},Am k.mem x.2.1 (c.a%4).toNat,0)
def Fs (k:AN) (c:AR):LB:=
 if Bk c.a 0 11=false∨(infoAt k.infos c.a.toNat).k=0∨(c.k=4∧Ba c.b=false) then(k,0,3)
 else if FJ k c.e (infoAt k.infos c.a.toNat).g=false then(k,0,1)
 else if c.k=2 then Kr k c
 else if c.k=3 then Kz k c
 else if c.k=4 then DQ k (FU k.mem k.infos c.a.toNat c.b (AC k.envs c.e.toNat).rights)
 else if c.k=5 then DQ k (Cw k.mem k.infos c.a.toNat)
 else GC k c
def AU (k:AN) (c:AR):LB:=
 if c.k=1 then Io k c
 else if Bk c.k 2 6 then Fs k c
 else if c.k=7 then GI k c
 else if c.k=8 then Ei k c
 else if c.k=9 then Dc k c
 else if c.k=10∨c.k=11 then IF k c
 else(k,0,3)
end Go.Proofs.YtnieoiclifjoaaaGreatDoor
namespace Go.Proofs.YtnieoiclifjoaaaGreatDoor
open Go.Proofs.Tryz
open Go.RowKit
def nth (xs:List Int) (k:Nat):Int:=xs.getD k 0
def Rd (w:World) (v:Value) (sz n:Nat) (xs:List Value):Prop:=
 ∃a cap,v= .slice a n cap∧n≤cap∧cap≤maxLen∧xs.length=n*sz∧(a=none→cap=0)∧
  (0<n→∃b off,a=some ⟨b,off,none⟩∧∀j,j<n*sz→w.cell? ⟨b,off+j,none⟩=xs[j]?)
theorem Rd.of_owns {w:World} {base e sz n:Nat} {v:Value} {xs:List Value} (h:w.ownsRow base e sz v n xs):Rd w v sz n xs:=by
 rcases h.2 with⟨rfl,rfl⟩|⟨g,cap,cur,rfl,hb,hg,hnc,hcm,hcs,htake⟩
 ·exact⟨none,0,rfl,Nat.le_refl _,by simp[maxLen],h.1,fun _=>rfl,fun h=>absurd h (Nat.lt_irrefl _)⟩
 ·refine⟨_,_,rfl,hnc,hcm,h.1,(fun h=>by cases h),fun _=>⟨g,0,rfl,fun j hj=>?_⟩⟩
  have:=h.cellAt j hj;simpa using this
theorem Rd.keep {w w':World} {sz n:Nat} {v:Value} {xs:List Value} (h:Rd w v sz n xs) (hk:∀k,k<w.heap.size→w'.heap[k]? =w.heap[k]?):Rd w' v sz n xs:=by
 obtain⟨a,cap,rfl,hnc,hcm,hl,hnil,hc⟩:=h;refine⟨a,cap,rfl,hnc,hcm,hl,hnil,fun hn=>?_⟩;obtain⟨b,off,rfl,hcell⟩:=hc hn;refine⟨b,off,rfl,fun j hj=>?_⟩;have h1:=hcell j hj;have hsome:∃u,xs[j]? =some u:=⟨xs[j]'(by omega),List.getElem?_eq_getElem (by omega)⟩
 obtain⟨u,hu⟩:=hsome;rw[hu] at h1 ⊢;have hlt:=World.block_lt_of_cell? w _ h1;exact(World.cell?_of_block (hk _ hlt)).trans h1
theorem Rd.below {w w':World} {sz n:Nat} {v:Value} {xs:List Value} (h:Rd w v sz n xs) (hb:Below w.heap.size w w'):Rd w' v sz n xs:=h.keep hb.block
theorem Rd.drewN {w:World} {sz n:Nat} {v:Value} {xs:List Value} (h:Rd w v sz n xs) (k:Nat):Rd (w.drewN k) v sz n xs:=h.keep (fun _ _=>rfl)
theorem Rd.alloc {w:World} {sz n:Nat} {v:Value} {xs:List Value} (h:Rd w v sz n xs) (o:Obj):Rd (w.alloc o) v sz n xs:=h.keep (fun k hk=>(World.grownBy_alloc w o none).block k hk (by simp))
def Ap (w:World) (v:Value) (xs:List Int):Prop:=Rd w v 1 xs.length (xs.map (Value.int .i64))
def G9 (w:World) (a:Option Addr) (xs:List Int):Prop:=
 ∀k,k<xs.length→∃b off,a=some ⟨b,off,none⟩∧∀j,j<xs.length→w.cell? ⟨b,off+j,none⟩=some (.int .i64 (nth xs j))
theorem NB {xs:List Int} {k:Nat} (h:k<xs.length):xs[k]? =some (nth xs k):=by simp[nth,h]
theorem Lc {xs:List Int} {k:Nat} (h:k<xs.length):nth xs k=xs[k]:=by simp[nth,h]
theorem Ap.open {w:World} {v:Value} {xs:List Int} (h:Ap w v xs):
 ∃a cap,v= .slice a xs.length cap∧xs.length≤cap∧cap≤maxLen∧G9 w a xs:=by
 obtain⟨a,cap,rfl,hnc,hcm,hl,_,hc⟩:=h;refine⟨a,cap,rfl,hnc,hcm,fun k hk=>?_⟩;obtain⟨b,off,rfl,hcell⟩:=hc (by omega);refine⟨b,off,rfl,fun j hj=>?_⟩;rw[hcell j (by omega),List.getElem?_map,NB hj];rfl
theorem G9.at {w:World} {a:Option Addr} {xs:List Int} (h:G9 w a xs) {k:Nat} (hk:k<xs.length):
 ∃b off,a=some ⟨b,off,none⟩∧w.cell? ⟨b,off+k,none⟩=some (.int .i64 (nth xs k)):=by
 obtain⟨b,off,rfl,hc⟩:=h k hk;exact⟨b,off,rfl,hc k hk⟩
theorem G9.keep {w w':World} {a:Option Addr} {xs:List Int} (h:G9 w a xs) (hk:∀k,k<w.heap.size→w'.heap[k]? =w.heap[k]?):G9 w' a xs:=by
 intro k hk';obtain⟨b,off,rfl,hc⟩:=h k hk';exact⟨b,off,rfl,fun j hj=>(World.cell?_of_block (hk _ (World.block_lt_of_cell? w _ (hc j hj)))).trans (hc j hj)⟩
theorem G9.below {w w':World} {a:Option Addr} {xs:List Int} (h:G9 w a xs) (hb:Below w.heap.size w w'):G9 w' a xs:=h.keep hb.block
theorem Ap.below {w w':World} {v:Value} {xs:List Int} (h:Ap w v xs) (hb:Below w.heap.size w w'):Ap w' v xs:=Rd.below h hb
theorem Ap.drewN {w:World} {v:Value} {xs:List Int} (h:Ap w v xs) (k:Nat):Ap (w.drewN k) v xs:=Rd.drewN h k
theorem Ap.keep {w w':World} {v:Value} {xs:List Int} (h:Ap w v xs) (hk:∀k,k<w.heap.size→w'.heap[k]? =w.heap[k]?):Ap w' v xs:=Rd.keep h hk
theorem Ap.alloc {w:World} {v:Value} {xs:List Int} (h:Ap w v xs) (o:Obj):Ap (w.alloc o) v xs:=Rd.alloc h o
def AE (lo:Nat) (w:World) (v:Value) (xs:List Int):Prop:=w.ownsRow lo 3 1 v xs.length (xs.map (Value.int .i64))
theorem AE.rd {lo:Nat} {w:World} {v:Value} {xs:List Int} (h:AE lo w v xs):Ap w v xs:=Rd.of_owns h
theorem AK {a b:Bool} (h:a=b):Ending.returned (.bool a)= .returned (.bool b):=by rw[h]
theorem Bd {a b:Int} (h:a=b):Ending.returned (.int .i64 a)= .returned (.int .i64 b):=by rw[h]
theorem JX (w:World) (a b:Nat):(w.drewN a).drewN b=w.drewN (a+b):=by simp[World.drewN,Nat.add_assoc]
theorem UW (w:World) (a:Nat):∃n,w.drewN a=w.drewN n:=⟨a,rfl⟩
theorem UX (w:World) (a b:Nat):∃n,(w.drewN a).drewN b=w.drewN n:=⟨a+b,JX w a b⟩
theorem Ar {B:Nat} {a w:World} (h:Below B a w) (n:Nat):Below B a (w.drewN n):=⟨h.os,h.tape,h.output,h.size,h.block⟩
def FR (w:World) (v:Value) (bs:List Int):Prop:=Rd w v 1 bs.length (bs.map (Value.int .u8))∧∀b∈bs,0≤b∧b<256
theorem Od (k:IntKind) {w:World} {a:Option Addr} {len cap:Nat} {zs:List Int}
 (h:(a=none∧len=0∧cap=0∧zs=[])∨∃x,a=some x∧len≤cap∧cap≤maxLen∧zs.length=cap∧(∀i,i<zs.length→w.cell? (x.add i)=some (.int k (zs.getD i 0)))∧∀n∈zs,(Lit.int k n).wf=true):
 Rd w (.slice a len cap) 1 (zs.take len).length ((zs.take len).map (Value.int k))∧∀n∈zs.take len,(Lit.int k n).wf=true:=by
 rcases h with⟨rfl,rfl,rfl,rfl⟩|⟨x,rfl,hlc,hcm,hz,hc,hwf⟩
 ·exact⟨⟨none,0,by simp,by simp,by simp[maxLen],by simp,fun _=>rfl,by simp⟩,by simp⟩
 ·have hl:(zs.take len).length=len:=by rw[List.length_take];omega
  refine⟨⟨some x,cap,by rw[hl],by omega,hcm,by simp,(fun h=>by cases h),fun hn=>?_⟩,fun n hn=>hwf n (List.mem_of_mem_take hn)⟩;rw[hl] at hn ⊢;have h0:=hc 0 (by omega);obtain⟨b,off,spot⟩:=x;cases spot with
  |some q=>simp[Addr.add,World.cell?] at h0;split at h0<;>simp_all
  |none=>
   refine⟨b,off,rfl,fun j hj=>?_⟩;have hj':=hc j (by omega);have hadd:(⟨b,off,none⟩:Addr).add j=⟨b,off+j,none⟩:=by unfold Addr.add;split<;>simp_all
   rw[hadd] at hj';rw[hj',List.getElem?_map,List.getElem?_take,if_pos (by omega)];simp[List.getElem?_eq_getElem (show j<zs.length by omega)]
theorem Jf {w:World} {a:Option Addr} {len cap:Nat} {zs:List Int}
 (h:(a=none∧len=0∧cap=0∧zs=[])∨∃x,a=some x∧len≤cap∧cap≤maxLen∧zs.length=cap∧(∀i,i<zs.length→w.cell? (x.add i)=some (.int .u8 (zs.getD i 0)))∧∀n∈zs,(Lit.int .u8 n).wf=true):
 FR w (.slice a len cap) (zs.take len):=by
 refine⟨(Od .u8 h).1,fun b hb=>?_⟩;have:=(Od .u8 h).2 b hb;simp only[Lit.wf,Bool.and_eq_true,decide_eq_true_eq] at this;have h1:IntKind.min .u8=0:=by decide
 have h2:IntKind.max .u8=255:=by decide
 omega
theorem DV (n lo hi:Int) (w:World):
 Calls prog 44 #[.int .i64 n, .int .i64 lo, .int .i64 hi] w fun e w'=>e= .returned (.bool (Bk n lo hi))∧w=w':=by
 by_cases h1:lo≤n
 ·have e1:Bk n lo hi=decide (n≤hi):=by simp[Bk,h1]
  have H:=AA e1;clear e1;go_in;go_wp2;go_ret;exact⟨AK H.out.symm,rfl⟩
 ·have e1:Bk n lo hi=false:=by simp[Bk,h1]
  have H:=AA e1;clear e1;go_in;go_wp2;go_ret;exact⟨AK H.out.symm,rfl⟩
theorem Cs (n lo hi:Int) (w:World):
 Calls prog 39 #[.int .i64 n, .int .i64 lo, .int .i64 hi] w fun e w'=>e= .returned (.bool (Bk n lo hi))∧w=w':=by
 by_cases h1:lo≤n
 ·have e1:Bk n lo hi=decide (n≤hi):=by simp[Bk,h1]
  have H:=AA e1;clear e1;go_in;go_wp2;go_ret;exact⟨AK H.out.symm,rfl⟩
 ·have e1:Bk n lo hi=false:=by simp[Bk,h1]
  have H:=AA e1;clear e1;go_in;go_wp2;go_ret;exact⟨AK H.out.symm,rfl⟩
theorem LZ (n:Int) (w:World):
 Calls prog 233 #[.int .i64 n] w fun e w'=>e= .returned (.bool (Bk n 0 2))∧w=w':=by
 go_in;go_wp2_with (go_at_call 39;refine(Cs _ _ _ _).mono ?_;rintro e w' ⟨rfl,rfl⟩);go_ret;exact⟨rfl,rfl⟩
def findIdx (p:Int→Bool) (xs:List Int):Int:=if xs.any p then(xs.findIdx p:Int) else -1
theorem PK {p:Int→Bool} {xs:List Int} (h:∀j,j<xs.length→p (nth xs j)=false):findIdx p xs= -1:=by
 unfold findIdx;have:xs.any p=false:=by rw[List.any_eq_false];intro x hx;obtain⟨j,hj,rfl⟩:=List.getElem_of_mem hx;have:=h j hj;rw[Lc hj] at this;simp[this]
 simp[this]
theorem RW {p:Int→Bool} {xs:List Int} {k:Nat} (hk:k<xs.length) (h:∀j,j<k→p (nth xs j)=false) (hp:p (nth xs k)=true):findIdx p xs=k:=by
 unfold findIdx;rw[Lc hk] at hp;have h1:xs.any p=true:=List.any_eq_true.2 ⟨xs[k],List.getElem_mem hk,hp⟩;have h2:xs.findIdx p=k:=by
  rw[List.findIdx_eq hk];refine⟨hp,fun j hj=>?_⟩;have:=h j hj
  rwa [Lc (by omega)] at this
 simp[h1,h2]
theorem RX {p:Int→Bool} {xs:List Int}:decide (0≤findIdx p xs)=xs.any p:=by unfold findIdx;cases xs.any p<;>simp
theorem Ng (F:Nat) (caps:Array Value) (p:Int→Bool) (v:Value) (xs:List Int) (w:World) (h:Ap w v xs)
 (hF:∀args w,(callFunc F args).run prog w= .ok (.enter F args) w) (hf:∀x w,Calls prog F (#[.int .i64 x]++caps) w fun e w'=>e= .returned (.bool (p x))∧w=w'):
 Calls prog 236 #[v, .func (.func F) #[] caps] w fun e w'=>e= .returned (.int .i64 (findIdx p xs))∧w=w':=by
 obtain⟨a,c,rfl,hc,hcm,H⟩:=h.open;clear h;unfold maxLen at hcm;have Hf:=AA hf;clear hf;go_in;go_wp2;go_loop [8] (fun i=>∃k:Nat,k≤xs.length∧i= .int .i64 k∧∀j,j<k→p (nth xs j)=false) (fun i=>xs.length - (intOf i).toNat)
 case atStart=>exact⟨0,Nat.zero_le _,rfl,fun j hj=>absurd hj (Nat.not_lt_zero _)⟩
 case round=>
  obtain⟨k,hk,rfl,hpre⟩:=hrel;have Hpre:=AA hpre;clear hpre
  by_cases hlt:k<xs.length
  ·obtain⟨b,off,rfl,D⟩:=H.at hlt
   clear H;cases hp:p (nth xs k)
   ·have Hp:=AA hp;clear hp
    go_wp2_with (refine(Hf.out _ _).mono ?_;rintro e w' ⟨rfl,rfl⟩;rw[Hp.out]);go_round
    case rel=>exact⟨k+1,by omega,by go_num,fun j hj=>by
     rcases Nat.lt_succ_iff_lt_or_eq.1 hj with h|h
     ·exact Hpre.out j h
     ·subst h;exact Hp.out⟩
    case measure=>simp[intOf];omega
   ·have Hp:=AA hp;clear hp
    have hres:=AA (RW (p:=p) hlt Hpre.out Hp.out);go_wp2_with (refine(Hf.out _ _).mono ?_;rintro e w' ⟨rfl,rfl⟩;rw[Hp.out]);go_ret;exact⟨Bd hres.out.symm,rfl⟩
  ·have hres:=AA (PK (p:=p) (xs:=xs) (fun j hj=>Hpre.out j (by omega)))
   go_wp2;go_ret;exact⟨Bd hres.out.symm,rfl⟩
theorem LG (F:Nat) (caps:Array Value) (p:Int→Bool) (v:Value) (xs:List Int) (w:World) (h:Ap w v xs)
 (hF:∀args w,(callFunc F args).run prog w= .ok (.enter F args) w) (hf:∀x w,Calls prog F (#[.int .i64 x]++caps) w fun e w'=>e= .returned (.bool (p x))∧w=w'):
 Calls prog 176 #[v, .func (.func F) #[] caps] w fun e w'=>e= .returned (.bool (xs.any p))∧w=w':=by
 have Hf:=AA hf;clear hf;go_in;go_wp2_with (go_at_call 236;refine(Ng F caps p v xs _ h hF Hf.out).mono ?_;rintro e w' ⟨rfl,rfl⟩);go_ret;exact⟨AK RX,rfl⟩
theorem Ay {p:Nat→Prop} {k:Nat} (h:∀j,j<k→p j) (hk:p k):∀j,j<k+1→p j:=fun j hj=>by
 rcases Nat.lt_succ_iff_lt_or_eq.1 hj with h'|h'
 ·exact h j h'
 ·subst h';exact hk
theorem Tryz.infoInt:(prog.info? 3).map (fun i=>(i.zero,i.size,i.bytes))=some (some (.int .i64 0),1,8):=by kernel_rfl
theorem AE.below {lo:Nat} {w w':World} {v:Value} {xs:List Int} (h:AE lo w v xs) (hb:Below w.heap.size w w'):AE lo w' v xs:=by
 refine World.ownsRow.kept (row:=none) h ⟨hb.os,hb.tape,hb.output,hb.size,fun k hk _=>hb.block k hk⟩ ?_;cases v.ownBlock<;>simp
theorem Bw {lo:Nat} {w w':World} {v:Value} {e sz n:Nat} {xs:List Value} (h:w.ownsRow lo e sz v n xs) (hb:Below w.heap.size w w'):w'.ownsRow lo e sz v n xs:=by
 refine World.ownsRow.kept (row:=none) h ⟨hb.os,hb.tape,hb.output,hb.size,fun k hk _=>hb.block k hk⟩ ?_;cases v.ownBlock<;>simp
theorem Below.of_grown {w w':World} (h:w.grownBy w' none):Below w.heap.size w w':=⟨h.os,h.tape,h.output,h.size,fun k hk=>h.block k hk (by simp)⟩
theorem Kt (z:Value) (hz:z.cells= #[z]) (n:Nat):(madeCells z.cells (n*1)).toList=List.replicate n z:=by rw[hz,Nat.mul_one,toList_madeCells_one]
theorem Pw {w:World} {ops:Array Oper} {rest:List Oper} {o:Oper} {a:Act} {Q:Exit→Act→World→Prop} {l:Operand} {t:TypeId} {n:Nat}
 (hg:o.guard=none) (hop:o.op=Op.makeSlice t l l) (e:TypeId) (z:Value) (bytes:Nat) (h1:prog.underlying t=some (.slice e))
 (h2:(prog.info? e).map (fun i=>(i.zero,i.size,i.bytes))=some (some z,1,bytes)) (hz:z.cells= #[z])
 (hl:a.eval l= .int .i64 n) (b2:bytes*n≤281474976710656) (b3:n≤maxLen)
 (hK:∀w',w'.ownsRow w.heap.size e 1 (.slice (some ⟨w.heap.size,0,none⟩) n n) n (List.replicate n z)→Below w.heap.size w w'→w.heap.size<w'.heap.size→
  wpList prog ops Q rest (a.put o.dst (.slice (some ⟨w.heap.size,0,none⟩) n n)) w'):wpList prog ops Q (o::rest) a w:=by
 obtain⟨i0,hi,hz0,hz1,hz2⟩:=info_parts h2;refine wpList_make_full w hg l l t hop w.heap.size e i0 z 1 h1 hi hz0 hz1 .i64 .i64 n n n hl hl rfl rfl (by rw[hz2];exact b2) b3 (Nat.le_refl _) fun w' h h'=>?_
 rw[Kt z hz] at h;exact hK w' h (Below.of_grown h') (h.lt _ rfl).2
theorem LW {xs ys:List Int} (hl:xs.length=ys.length) (h:∀j,j<xs.length→nth xs j=nth ys j):xs=ys:=by
 refine List.ext_getElem hl fun j h1 h2=>?_
 have:=h j h1
 rwa [Lc h1,Lc h2] at this
theorem Th {xs ys:List Int} {k:Nat} (h:nth xs k≠nth ys k):decide (xs=ys)=false:=by simp only[decide_eq_false_iff_not];rintro rfl;exact h rfl
theorem Tg {xs ys:List Int} (h:xs.length≠ys.length):decide (xs=ys)=false:=by simp only[decide_eq_false_iff_not];rintro rfl;exact h rfl
theorem Pj (v1 v2:Value) (xs ys:List Int) (w:World) (h1:Ap w v1 xs) (h2:Ap w v2 ys):
 Calls prog 29 #[v1,v2] w fun e w'=>e= .returned (.bool (decide (xs=ys)))∧∃n,w'=w.drewN n:=by
 obtain⟨a1,c1,rfl,hc1,hcm1,H1⟩:=h1.open;obtain⟨a2,c2,rfl,hc2,hcm2,H2⟩:=h2.open;clear h1 h2;unfold maxLen at hcm1 hcm2
 by_cases hlen:(xs.length:Int)=ys.length
 ·have hb:((xs.length:Int) !=ys.length)=false:=by simp[hlen]
  have hlen':xs.length≤ys.length∧ys.length≤xs.length:=by omega
  clear hlen;go_in;go_wp2;go_loopw [5] (fun i wr=>∃k:Nat,k≤xs.length∧i= .int .i64 k∧(∀j,j<k→nth xs j=nth ys j)∧∃n,wr=w.drewN n) (fun i _=>xs.length - (intOf i).toNat)
  case atStart=>exact⟨0,Nat.zero_le _,rfl,fun j hj=>absurd hj (Nat.not_lt_zero _),0,rfl⟩
  case round=>
   obtain⟨k,hk,rfl,hpre,n,rfl⟩:=hrel;have Hpre:=AA hpre;clear hpre
   by_cases hlt:k<xs.length
   ·obtain⟨b1,o1,rfl,D1⟩:=H1.at hlt
    have hlt2:k<ys.length:=by omega
    obtain⟨b2,o2,rfl,D2⟩:=H2.at hlt2;clear H1 H2
    by_cases he:nth xs k=nth ys k
    ·have he':(nth xs k !=nth ys k)=false:=by simp[he]
     have He:=AA he;clear he;go_wp2;go_quiet (fail);go_wp2;go_roundw
     case rel=>exact⟨k+1,by omega,by go_num,Ay Hpre.out He.out,_,rfl⟩
     case measure=>simp[intOf];omega
    ·have he':(nth xs k !=nth ys k)=true:=by simp[he]
     have Hres:=AA (Th he);clear he;go_wp2;go_quiet (fail);go_wp2;go_ret
     first|exact⟨AK Hres.out.symm,UX _ _ _⟩|exact⟨AK Hres.out.symm,UW _ _⟩
   ·have Hres:=AA (LW (xs:=xs) (ys:=ys) (by omega) (fun j hj=>Hpre.out j (by omega)))
    go_wp2;go_ret;exact⟨AK (by simp[Hres.out]),_,rfl⟩
 ·have hb:((xs.length:Int) !=ys.length)=true:=by simp[hlen]
  have Hres:=AA (Tg (xs:=xs) (ys:=ys) (by omega));clear hlen;go_in;go_wp2;go_ret;exact⟨AK Hres.out.symm,0,rfl⟩
theorem DO {lo:Nat} {w:World} {ops:Array Oper} {rest:List Oper} {o:Oper} {a:Act} {Q:Exit→Act→World→Prop} {s x:Operand} {t:TypeId}
 (hgd:o.guard=none) (ho:o.op= .call {callee:= .builtin .append,args:= #[s,x],argTypes:= #[t,t]})
 (e:TypeId) (z:Value) (sz bytes:Nat) (ht:prog.underlying t=some (.slice e)) (hi:(prog.info? e).map (fun i=>(i.zero,i.size,i.bytes))=some (some z,sz,bytes))
 (hzs:z.cells.size=sz) (hsz:0<sz) {v u:Value} {n m:Nat} {xs news:List Value} (hs:a.eval s=v) (hown:w.ownsRow lo e sz v n xs)
 (hx:a.eval x=u) (hr:Rd w u sz m news) (h1:∀u∈news,u.oneCell'=true) (h63:n+m≤maxLen) (hbytes:(n+m)*bytes≤140737488355328) (hlo:lo≤w.heap.size)
 (hK:∀v' w',w'.ownsRow lo e sz v' (n+m) (xs++news)→w.grownBy w' v.ownBlock→Below lo w w'→wpList prog ops Q rest (a.put o.dst v') w'):wpList prog ops Q (o::rest) a w:=by
 obtain⟨i0,hi0,hz0,hz1,hz2⟩:=info_parts hi;obtain⟨ao,c,rfl,hmc,hcm,hl,hnil,hc⟩:=hr;have hbel:∀w',w.grownBy w' v.ownBlock→Below lo w w':=fun w' hg=>(Below.refl lo w).grown hg hlo (fun k hk=>(hown.lt k hk).1)
 cases ao with
 |none=>
  have hc0:=hnil rfl;subst hc0;obtain rfl:m=0:=by omega
  have hnews:news=[]:=List.eq_nil_of_length_eq_zero (by simpa using hl);subst hnews;refine wpList_append_own_none hgd s x t ho lo e i0 sz ht hi0 v n xs hs hown hx ?_;exact hK v w (by simpa using hown) ⟨rfl,rfl,rfl,Nat.le_refl _,fun _ _ _=>rfl⟩ (Below.refl _ _)
 |some ad=>
  refine wpList_append_own w hgd s x t ho lo e i0 z sz bytes ht hi0 hz0 hz1 hz2 hzs hsz v n xs hs hown ad m c news hx hl ?_ h1 h63 hbytes hlo (fun v' w' h2 h3 _=>hK v' w' h2 h3 (hbel w' h3));intro j u hu
  rcases Nat.eq_zero_or_pos m with rfl|hm
  ·simp at hl
   simp[hl] at hu
  ·obtain⟨b,off,had,hcell⟩:=hc hm
   obtain rfl:ad=⟨b,off,none⟩:=by simpa using had
   have hj:j<news.length:=(List.getElem?_eq_some_iff.1 hu).1;have hadd:(⟨b,off,none⟩:Addr).add j=⟨b,off+j,none⟩:=by unfold Addr.add;split<;>simp_all
   rw[hadd,hcell j (by omega),hu]
theorem Rd.news (w:World) (cs:Array Value) (e:TypeId) (sz n:Nat) (hs:cs.size=n*sz) (hn:n≤maxLen):Rd (w.alloc (.cells cs e)) (.slice (some ⟨w.heap.size,0,none⟩) n n) sz n cs.toList:=
 Rd.of_owns (World.ownsRow_lit (base:=w.heap.size) w cs n (Nat.le_refl _) hn hs)
theorem If {xs:List Int}:∀u∈xs.map (Value.int .i64),u.oneCell'=true:=by intro u hu;obtain⟨x,_,rfl⟩:=List.mem_map.1 hu;rfl
theorem Cb (w:World) (e sz:Nat):(w.alloc (.cells #[] e)).ownsRow w.heap.size e sz (.slice (some ⟨w.heap.size,0,none⟩) 0 0) 0 []:=
 World.ownsRow_made w #[] 0 (Nat.le_refl _) (by simp[maxLen]) (by simp)
theorem IU (v:Value) (xs:List Int) (w:World) (h:Ap w v xs) (hs:xs.length≤1048576):
 Calls prog 97 #[v] w fun e w'=>∃v',e= .returned v'∧AE w.heap.size w' v' xs∧Below w.heap.size w w':=by
 have h':=h;obtain⟨a,c,rfl,hnc,hcm,hl,hnil,hc⟩:=h';have hq:=fun w=>Lib.run_eql_slice_nil (P:=prog) w 30 3 a xs.length c 0 0 underlying30
 cases a with
 |none=>have hc0:=hnil rfl;subst hc0;have h0:xs=[]:=List.eq_nil_of_length_eq_zero (by omega);subst h0;simp only[List.length_nil] at hq;go_in;go_wp2;go_ret;exact⟨_,rfl,World.ownsRow_nil _ _ _ _,Below.refl _ _⟩
 |some ad=>clear hc hnil;go_in;go_wp2_with (refine DO (lo:=w.heap.size) (v:= .slice (some ⟨w.heap.size,0,none⟩) 0 0) (n:=0) (xs:=[]) (m:=xs.length) (news:=xs.map (Value.int .i64)) rfl rfl 3 (.int .i64 0) 1 8 underlying30 Tryz.infoInt rfl (by decide) rfl (Cb _ _ _) rfl (h.alloc _) If (by unfold maxLen;omega) (by omega) (by simp) ?_;intro v' w' hown _ hbel);go_ret;refine⟨_,rfl,by simpa[AE] using hown,((Below.refl _ _).alloc (Nat.le_refl _) _).trans hbel⟩
theorem Jx {w:World} {lo e sz n:Nat} {v:Value} {xs:List Value} (h:w.ownsRow lo e sz v n xs) (hn:0<n):∃g cap,v= .slice (some ⟨g,0,none⟩) n cap∧lo≤g∧g<w.heap.size:=by
 have hlt:=h.lt
 rcases h.2 with⟨_,rfl⟩|⟨g,cap,cur,rfl,hb,hg,_⟩
 ·omega
 ·exact⟨g,cap,rfl,hb,(hlt g rfl).2⟩
theorem Iz {xs:List Int} {a:Nat} (h:a<xs.length):(xs.map (Value.int .i64))[a]? =some (.int .i64 (nth xs a)):=by rw[List.getElem?_map,NB h];rfl
theorem VU {lo:Nat} {w:World} {v:Value} {xs:List Int} {a:Nat} {x:Int} (h:w.ownsRow lo 3 1 v xs.length ((xs.map (Value.int .i64)).set a (.int .i64 x))):AE lo w v (xs.set a x):=by unfold AE;rw[List.length_set,List.map_set];exact h
theorem Sk {xs:List Int} {a j:Nat} {x:Int} (ha:a<xs.length):nth (xs.set a x) j=if j=a then x else nth xs j:=by
 unfold nth;rw[List.getD_eq_getElem?_getD,List.getD_eq_getElem?_getD,List.getElem?_set]
 by_cases h:a=j
 ·subst h;simp[ha]
 ·have h':j≠a:=fun e=>h e.symm
  simp[h,h']
def lenOf:Value→Nat| .slice _ n _=>n|_=>0
def Bj {α:Type} (cs:α→List Value) (xs:List α):List Value:=xs.flatMap cs
theorem G6 {α:Type} (cs:α→List Value) (x:α) (xs:List α):Bj cs (x::xs)=cs x++Bj cs xs:=rfl
theorem BS {α:Type} (cs:α→List Value) (xs ys:List α):Bj cs (xs++ys)=Bj cs xs++Bj cs ys:=List.flatMap_append
theorem EO {α:Type} (cs:α→List Value) (x:α):Bj cs [x]=cs x:=by simp[Bj]
theorem Gc {α:Type} {cs:α→List Value} {sz:Nat} (hs:∀x,(cs x).length=sz) (xs:List α):(Bj cs xs).length=xs.length*sz:=by
 induction xs with
 |nil=>simp[Bj]
 |cons x xs ih=>rw[G6,List.length_append,hs,ih,List.length_cons,Nat.succ_mul];omega
theorem MM {α:Type} {cs:α→List Value} {sz:Nat} (hs:∀x,(cs x).length=sz) {xs:List α} {k:Nat} {x:α} (h:xs[k]? =some x) {j:Nat} (hj:j<sz):(Bj cs xs)[k*sz+j]? =(cs x)[j]? :=by
 induction xs generalizing k with
 |nil=>simp at h
 |cons y ys ih=>
  cases k with
  |zero=>simp only[List.getElem?_cons_zero,Option.some.injEq] at h;subst h;rw[G6,List.getElem?_append_left (by rw[hs];omega)];simp
  |succ k=>
   rw[List.getElem?_cons_succ] at h;rw[G6,List.getElem?_append_right (by rw[hs,Nat.succ_mul];omega),hs,←ih h]
   congr 1
   rw[Nat.succ_mul];omega
def Px {α:Type} (sz:Nat) (cs:α→List Value) (w:World) (a:Option Addr) (xs:List α):Prop:=
 ∀(k:Nat) x,xs[k]? =some x→∃b off,a=some ⟨b,off,none⟩∧b<w.heap.size∧∀(j:Nat) u,(cs x)[j]? =some u→w.cell? ⟨b,off+k*sz+j,none⟩=some u
theorem Px.below {α:Type} {sz:Nat} {cs:α→List Value} {w w':World} {a:Option Addr} {xs:List α} (h:Px sz cs w a xs) (hb:Below w.heap.size w w'):Px sz cs w' a xs:=by
 intro k x hk;obtain⟨b,off,rfl,hlt,hc⟩:=h k x hk;exact⟨b,off,rfl,Nat.lt_of_lt_of_le hlt hb.size,fun j u hu=>(hb.cell (p:=⟨b,off+k*sz+j,none⟩) hlt).trans (hc j u hu)⟩
theorem Px.of {α:Type} {sz:Nat} {cs:α→List Value} (hs:∀x,(cs x).length=sz) (hsz:0<sz) {w:World} {a:Option Addr} {n c:Nat} {xs:List α} (h:Rd w (.slice a n c) sz xs.length (Bj cs xs)):Px sz cs w a xs:=by
 obtain⟨a',cap,hv,hnc,hcm,hl,_,hc⟩:=h;simp only[Value.slice.injEq] at hv;obtain⟨rfl,rfl,rfl⟩:=hv;intro k x hk;have hlt:=(List.getElem?_eq_some_iff.1 hk).1;obtain⟨b,off,rfl,hcell⟩:=hc (by omega);have key:∀(j:Nat) u,(cs x)[j]? =some u→w.cell? ⟨b,off+k*sz+j,none⟩=some u:=by
  intro j u hu;have hj:j<sz:=by rw[←hs x];exact(List.getElem?_eq_some_iff.1 hu).1
  have hm:k*sz+sz≤xs.length*sz:=by rw[←Nat.succ_mul];exact Nat.mul_le_mul_right _ hlt
  rw[Nat.add_assoc,hcell (k*sz+j) (by omega),MM hs hk hj,hu]
 refine⟨b,off,rfl,?_,key⟩;have h0:(cs x)[0]? =some ((cs x)[0]'(by rw[hs];omega)):=List.getElem?_eq_getElem _;exact World.block_lt_of_cell? w _ (key 0 _ h0)
theorem Rd.shape {w:World} {v:Value} {sz n:Nat} {xs:List Value} (h:Rd w v sz n xs):∃a cap,v= .slice a n cap∧n≤cap∧cap≤maxLen:=by obtain⟨a,cap,rfl,hnc,hcm,_⟩:=h;exact⟨a,cap,rfl,hnc,hcm⟩
theorem VB {w:World} {ops:Array Oper} {rest:List Oper} {o:Oper} {a:Act} {Q:Exit→Act→World→Prop} {l:Operand} {t:TypeId} {n:Nat}
 (hg:o.guard=none) (hop:o.op=Op.makeSlice t l l) (e:TypeId) (z:Value) (sz bytes:Nat) (h1:prog.underlying t=some (.slice e))
 (h2:(prog.info? e).map (fun i=>(i.zero,i.size,i.bytes))=some (some z,sz,bytes))
 (hl:a.eval l= .int .i64 n) (b2:bytes*n≤281474976710656) (b3:n≤maxLen)
 (hK:∀w',w'.ownsRow w.heap.size e sz (.slice (some ⟨w.heap.size,0,none⟩) n n) n (madeCells z.cells (n*sz)).toList→Below w.heap.size w w'→w.heap.size<w'.heap.size→
  wpList prog ops Q rest (a.put o.dst (.slice (some ⟨w.heap.size,0,none⟩) n n)) w'):wpList prog ops Q (o::rest) a w:=by
 obtain⟨i0,hi,hz0,hz1,hz2⟩:=info_parts h2;refine wpList_make_full w hg l l t hop w.heap.size e i0 z sz h1 hi hz0 hz1 .i64 .i64 n n n hl hl rfl rfl (by rw[hz2];exact b2) b3 (Nat.le_refl _) fun w' h h'=>?_
 exact hK w' h (Below.of_grown h') (h.lt _ rfl).2
def Fm (w:World) (g o:Nat):Nat→List Value→World
 |_,[]=>w
 |j,u::us=>Fm (w.setCell ⟨g,o+j,none⟩ u) g o (j+1) us
def ES (xs:List Value) (o:Nat):Nat→List Value→List Value
 |_,[]=>xs
 |j,u::us=>ES (xs.set (o+j) u) o (j+1) us
theorem Jk (A B C us:List Value) (j:Nat) (hB:B.length=us.length) (o:Nat) (ho:A.length=o+j):ES (A++B++C) o j us=A++us++C:=by
 induction us generalizing A B j with
 |nil=>simp at hB;subst hB;simp[ES]
 |cons u us ih=>
  cases B with
  |nil=>simp at hB
  |cons b B=>
   rw[ES,←ho];have e:(A++b::B++C).set A.length u=(A++[u])++B++C:=by simp[List.set_append_right]
   rw[e,ih (A++[u]) B (j+1) (by simpa using hB) (by simp;omega)];simp
theorem Du {w:World} {lo e sz g n cap:Nat} {xs:List Value} (h:w.ownsRow lo e sz (.slice (some ⟨g,0,none⟩) n cap) n xs) (o j:Nat) (us:List Value):
 (Fm w g o j us).ownsRow lo e sz (.slice (some ⟨g,0,none⟩) n cap) n (ES xs o j us)∧w.grownBy (Fm w g o j us) (some g):=by
 induction us generalizing w xs j with
 |nil=>exact⟨h,⟨rfl,rfl,rfl,Nat.le_refl _,fun _ _ _=>rfl⟩⟩
 |cons u us ih=>obtain⟨s1,s2⟩:=World.ownsRow.stored h (o+j) u;obtain⟨t1,t2⟩:=ih s1 (j+1);exact⟨t1,⟨t2.os.trans s2.os,t2.tape.trans s2.tape,t2.output.trans s2.output,Nat.le_trans s2.size t2.size,fun b hb hne=>(t2.block b (Nat.lt_of_lt_of_le hb s2.size) hne).trans (s2.block b hb hne)⟩⟩
theorem Cv {α:Type} {xs:List α} {k:Nat} {x:α} (h:xs[k]? =some x):xs.take (k+1)=xs.take k++[x]:=by obtain⟨hlt,rfl⟩:=List.getElem?_eq_some_iff.1 h;exact List.take_succ_eq_append_getElem hlt
theorem QM {α:Type} {cs:α→List Value} {sz:Nat} (hs:∀x,(cs x).length=sz) {xs:List α} {k:Nat} (hk:k<xs.length) (y:α):ES (Bj cs xs) (k*sz) 0 (cs y)=Bj cs (xs.set k y):=by
 have e1:xs=xs.take k++[xs[k]]++xs.drop (k+1):=by simp
 have e2:xs.set k y=xs.take k++[y]++xs.drop (k+1):=by rw[List.set_eq_take_append_cons_drop,if_pos hk];simp
 rw[e2]
 conv=>lhs;rw[e1]
 rw[BS,BS,BS,BS,EO,EO];exact Jk _ _ _ _ 0 (by rw[hs,hs]) _ (by rw[Gc hs,List.length_take];congr 1;omega)
def GU (w:World) (lo e sz g n cap:Nat) (wr:World):Prop:=∃cs:List Value,wr.ownsRow lo e sz (.slice (some ⟨g,0,none⟩) n cap) n cs∧w.grownBy wr (some g)
theorem GU.set {w wr:World} {lo e sz g n cap:Nat} (h:GU w lo e sz g n cap wr) (j:Nat) (u:Value):GU w lo e sz g n cap (wr.setCell ⟨g,j,none⟩ u):=by
 obtain⟨cs,h1,h2⟩:=h;obtain⟨s1,s2⟩:=World.ownsRow.stored h1 j u;exact⟨_,s1,s2.os.trans h2.os,s2.tape.trans h2.tape,s2.output.trans h2.output,Nat.le_trans h2.size s2.size,fun b hb hne=>(s2.block b (Nat.lt_of_lt_of_le hb h2.size) hne).trans (h2.block b hb hne)⟩
theorem GU.below {w wr w1:World} {lo e sz g n cap:Nat} (h:GU w lo e sz g n cap wr) (hb:Below wr.heap.size wr w1):GU w lo e sz g n cap w1:=by
 obtain⟨cs,h1,h2⟩:=h;exact⟨_,Bw h1 hb,hb.os.trans h2.os,hb.tape.trans h2.tape,hb.output.trans h2.output,Nat.le_trans h2.size hb.size,fun b hb' hne=>(hb.block b (Nat.lt_of_lt_of_le hb' h2.size)).trans (h2.block b hb' hne)⟩
theorem GU.cell {w wr:World} {lo e sz g n cap:Nat} (h:GU w lo e sz g n cap wr) (j:Nat) (hj:j<n*sz):∃u,wr.cell? ⟨g,j,none⟩=some u:=by obtain⟨cs,h1,h2⟩:=h;have hl:=h1.1;exact⟨_,(h1.cellAt j hj).trans (List.getElem?_eq_getElem (by omega))⟩
theorem GU.frozen {w wr:World} {lo e sz g n cap:Nat} (h:GU w lo e sz g n cap wr) (j:Nat):wr.frozen? ⟨g,j,none⟩=false:=h.choose_spec.1.frozenAt j
theorem AG (w:World) (a:Obj):Below w.heap.size w (w.alloc a):=(Below.refl _ _).alloc (Nat.le_refl _) _
theorem F3 (w:World) (a b:Obj):Below w.heap.size w ((w.alloc a).alloc b):=(AG w a).alloc (by simp) _
theorem UN (w:World) (a b c:Obj):Below w.heap.size w (((w.alloc a).alloc b).alloc c):=(F3 w a b).alloc (by simp;omega) _
theorem Vn (w:World) (a b c d:Obj):Below w.heap.size w ((((w.alloc a).alloc b).alloc c).alloc d):=(UN w a b c).alloc (by simp;omega) _
theorem UM {W w1:World} (hb:Below W.heap.size W w1):(∀b o,b<W.heap.size→w1.cell? ⟨b,o,none⟩=W.cell? ⟨b,o,none⟩)∧(∀b o,b<W.heap.size→w1.frozen? ⟨b,o,none⟩=W.frozen? ⟨b,o,none⟩):=
 ⟨fun b o h=>hb.cell (p:=⟨b,o,none⟩) h,fun b o h=>hb.frozen (p:=⟨b,o,none⟩) h⟩
theorem BW {lo:Nat} {w:World} {ops:Array Oper} {rest:List Oper} {o:Oper} {a:Act} {Q:Exit→Act→World→Prop} {s x:Operand} {t:TypeId}
 (hgd:o.guard=none) (ho:o.op= .call {callee:= .builtin .append,args:= #[s,x],argTypes:= #[t,t]})
 (e:TypeId) (z:Value) (sz bytes:Nat) (ht:prog.underlying t=some (.slice e)) (hi:(prog.info? e).map (fun i=>(i.zero,i.size,i.bytes))=some (some z,sz,bytes))
 (hzs:z.cells.size=sz) (hsz:0<sz) {v u:Value} {n m:Nat} {xs news:List Value} (hs:a.eval s=v) (hown:w.ownsRow lo e sz v n xs)
 (hx:a.eval x=u) (hr:Rd w u sz m news) (h1:∀u∈news,u.oneCell'=true) (h63:n+m≤maxLen) (hbytes:(n+m)*bytes≤140737488355328) (hlo:lo≤w.heap.size)
 (hK:∀v' w',w'.ownsRow lo e sz v' (n+m) (xs++news)→w.grownBy w' v.ownBlock→(v'.ownBlock=v.ownBlock∨v'.ownBlock=some w.heap.size)→Below lo w w'→wpList prog ops Q rest (a.put o.dst v') w'):wpList prog ops Q (o::rest) a w:=by
 obtain⟨i0,hi0,hz0,hz1,hz2⟩:=info_parts hi;obtain⟨ao,c,rfl,hmc,hcm,hl,hnil,hc⟩:=hr;have hbel:∀w',w.grownBy w' v.ownBlock→Below lo w w':=fun w' hg=>(Below.refl lo w).grown hg hlo (fun k hk=>(hown.lt k hk).1)
 cases ao with
 |none=>
  have hc0:=hnil rfl;subst hc0;obtain rfl:m=0:=by omega
  have hnews:news=[]:=List.eq_nil_of_length_eq_zero (by simpa using hl);subst hnews;refine wpList_append_own_none hgd s x t ho lo e i0 sz ht hi0 v n xs hs hown hx ?_;exact hK v w (by simpa using hown) ⟨rfl,rfl,rfl,Nat.le_refl _,fun _ _ _=>rfl⟩ (.inl rfl) (Below.refl _ _)
 |some ad=>
  refine wpList_append_own_at w hgd s x t ho lo e i0 z sz bytes ht hi0 hz0 hz1 hz2 hzs hsz v n xs hs hown ad m c news hx hl ?_ h1 h63 hbytes hlo (fun v' w' h2 h3 _ h5=>hK v' w' h2 h3 h5 (hbel w' h3));intro j u hu
  rcases Nat.eq_zero_or_pos m with rfl|hm
  ·simp at hl
   simp[hl] at hu
  ·obtain⟨b,off,had,hcell⟩:=hc hm
   obtain rfl:ad=⟨b,off,none⟩:=by simpa using had
   have hj:j<news.length:=(List.getElem?_eq_some_iff.1 hu).1;have hadd:(⟨b,off,none⟩:Addr).add j=⟨b,off+j,none⟩:=by unfold Addr.add;split<;>simp_all
   rw[hadd,hcell j (by omega),hu]
theorem Rd.newsAt (w:World) (cs:Array Value) (e:TypeId) (sz n g:Nat) (hg:g=w.heap.size) (hs:cs.size=n*sz) (hn:n≤maxLen):Rd (w.alloc (.cells cs e)) (.slice (some ⟨g,0,none⟩) n n) sz n cs.toList:=by subst hg;exact Rd.news w cs e sz n hs hn
theorem Av {lo e sz n:Nat} {w w':World} {v:Value} {xs:List Value} {row:Option Nat} (h:w.ownsRow lo e sz v n xs) (hg:w.grownBy w' row) (hne:v.ownBlock=none∨v.ownBlock≠row):w'.ownsRow lo e sz v n xs:=World.ownsRow.kept h hg hne
theorem BQ {lo lo' e sz n:Nat} {w:World} {v:Value} {xs:List Value} (h:w.ownsRow lo e sz v n xs) (hl:lo'≤lo):w.ownsRow lo' e sz v n xs:=by
 refine⟨h.1,?_⟩
 rcases h.2 with h'|⟨g,cap,cur,rfl,hb,rest⟩
 ·exact .inl h'
 ·exact .inr ⟨g,cap,cur,rfl,Nat.le_trans hl hb,rest⟩
theorem EP {w w' w'':World} {row:Option Nat} (h:w.grownBy w' row) (h':w'.grownBy w'' row):w.grownBy w'' row:=
 ⟨h'.os.trans h.os,h'.tape.trans h.tape,h'.output.trans h.output,Nat.le_trans h.size h'.size,fun b hb hne=>(h'.block b (Nat.lt_of_lt_of_le hb h.size) hne).trans (h.block b hb hne)⟩
theorem Dt {w w':World} (h:Below w.heap.size w w') (row:Option Nat):w.grownBy w' row:=⟨h.os,h.tape,h.output,h.size,fun b hb _=>h.block b hb⟩
def Fa (v1 v2:Value):Prop:=∀k,v1.ownBlock=some k→v2.ownBlock≠some k
theorem Fa.symm {v1 v2:Value} (h:Fa v1 v2):Fa v2 v1:=fun k h1 h2=>h k h2 h1
theorem Fa.ne {v1 v2:Value} (h:Fa v1 v2):v1.ownBlock=none∨v1.ownBlock≠v2.ownBlock:=by
 cases hv:v1.ownBlock with
 |none=>exact .inl rfl
 |some k=>exact .inr fun e=>h k hv e.symm
theorem Fa.grown {v v' u:Value} {B:Nat} (h:Fa v u) (hv:v'.ownBlock=v.ownBlock∨v'.ownBlock=some B) (hu:∀k,u.ownBlock=some k→k<B):Fa v' u:=by
 intro k hk hu'
 rcases hv with e|e
 ·exact h k (e▸hk) hu'
 ·rw[e] at hk
  cases hk;exact absurd (hu _ hu') (Nat.lt_irrefl _)
theorem mixed:prog.follows .mixedOrders=true:=by kernel_rfl
section
variable {P:Program}
def AX (l:List Oper) (i:Nat):Nat:=((l[i]?).bind (·.dst)).getD 0
def Ai (l:List Oper) (is:List Nat) (vs:Nat→Value) (b:Array Value):Array Value:=is.foldl (fun b i=>b.setIfInBounds (AX l i) (vs i)) b
def IA (l:List Oper) (n:Nat):Bool:=
 decide (n<l.length)&&Region.sinkB .any l.toArray n&&Region.chainB .any l.toArray n&&
 ((List.range n).all fun i=>match l[i]? with|some o=>o.dst.isSome|none=>false)&&
 ((List.range n).all fun i=>(List.range n).all fun j=>i==j||AX l i !=AX l j)&&
 Region.seqB .any l.toArray (l.length - n) n (Array.ofFn (n:=l.length) fun i=>decide (i.val<n))&&
 ((List.range l.length).all fun j=>match l[j]? with|some o=>o.after.all fun e=>!Region.binds .any e||decide (e.on<j)|none=>false)
def JK (L:Nat→Bool) (i:Nat):Nat→Bool:=fun j=>if j=i then true else L j
theorem Em {L:Nat→Bool} {i j:Nat} (h:JK L i j=false):L j=false:=by
 unfold JK at h
 split at h
 ·cases h
 ·exact h
def AI (P:Program) (l:List Oper) (o:Oper) (a:Act) (w:World) (K:Act→World→Prop) (Q:Exit→Act→World→Prop):Prop:=
 (Region.wanted o (yielded l.toArray a.tmps)=true→Oper.wp P o a w K Q)∧(Region.wanted o (yielded l.toArray a.tmps)=false→K (a.put o.dst undef) w)
theorem AI.of {P:Program} {l:List Oper} {o:Oper} {a:Act} {w:World} {K:Act→World→Prop} {Q:Exit→Act→World→Prop} (hg:o.guard=none) (h:Oper.wp P o a w K Q):AI P l o a w K Q:=
 ⟨fun _=>h,fun hw=>by simp[Region.wanted,hg] at hw⟩
theorem Nc {l:List Oper} {tmps:Array Value} {g d:Nat} {b:Bool} (hd:(l[g]?).bind (·.dst)=some d) (hv:tmps[d]?.getD undef= .bool b):yielded l.toArray tmps g=some b:=by
 have h:(l.toArray[g]?).bind (·.dst)=some d:=by simpa using hd
 cases hx:tmps[d]? with
 |none=>rw[hx] at hv;simp[undef] at hv
 |some x=>rw[hx] at hv;simp at hv;subst hv;unfold yielded;rw[h,Option.bind_some,hx]
theorem AI.yes {P:Program} {l:List Oper} {o:Oper} {a:Act} {w:World} {K:Act→World→Prop} {Q:Exit→Act→World→Prop} {g d:Nat} {b:Bool} (hg:o.guard=some (g,b)) (hd:(l[g]?).bind (·.dst)=some d) (hv:a.tmps[d]?.getD undef= .bool b) (h:Oper.wp P o a w K Q):AI P l o a w K Q:=
 ⟨fun _=>h,fun hw=>by simp[Region.wanted,hg,Nc hd hv] at hw⟩
theorem AI.no {P:Program} {l:List Oper} {o:Oper} {a:Act} {w:World} {K:Act→World→Prop} {Q:Exit→Act→World→Prop} {g d:Nat} {b:Bool} (hg:o.guard=some (g,b)) (hd:(l[g]?).bind (·.dst)=some d) (hv:a.tmps[d]?.getD undef= .bool (!b)) (h:K (a.put o.dst undef) w):AI P l o a w K Q:=
 ⟨fun hw=>by rw[Region.wanted,hg] at hw;simp only[Nc hd hv] at hw;cases b<;>simp at hw,fun _=>h⟩
theorem BR {a:Act} {t:Nat} {v:Value} (h:a.tmps[t]?.getD undef=v):a.eval (.tmp t)=v:=by
 show a.tmps.getD t undef=v
 rw[Array.getD_eq_getD_getElem?];exact h
theorem BY {P:Program} {o:Oper} {a:Act} {w w':World} {K:Act→World→Prop} {Q:Exit→Act→World→Prop} {s x:Operand} {t:TypeId} (ho:o.op= .call {callee:= .builtin .append,args:= #[s,x],argTypes:= #[t,t]})
 {v u v':Value} (hs:a.eval s=v) (hx:a.eval x=u) (hrun:(Builtin.append_ #[t,t] o.type #[v,u]).run P w= .ok v' w') (h:K (a.put o.dst v') w'):Oper.wp P o a w K Q:=by
 unfold Oper.wp execOp;simp only[ho,resolve,invoke,builtin,Sem.run_bind,Sem.run_pure,Result.andThen_ok,List.map_toArray,List.map_cons,List.map_nil,hs,hx,hrun];exact h
structure Oy (l:List Oper) (n:Nat) (a0:Act) (R:Nat→Value→World→Prop) (G:(Nat→Bool)→World→Prop) (listed:Array Bool) (a:Act) (w:World):Prop where
 head:HeadInv .any l.toArray n listed
 defers:a.defers=a0.defers
 size:a.tmps.size=a0.tmps.size
 base:∀t,(∀i,i<n→AX l i≠t)→a.tmps[t]? =a0.tmps[t]?
 post:∀i,i<n→listed.getD i false=true→R i (a.tmps.getD (AX l i) undef) w
 glob:G (fun j=>listed.getD j false) w
theorem EW {listed:Array Bool} {i:Nat} (h:i<listed.size) (d:Bool):(listed.setIfInBounds i true).getD i d=true:=by simp[h]
theorem Oy.wpAny {l:List Oper} {n:Nat} {a0:Act} {R:Nat→Value→World→Prop} {G:(Nat→Bool)→World→Prop} {Q:Exit→Act→World→Prop}
 (hB:IA l n=true) (hdst:∀i,i<n→AX l i<a0.tmps.size)
 (hstep:∀i,i<n→∀o,l[i]? =some o→∀a w,a.defers=a0.defers→a.tmps.size=a0.tmps.size→(∀t,(∀i,i<n→AX l i≠t)→a.tmps[t]? =a0.tmps[t]?)→
  (∀j,Region.waitsFor .any l.toArray i j=true→R j (a.tmps.getD (AX l j) undef) w)→∀L:Nat→Bool,L i=false→(∀j,Region.waitsFor .any l.toArray i j=true→L j=true)→(∀j j',L j=true→Region.waitsFor .any l.toArray j j'=true→L j'=true)→G L w→
  ∀K:Act→World→Prop,(∀v w',R i v w'→G (JK L i) w'→(∀j u,j≠i→j<n→L j=true→R j u w→R j u w')→K (a.put o.dst v) w')→AI P l o a w K Q)
 (htail:∀a w,a.defers=a0.defers→a.tmps.size=a0.tmps.size→(∀t,(∀i,i<n→AX l i≠t)→a.tmps[t]? =a0.tmps[t]?)→
  (∀i,i<n→R i (a.tmps.getD (AX l i) undef) w)→∀L:Nat→Bool,(∀i,i<n→L i=true)→G L w→wpList P l.toArray Q (l.drop n) a w):
 ∀(f:Nat) (listed:Array Bool) (a:Act) (w:World),f=(l.length - n)+((List.range n).filter fun i=>!listed.getD i false).length→Oy l n a0 R G listed a w→Go.wpAny P .any l.toArray Q f listed a w:=by
 simp only[IA,Bool.and_eq_true,decide_eq_true_eq] at hB;obtain⟨⟨⟨⟨⟨⟨hn,hs⟩,hc⟩,hg⟩,hdis⟩,hseq⟩,hback⟩:=hB;have hgd:∀i,i<n→∃o d,l[i]? =some o∧o.dst=some d∧AX l i=d:=by
  intro i hi;have:=List.all_eq_true.1 hg i (List.mem_range.2 hi);cases ho:l[i]? with
  |none=>rw[ho] at this;cases this
  |some o=>rw[ho] at this;simp only[Option.isSome_iff_exists] at this;obtain⟨d,h2⟩:=this;exact⟨o,d,rfl,h2,by simp[AX,ho,h2]⟩
 have hne:∀i j,i<n→j<n→i≠j→AX l i≠AX l j:=by intro i j hi hj hij;have:=List.all_eq_true.1 (List.all_eq_true.1 hdis i (List.mem_range.2 hi)) j (List.mem_range.2 hj);simpa[hij] using this
 have hn':n<l.toArray.size:=by simpa using hn
 intro f
 induction f with
 |zero=>intro listed a w hf _;omega
 |succ f ih=>
  intro listed a w hf inv
  by_cases hall:∀i,i<n→listed.getD i false=true
  ·have hlisted:listed=Array.ofFn (n:=l.length) fun i=>decide (i.val<n):=by
    have hsz:listed.size=l.length:=by have:=inv.head.size;simpa using this
    apply Array.ext
    ·simp[hsz]
    ·intro i h1 h2
     simp only[Array.getElem_ofFn]
     by_cases hi:i<n
     ·have:=hall i hi
      simp[h1] at this;simp[hi,this]
     ·have:=inv.head.tail i (by omega) (by simpa[hsz] using h1)
      simp[h1] at this;simp[hi,this]
   have h0:((List.range n).filter fun i=>!listed.getD i false)=[]:=by rw[List.filter_eq_nil_iff];intro i hi;simp[hall i (List.mem_range.1 hi)]
   have hT:=htail a w inv.defers inv.size inv.base (fun i hi=>inv.post i hi (hall i hi)) _ hall inv.glob;have hW:=wpAny_of_seq (P:=P) (md:= .any) (ops:=l.toArray) (Q':=Q) (l.drop n) n listed a w (fun j=>by simp[List.getElem?_drop]) (by rw[hlisted];simpa using hseq) hT;have e:(l.drop n).length=f+1:=by rw[h0] at hf;simp at hf ⊢;omega
   rw[e] at hW;exact hW
  ·obtain⟨i0,hi0⟩:=Classical.not_forall.1 hall
   obtain⟨hi0n,hi0l⟩:=Classical.not_imp.1 hi0;have hi0f:listed.getD i0 false=false:=by simpa using hi0l
   have hsz:listed.size=l.length:=by have:=inv.head.size;simpa using this
   have hi0t:listed.getD i0 true=false:=getD_in (by omega) hi0f;refine⟨fun hr=>?_,fun i hi=>?_⟩
   ·exfalso
    have:∀k,k≤l.length→∀i,i<k→i<n→listed.getD i true=false→False:=by
     intro k
     induction k with
     |zero=>intro _ i hi;omega
     |succ k ihk=>
      intro hk i hik hin hun;have hnr:i∉Region.ready .any l.toArray listed:=by rw[hr];simp
      obtain⟨o,d,ho,_,_⟩:=hgd i hin;apply hnr;rw[mem_ready];refine⟨hun,o,by simpa using ho,fun e he hb=>?_⟩;have hlt:e.on<i:=by have:=List.all_eq_true.1 hback i (List.mem_range.2 (by omega));rw[ho] at this;simpa[hb] using Array.all_eq_true'.1 this e he
      cases hx:listed.getD e.on false with
      |true=>rfl
      |false=>exact(ihk (by omega) e.on (by omega) (by omega) (getD_in (by omega) hx)).elim
    exact this l.length (Nat.le_refl _) i0 (by omega) hi0n hi0t
   ·have hin:i<n:=by
     rcases Nat.lt_or_ge i n with h|h
     ·exact h
     ·exact absurd hi (tail_waits hs hc hn' inv.head _ i0 rfl hi0n hi0t i h)
    obtain⟨o,d,ho,hod,hdo⟩:=hgd i hin;obtain⟨hun,o',ho',hdep⟩:=mem_ready.1 hi;obtain rfl:o'=o:=by
     have:l[i]? =some o':=by simpa using ho'
     rw[ho] at this;exact(So_ this).symm
    have hdeps:∀j,Region.waitsFor .any l.toArray i j=true→R j (a.tmps.getD (AX l j) undef) w:=by
     intro j hj;obtain⟨oj,hoj,e,he,hb,rfl⟩:=Region.waitsFor_spec hj;obtain rfl:oj=o':=So_ (hoj.symm.trans ho');have hlt:e.on<i:=by have:=List.all_eq_true.1 hback i (List.mem_range.2 (by omega));rw[ho] at this;simpa[hb] using Array.all_eq_true'.1 this e he
     exact inv.post e.on (by omega) (hdep e he hb)
    unfold Go.wpOp;rw[ho'];have hlis:∀j,Region.waitsFor .any l.toArray i j=true→listed.getD j false=true:=by intro j hj;obtain⟨oj,hoj,e,he,hb,rfl⟩:=Region.waitsFor_spec hj;obtain rfl:oj=o':=So_ (hoj.symm.trans ho');exact hdep e he hb
    suffices H:∀K:Act→World→Prop,(∀v w',R i v w'→G (JK (fun j=>listed.getD j false) i) w'→(∀j u,j≠i→j<n→listed.getD j false=true→R j u w→R j u w')→K (a.put o'.dst v) w')→AI P l o' a w K Q by
     have hK:=H (Go.wpAny P .any l.toArray Q f (listed.setIfInBounds i true)) ?_
     ·cases hwt:Region.wanted o' (yielded l.toArray a.tmps) with
      |true=>dsimp only;rw[hwt,if_pos rfl];exact .inl (hK.1 hwt)
      |false=>dsimp only;rw[hwt,if_neg Bool.false_ne_true];exact hK.2 hwt
     ·intro v w' hR hG' hkeep
      have hcount:f=(l.length - n)+((List.range n).filter fun k=>!(listed.setIfInBounds i true).getD k false).length:=by
       have hone:((List.range n).filter fun k=>!listed.getD k false).length=((List.range n).filter fun k=>!(listed.setIfInBounds i true).getD k false).length+1:=by
        have hmem:i∈(List.range n).filter fun k=>!listed.getD k false:=by rw[List.mem_filter];exact⟨List.mem_range.2 hin,by simp[getD_both hun]⟩
        have hnd:((List.range n).filter fun k=>!listed.getD k false).Nodup:=List.nodup_range.filter _;have he:((List.range n).filter fun k=>!(listed.setIfInBounds i true).getD k false)=((List.range n).filter fun k=>!listed.getD k false).erase i:=by
         rw[hnd.erase_eq_filter,List.filter_filter];refine List.filter_congr fun k hk=>?_
         by_cases hki:k=i
         ·subst hki
          simp[EW (show k<listed.size by omega)]
         ·rw[getD_set_ne false (Ne.symm hki)]
          simp[hki]
        rw[he,List.length_erase_of_mem hmem];have:=List.length_pos_of_mem hmem;omega
       omega
      refine ih _ _ _ hcount ⟨inv.head.set hi hin,?_,?_,?_,?_,?_⟩
      ·rw[hod];exact inv.defers
      ·rw[hod];simpa[Act.put] using inv.size
      ·intro t ht
       rw[hod];simp only[Act.put];rw[Array.getElem?_setIfInBounds_ne (by rw[←hdo];exact ht i hin)];exact inv.base t ht
      ·intro j hj hjl
       rw[hod];simp only[Act.put]
       by_cases hji:j=i
       ·subst hji
        rw[hdo];have:d<a.tmps.size:=by rw[←hdo,inv.size];exact hdst j hj
        simpa[this] using hR
       ·have hjl':listed.getD j false=true:=by rwa [getD_set_ne false (Ne.symm hji)] at hjl
        have h1:=hkeep j _ hji hj hjl' (inv.post j hj hjl');have e:(a.tmps.setIfInBounds d v).getD (AX l j) undef=a.tmps.getD (AX l j) undef:=by
         have:d≠AX l j:=by rw[←hdo];exact hne i j hin hj (Ne.symm hji)
         simp only[Array.getD_eq_getD_getElem?];rw[Array.getElem?_setIfInBounds_ne this]
        rw[e];exact h1
      ·have eL:(fun j=>(listed.setIfInBounds i true).getD j false)=JK (fun j=>listed.getD j false) i:=by
        funext j
        unfold JK
        by_cases hji:j=i
        ·subst hji
         rw[if_pos rfl,EW (by omega)]
        ·rw[if_neg hji,getD_set_ne false (Ne.symm hji)]
       rw[eL];exact hG'
    have hclo:∀j j',listed.getD j false=true→Region.waitsFor .any l.toArray j j'=true→listed.getD j' false=true:=by intro j j' hj hw;obtain⟨oj,hoj,e,he,hb,rfl⟩:=Region.waitsFor_spec hw;exact inv.head.closed j oj hoj hj e he hb
    exact fun K hK=>hstep i hin o' ho a w inv.defers inv.size inv.base hdeps _ (getD_both hun) hlis hclo inv.glob K hK
theorem OJ (l:List Oper):∀(is:List Nat) (b c:Array Value),c.size=b.size→(∀t,(∀i,i∈is→AX l i≠t)→c[t]? =b[t]?)→
 c=Ai l is (fun i=>c.getD (AX l i) undef) b:=by
 intro is
 induction is with
 |nil=>intro b c hs h;exact Array.ext_getElem? fun t=>h t (fun i hi=>by cases hi)
 |cons i is ih=>
  intro b c hs h
  show c=Ai l is _ (b.setIfInBounds (AX l i) (c.getD (AX l i) undef))
  refine ih _ c (by simpa using hs) fun t ht=>?_
  by_cases hti:AX l i=t
  ·subst hti
   rcases Nat.lt_or_ge (AX l i) c.size with h'|h'
   ·have:AX l i<b.size:=by omega
    simp[h',this]
   ·have:b.size≤AX l i:=by omega
    simp[h',this]
  ·rw[Array.getElem?_setIfInBounds_ne hti]
   exact h t fun j hj=>by
    rcases List.mem_cons.1 hj with rfl|hj
    ·exact hti
    ·exact ht j hj
def UV (l:List Oper) (n N:Nat):Bool:=(List.range n).all fun i=>decide (AX l i<N)
theorem Fo {id:Nat} {Q:Exit→Act→World→Prop} {a0:Act} {w0:World} {l:List Oper} (n:Nat) (hm:P.follows .mixedOrders=true) (hB:IA l n=true)
 (N:Nat) (hN:a0.tmps.size=N) (hD:UV l n N=true) (R:Nat→Value→World→Prop) (G:(Nat→Bool)→World→Prop) (hG:G (fun _=>false) {w0 with drawn:=w0.drawn+1})
 (hstep:∀i,i<n→∀o,l[i]? =some o→∀a w,Hid (a.defers=a0.defers∧a.tmps.size=a0.tmps.size∧∀t,(∀i,i<n→AX l i≠t)→a.tmps[t]? =a0.tmps[t]?)→
  Hid (∀j,Region.waitsFor .any l.toArray i j=true→R j (a.tmps[AX l j]?.getD undef) w)→∀L:Nat→Bool,Hid (L i=false∧(∀j,Region.waitsFor .any l.toArray i j=true→L j=true)∧∀j j',L j=true→Region.waitsFor .any l.toArray j j'=true→L j'=true)→G L w→
  ∀K:Act→World→Prop,Hid (∀v w',R i v w'→G (JK L i) w'→(∀j u,j≠i→j<n→L j=true→R j u w→R j u w')→K (a.put o.dst v) w')→AI P l o a w K Q)
 (htail:∀(vs:Nat→Value) w,(∀i,i<n→R i (vs i) w)→∀L:Nat→Bool,(∀i,i<n→L i=true)→G L w→wpList P l.toArray Q (l.drop n) {a0 with tmps:=Ai l (List.range n) vs a0.tmps} w):
 (Code.region id l.toArray true).wp P Q a0 w0:=by
 have hdst:∀i,i<n→AX l i<a0.tmps.size:=fun i hi=>by have:=List.all_eq_true.1 hD i (List.mem_range.2 hi);rw[hN];simpa using this
 refine wp_region_any hm ?_;refine Oy.wpAny (a0:=a0) (R:=R) (G:=G) hB hdst (fun i hi o ho a w h1 h2 h3 h4 L h6 h7 h8 h5 K hK=>hstep i hi o ho a w (AA ⟨h1,h2,h3⟩) (AA fun j hj=>by have:=h4 j hj;rwa [Array.getD_eq_getD_getElem?] at this) L (AA ⟨h6,h7,h8⟩) h5 K (AA hK)) (fun a w h1 h2 h3 h4 L h6 h5=>?_) _ _ _ _ ?_ ⟨⟨by simp,fun j oj _ hl=>(by rw[getD_replicate_false] at hl;cases hl),fun t _ ht=>getD_in (by simpa using ht) (getD_replicate_false _ _)⟩,rfl,rfl,fun _ _=>rfl,fun i _ hl=>(by rw[getD_replicate_false] at hl;cases hl),(show G (fun j=>(Array.replicate l.toArray.size false).getD j false) _ from(funext fun j=>getD_replicate_false _ _:(fun j=>(Array.replicate l.toArray.size false).getD j false)=fun _=>false)▸hG)⟩
 ·have e:=OJ l (List.range n) a0.tmps a.tmps h2 (fun t ht=>h3 t fun i hi=>ht i (List.mem_range.2 hi))
  have:=htail (fun i=>a.tmps.getD (AX l i) undef) w h4 L h6 h5;rw[←e] at this;obtain⟨tm,df⟩:=a;dsimp only at h1 this;subst h1;exact this
 ·have hn:n<l.length:=by
   simp only[IA,Bool.and_eq_true,decide_eq_true_eq] at hB;exact hB.1.1.1.1.1.1
  have:((List.range n).filter fun i=>!(Array.replicate l.toArray.size false).getD i false)=List.range n:=by rw[List.filter_eq_self];intro i _;rw[getD_replicate_false];rfl
  rw[this];simp;omega
end
section
variable {P:Program} {l:List Oper} {i:Nat} {o o':Oper} {a a0:Act} {w:World} {K:Act→World→Prop} {Q:Exit→Act→World→Prop} {R:Value→World→Prop} {x y z:Operand} {v u:Value}
def Nl (l:List Oper) (o:Oper) (a:Act):Prop:=Region.wanted o (yielded l.toArray a.tmps)=true
theorem gn (h:o.guard=none):Nl l o a:=by simp[Nl,Region.wanted,h]
theorem gy {g d:Nat} {b:Bool} (hg:o.guard=some (g,b)) (hd:(l[g]?).bind (·.dst)=some d) (hv:a.tmps[d]?.getD undef= .bool b):Nl l o a:=by simp[Nl,Region.wanted,hg,Nc hd hv]
theorem et {t:Nat} (h:a.tmps[t]?.getD undef=v):a.eval (.tmp t)=v:=BR h
theorem eb {t:Nat} (h:a.tmps[t]? =a0.tmps[t]?):a.eval (.tmp t)=a0.tmps[t]?.getD undef:=BR (by rw[h])
theorem eg {t:Nat} (h:a.tmps[t]? =a0.tmps[t]?):a.tmps[t]?.getD undef=a0.tmps[t]?.getD undef:=by rw[h]
theorem bc {B b off:Nat} {w0:World} (hG:Below B w0 w) (hlt:b<B) (h:w0.cell? ⟨b,off,none⟩=some v):w.cell? ⟨b,off,none⟩=some v:=(hG.cell (p:=⟨b,off,none⟩) hlt).trans h
theorem dV (ho:l[i]? =some o) (e:l[i]? =some o') (hw:Nl l o' a) (HK:Hid (∀v w',R v w'→Below w.heap.size w w'→K (a.put o.dst v) w')) (hr:(execOp a.eval o').run P w= .ok (.value v) w) (hR:R v w):AI P l o a w K Q:=by
 obtain rfl:=So_ (ho.symm.trans e);exact⟨fun _=>by unfold Oper.wp;rw[hr];exact HK.out _ _ hR (Below.refl _ _),fun h=>by rw[show Region.wanted o (yielded l.toArray a.tmps)=true from hw] at h;cases h⟩
theorem dM (ho:l[i]? =some o) (e:l[i]? =some o') (hw:Nl l o' a) (HK:Hid (∀v w',R v w'→Below w.heap.size w w'→K (a.put o.dst v) w')) (hop:o'.op= .move x) (hx:a.eval x=v) (hR:R v w):AI P l o a w K Q:=
 dV ho e hw HK (by unfold execOp;rw[hop,←hx];rfl) hR
theorem dA (ho:l[i]? =some o) (e:l[i]? =some o') (hw:Nl l o' a) (HK:Hid (∀v w',R v w'→Below w.heap.size w w'→K (a.put o.dst v) w')) (hop:o'.op= .assign x) (hx:a.eval x=v) (hR:R v w):AI P l o a w K Q:=
 dV ho e hw HK (by unfold execOp;rw[hop,←hx];rfl) hR
theorem dC {p:Addr} (ho:l[i]? =some o) (e:l[i]? =some o') (hw:Nl l o' a) (HK:Hid (∀v w',R v w'→Below w.heap.size w w'→K (a.put o.dst v) w')) (hop:o'.op= .nilCheck x) (hx:a.eval x= .pointer (some p)) (hR:R (.pointer (some p)) w):AI P l o a w K Q:=
 dV ho e hw HK (by unfold execOp;rw[hop];simp only[hx];rfl) hR
theorem dF {s f b off k:Nat} (ho:l[i]? =some o) (e:l[i]? =some o') (hw:Nl l o' a) (HK:Hid (∀v w',R v w'→Below w.heap.size w w'→K (a.put o.dst v) w')) (hop:o'.op= .fieldAddr s x f) (hf:∀b off w,(Instr.fieldAt s (.pointer (some ⟨b,off,none⟩)) f).run P w= .ok (.pointer (some ⟨b,off+k,none⟩)) w) (hx:a.eval x= .pointer (some ⟨b,off,none⟩)) (hR:R (.pointer (some ⟨b,off+k,none⟩)) w):AI P l o a w K Q:=
 dV ho e hw HK (by unfold execOp;rw[hop];simp only[hx,Sem.run_bind,hf,Result.andThen_ok];rfl) hR
theorem dL {t:Nat} {p:Addr} (ho:l[i]? =some o) (e:l[i]? =some o') (hw:Nl l o' a) (HK:Hid (∀v w',R v w'→Below w.heap.size w w'→K (a.put o.dst v) w')) (hop:o'.op= .load t x) (hx:a.eval x= .pointer (some p)) (hl:(Instr.loadAt t (.pointer (some p))).run P w= .ok v w) (hR:R v w):AI P l o a w K Q:=
 dV ho e hw HK (by unfold execOp;rw[hop];simp only[hx,Sem.run_bind,hl,Result.andThen_ok];rfl) hR
theorem dN {b:Bool} {t:Nat} (ho:l[i]? =some o) (e:l[i]? =some o') (hw:Nl l o' a) (HK:Hid (∀v w',R v w'→Below w.heap.size w w'→K (a.put o.dst v) w')) (hop:o'.op= .unOp .not t x) (hx:a.eval x= .bool b) (hR:R (.bool (!b)) w):AI P l o a w K Q:=
 dV ho e hw HK (by unfold execOp;rw[hop];simp only[hx];rfl) hR
theorem dT (ho:l[i]? =some o) (e:l[i]? =some o') (hw:Nl l o' a) (HK:Hid (∀v w',R v w'→Below w.heap.size w w'→K (a.put o.dst v) w')) (hop:o'.op= .pick x y z) (hx:a.eval x= .bool true) (hy:a.eval y=v) (hR:R v w):AI P l o a w K Q:=
 dV ho e hw HK (by unfold execOp;rw[hop];simp only[hx,hy];rfl) hR
theorem dE (ho:l[i]? =some o) (e:l[i]? =some o') (hw:Nl l o' a) (HK:Hid (∀v w',R v w'→Below w.heap.size w w'→K (a.put o.dst v) w')) (hop:o'.op= .pick x y z) (hx:a.eval x= .bool false) (hz:a.eval z=v) (hR:R v w):AI P l o a w K Q:=
 dV ho e hw HK (by unfold execOp;rw[hop];simp only[hx,hz];rfl) hR
theorem dB {g d:Nat} {b:Bool} (ho:l[i]? =some o) (e:l[i]? =some o') (HK:Hid (∀v w',R v w'→Below w.heap.size w w'→K (a.put o.dst v) w')) (hg:o'.guard=some (g,b)) (hd:(l[g]?).bind (·.dst)=some d) (hv:a.tmps[d]?.getD undef= .bool (!b)) (hR:R undef w):AI P l o a w K Q:=by obtain rfl:=So_ (ho.symm.trans e);exact AI.no hg hd hv (HK.out _ _ hR (Below.refl _ _))
theorem eM (ho:l[i]? =some o) (HK:Hid (∀v w',R v w'→Below w.heap.size w w'→K (a.put o.dst v) w')) (hx:a.eval x=v) (e:l[i]? =some o':=by rfl) (hw:Nl l o' a:=by exact gn rfl) (hop:o'.op= .move x:=by rfl) (hR:R v w:=by rfl):AI P l o a w K Q:=dM ho e hw HK hop hx hR
theorem eA (ho:l[i]? =some o) (HK:Hid (∀v w',R v w'→Below w.heap.size w w'→K (a.put o.dst v) w')) (hx:a.eval x=v) (e:l[i]? =some o':=by rfl) (hw:Nl l o' a:=by exact gn rfl) (hop:o'.op= .assign x:=by rfl) (hR:R v w:=by rfl):AI P l o a w K Q:=dA ho e hw HK hop hx hR
theorem eC {p:Addr} (ho:l[i]? =some o) (HK:Hid (∀v w',R v w'→Below w.heap.size w w'→K (a.put o.dst v) w')) (hx:a.eval x= .pointer (some p)) (e:l[i]? =some o':=by rfl) (hw:Nl l o' a:=by exact gn rfl) (hop:o'.op= .nilCheck x:=by rfl) (hR:R (.pointer (some p)) w:=by rfl):AI P l o a w K Q:=dC ho e hw HK hop hx hR
theorem eF {s f b off k:Nat} (ho:l[i]? =some o) (HK:Hid (∀v w',R v w'→Below w.heap.size w w'→K (a.put o.dst v) w')) (hf:∀b off w,(Instr.fieldAt s (.pointer (some ⟨b,off,none⟩)) f).run P w= .ok (.pointer (some ⟨b,off+k,none⟩)) w) (hx:a.eval x= .pointer (some ⟨b,off,none⟩)) (e:l[i]? =some o':=by rfl) (hw:Nl l o' a:=by exact gn rfl) (hop:o'.op= .fieldAddr s x f:=by rfl) (hR:R (.pointer (some ⟨b,off+k,none⟩)) w:=by rfl):AI P l o a w K Q:=dF ho e hw HK hop hf hx hR
theorem eL {t:Nat} {p:Addr} (ho:l[i]? =some o) (HK:Hid (∀v w',R v w'→Below w.heap.size w w'→K (a.put o.dst v) w')) (hx:a.eval x= .pointer (some p)) (hl:(Instr.loadAt t (.pointer (some p))).run P w= .ok v w) (e:l[i]? =some o':=by rfl) (hw:Nl l o' a:=by exact gn rfl) (hop:o'.op= .load t x:=by rfl) (hR:R v w:=by rfl):AI P l o a w K Q:=dL ho e hw HK hop hx hl hR
theorem eN {b:Bool} {t:Nat} (ho:l[i]? =some o) (HK:Hid (∀v w',R v w'→Below w.heap.size w w'→K (a.put o.dst v) w')) (hx:a.eval x= .bool b) (e:l[i]? =some o':=by rfl) (hw:Nl l o' a:=by exact gn rfl) (hop:o'.op= .unOp .not t x:=by rfl) (hR:R (.bool (!b)) w:=by rfl):AI P l o a w K Q:=dN ho e hw HK hop hx hR
theorem eT (ho:l[i]? =some o) (HK:Hid (∀v w',R v w'→Below w.heap.size w w'→K (a.put o.dst v) w')) (hx:a.eval x= .bool true) (hy:a.eval y=v) (e:l[i]? =some o':=by rfl) (hw:Nl l o' a:=by exact gn rfl) (hop:o'.op= .pick x y z:=by rfl) (hR:R v w:=by rfl):AI P l o a w K Q:=dT ho e hw HK hop hx hy hR
theorem eE (ho:l[i]? =some o) (HK:Hid (∀v w',R v w'→Below w.heap.size w w'→K (a.put o.dst v) w')) (hx:a.eval x= .bool false) (hz:a.eval z=v) (e:l[i]? =some o':=by rfl) (hw:Nl l o' a:=by exact gn rfl) (hop:o'.op= .pick x y z:=by rfl) (hR:R v w:=by rfl):AI P l o a w K Q:=dE ho e hw HK hop hx hz hR
theorem eB {g d:Nat} {b:Bool} (ho:l[i]? =some o) (HK:Hid (∀v w',R v w'→Below w.heap.size w w'→K (a.put o.dst v) w')) (hv:a.tmps[d]?.getD undef= .bool (!b)) (e:l[i]? =some o':=by rfl) (hg:o'.guard=some (g,b):=by rfl) (hd:(l[g]?).bind (·.dst)=some d:=by rfl) (hR:R undef w:=by rfl):AI P l o a w K Q:=dB ho e HK hg hd hv hR
end
section
variable {b off:Nat} {w:World} {v0 v1 v2 v3 v4 v5 v6 v7 v8 v9:Value}
theorem Ci:∀b off w,(Instr.fieldAt 29 (.pointer (some ⟨b,off,none⟩)) 0).run prog w= .ok (.pointer (some ⟨b,off+0,none⟩)) w:=fun b off w=>by go_simp
theorem CU:∀b off w,(Instr.fieldAt 29 (.pointer (some ⟨b,off,none⟩)) 1).run prog w= .ok (.pointer (some ⟨b,off+1,none⟩)) w:=fun b off w=>by go_simp
theorem GO:∀b off w,(Instr.fieldAt 29 (.pointer (some ⟨b,off,none⟩)) 2).run prog w= .ok (.pointer (some ⟨b,off+2,none⟩)) w:=fun b off w=>by go_simp
theorem EU:∀b off w,(Instr.fieldAt 29 (.pointer (some ⟨b,off,none⟩)) 3).run prog w= .ok (.pointer (some ⟨b,off+3,none⟩)) w:=fun b off w=>by go_simp
theorem PJ:∀b off w,(Instr.fieldAt 33 (.pointer (some ⟨b,off,none⟩)) 0).run prog w= .ok (.pointer (some ⟨b,off+0,none⟩)) w:=fun b off w=>by go_simp
theorem Vo:∀b off w,(Instr.fieldAt 33 (.pointer (some ⟨b,off,none⟩)) 1).run prog w= .ok (.pointer (some ⟨b,off+4,none⟩)) w:=fun b off w=>by go_simp
theorem UY:∀b off w,(Instr.fieldAt 33 (.pointer (some ⟨b,off,none⟩)) 2).run prog w= .ok (.pointer (some ⟨b,off+5,none⟩)) w:=fun b off w=>by go_simp
theorem UZ:∀b off w,(Instr.fieldAt 33 (.pointer (some ⟨b,off,none⟩)) 3).run prog w= .ok (.pointer (some ⟨b,off+6,none⟩)) w:=fun b off w=>by go_simp
theorem RU:∀b off w,(Instr.fieldAt 33 (.pointer (some ⟨b,off,none⟩)) 4).run prog w= .ok (.pointer (some ⟨b,off+7,none⟩)) w:=fun b off w=>by go_simp
theorem RV:∀b off w,(Instr.fieldAt 33 (.pointer (some ⟨b,off,none⟩)) 5).run prog w= .ok (.pointer (some ⟨b,off+8,none⟩)) w:=fun b off w=>by go_simp
theorem FY:∀b off w,(Instr.fieldAt 44 (.pointer (some ⟨b,off,none⟩)) 1).run prog w= .ok (.pointer (some ⟨b,off+1,none⟩)) w:=fun b off w=>by go_simp
theorem EC:∀b off w,(Instr.fieldAt 44 (.pointer (some ⟨b,off,none⟩)) 2).run prog w= .ok (.pointer (some ⟨b,off+2,none⟩)) w:=fun b off w=>by go_simp
theorem Gp:∀b off w,(Instr.fieldAt 44 (.pointer (some ⟨b,off,none⟩)) 3).run prog w= .ok (.pointer (some ⟨b,off+3,none⟩)) w:=fun b off w=>by go_simp
theorem KS:∀b off w,(Instr.fieldAt 44 (.pointer (some ⟨b,off,none⟩)) 4).run prog w= .ok (.pointer (some ⟨b,off+4,none⟩)) w:=fun b off w=>by go_simp
theorem LX:∀b off w,(Instr.fieldAt 44 (.pointer (some ⟨b,off,none⟩)) 5).run prog w= .ok (.pointer (some ⟨b,off+5,none⟩)) w:=fun b off w=>by go_simp
theorem EV:∀b off w,(Instr.fieldAt 85 (.pointer (some ⟨b,off,none⟩)) 0).run prog w= .ok (.pointer (some ⟨b,off+0,none⟩)) w:=fun b off w=>by go_simp
theorem Ez:∀b off w,(Instr.fieldAt 85 (.pointer (some ⟨b,off,none⟩)) 1).run prog w= .ok (.pointer (some ⟨b,off+1,none⟩)) w:=fun b off w=>by go_simp
theorem F4:∀b off w,(Instr.fieldAt 135 (.pointer (some ⟨b,off,none⟩)) 0).run prog w= .ok (.pointer (some ⟨b,off+0,none⟩)) w:=fun b off w=>by go_simp
theorem Kp:∀b off w,(Instr.fieldAt 135 (.pointer (some ⟨b,off,none⟩)) 1).run prog w= .ok (.pointer (some ⟨b,off+1,none⟩)) w:=fun b off w=>by go_simp
theorem GW:∀b off w,(Instr.fieldAt 135 (.pointer (some ⟨b,off,none⟩)) 2).run prog w= .ok (.pointer (some ⟨b,off+2,none⟩)) w:=fun b off w=>by go_simp
theorem Jr:∀b off w,(Instr.fieldAt 140 (.pointer (some ⟨b,off,none⟩)) 0).run prog w= .ok (.pointer (some ⟨b,off+0,none⟩)) w:=fun b off w=>by go_simp
theorem MK:∀b off w,(Instr.fieldAt 140 (.pointer (some ⟨b,off,none⟩)) 1).run prog w= .ok (.pointer (some ⟨b,off+1,none⟩)) w:=fun b off w=>by go_simp
theorem ML:∀b off w,(Instr.fieldAt 142 (.pointer (some ⟨b,off,none⟩)) 0).run prog w= .ok (.pointer (some ⟨b,off+0,none⟩)) w:=fun b off w=>by go_simp
theorem Sa:∀b off w,(Instr.fieldAt 142 (.pointer (some ⟨b,off,none⟩)) 1).run prog w= .ok (.pointer (some ⟨b,off+1,none⟩)) w:=fun b off w=>by go_simp
theorem Sb:∀b off w,(Instr.fieldAt 142 (.pointer (some ⟨b,off,none⟩)) 2).run prog w= .ok (.pointer (some ⟨b,off+2,none⟩)) w:=fun b off w=>by go_simp
theorem BP:∀b off w,(Instr.fieldAt 163 (.pointer (some ⟨b,off,none⟩)) 0).run prog w= .ok (.pointer (some ⟨b,off+0,none⟩)) w:=fun b off w=>by go_simp
theorem Dp:∀b off w,(Instr.fieldAt 163 (.pointer (some ⟨b,off,none⟩)) 1).run prog w= .ok (.pointer (some ⟨b,off+1,none⟩)) w:=fun b off w=>by go_simp
theorem DA (h:w.cell? ⟨b,off,none⟩=some v0):(Instr.loadAt 3 (.pointer (some ⟨b,off,none⟩))).run prog w= .ok v0 w:=by go_simp
theorem Uo (h:w.cell? ⟨b,off,none⟩=some v0):(Instr.loadAt 9 (.pointer (some ⟨b,off,none⟩))).run prog w= .ok v0 w:=by go_simp
theorem Fd (h:w.cell? ⟨b,off,none⟩=some v0):(Instr.loadAt 24 (.pointer (some ⟨b,off,none⟩))).run prog w= .ok v0 w:=by go_simp
theorem FF (h:w.cell? ⟨b,off,none⟩=some v0):(Instr.loadAt 25 (.pointer (some ⟨b,off,none⟩))).run prog w= .ok v0 w:=by go_simp
theorem La (h:w.cell? ⟨b,off,none⟩=some v0):(Instr.loadAt 26 (.pointer (some ⟨b,off,none⟩))).run prog w= .ok v0 w:=by go_simp
theorem M5 (h:w.cell? ⟨b,off,none⟩=some v0):(Instr.loadAt 27 (.pointer (some ⟨b,off,none⟩))).run prog w= .ok v0 w:=by go_simp
theorem PV (h0:w.cell? ⟨b,off,none⟩=some v0) (h1:w.cell? ⟨b,off+1,none⟩=some v1) (h2:w.cell? ⟨b,off+2,none⟩=some v2) (h3:w.cell? ⟨b,off+3,none⟩=some v3):(Instr.loadAt 29 (.pointer (some ⟨b,off,none⟩))).run prog w= .ok (.agg #[v0,v1,v2,v3]) w:=by go_simp
theorem Qh (h:w.cell? ⟨b,off,none⟩=some v0):(Instr.loadAt 30 (.pointer (some ⟨b,off,none⟩))).run prog w= .ok v0 w:=by go_simp
theorem Vw (h:w.cell? ⟨b,off,none⟩=some v0):(Instr.loadAt 31 (.pointer (some ⟨b,off,none⟩))).run prog w= .ok v0 w:=by go_simp
theorem Vx (h0:w.cell? ⟨b,off,none⟩=some v0) (h1:w.cell? ⟨b,off+1,none⟩=some v1) (h2:w.cell? ⟨b,off+2,none⟩=some v2) (h3:w.cell? ⟨b,off+3,none⟩=some v3) (h4:w.cell? ⟨b,off+4,none⟩=some v4) (h5:w.cell? ⟨b,off+5,none⟩=some v5):(Instr.loadAt 44 (.pointer (some ⟨b,off,none⟩))).run prog w= .ok (.agg #[v0,v1,v2,v3,v4,v5]) w:=by go_simp
theorem Ie (h:w.cell? ⟨b,off,none⟩=some v0):(Instr.loadAt 67 (.pointer (some ⟨b,off,none⟩))).run prog w= .ok v0 w:=by go_simp
theorem Vv (h0:w.cell? ⟨b,off,none⟩=some v0) (h1:w.cell? ⟨b,off+1,none⟩=some v1) (h2:w.cell? ⟨b,off+2,none⟩=some v2):(Instr.loadAt 127 (.pointer (some ⟨b,off,none⟩))).run prog w= .ok (.agg #[v0,v1,v2]) w:=by go_simp
theorem Vg (h0:w.cell? ⟨b,off,none⟩=some v0) (h1:w.cell? ⟨b,off+1,none⟩=some v1) (h2:w.cell? ⟨b,off+2,none⟩=some v2) (h3:w.cell? ⟨b,off+3,none⟩=some v3):(Instr.loadAt 140 (.pointer (some ⟨b,off,none⟩))).run prog w= .ok (.agg #[v0,v1,v2,v3]) w:=by go_simp
theorem DY (h:w.cell? ⟨b,off,none⟩=some v0):(Instr.loadAt 161 (.pointer (some ⟨b,off,none⟩))).run prog w= .ok v0 w:=by go_simp
theorem Un (h0:w.cell? ⟨b,off,none⟩=some v0) (h1:w.cell? ⟨b,off+1,none⟩=some v1) (h2:w.cell? ⟨b,off+2,none⟩=some v2) (h3:w.cell? ⟨b,off+3,none⟩=some v3) (h4:w.cell? ⟨b,off+4,none⟩=some v4) (h5:w.cell? ⟨b,off+5,none⟩=some v5) (h6:w.cell? ⟨b,off+6,none⟩=some v6):(Instr.loadAt 163 (.pointer (some ⟨b,off,none⟩))).run prog w= .ok (.agg #[v0,v1,v2,v3,v4,v5,v6]) w:=by go_simp
end
section
variable {P:Program}
theorem AH {id:Nat} {Q:Exit→Act→World→Prop} {a0:Act} {w0:World} {l:List Oper} (n:Nat) (hm:P.follows .mixedOrders=true) (hB:IA l n=true)
 (N:Nat) (hN:a0.tmps.size=N) (hD:UV l n N=true) (R:Nat→Value→World→Prop) (hmono:∀i,i<n→∀v w w',Below w.heap.size w w'→R i v w→R i v w')
 (hstep:∀i,i<n→∀o,l[i]? =some o→∀a w,Hid (a.defers=a0.defers∧a.tmps.size=a0.tmps.size∧∀t,(∀i,i<n→AX l i≠t)→a.tmps[t]? =a0.tmps[t]?)→
  Hid (∀j,Region.waitsFor .any l.toArray i j=true→R j (a.tmps[AX l j]?.getD undef) w)→Below w0.heap.size w0 w→
  ∀K:Act→World→Prop,Hid (∀v w',R i v w'→Below w.heap.size w w'→K (a.put o.dst v) w')→AI P l o a w K Q)
 (htail:∀(vs:Nat→Value) w,(∀i,i<n→R i (vs i) w)→Below w0.heap.size w0 w→wpList P l.toArray Q (l.drop n) {a0 with tmps:=Ai l (List.range n) vs a0.tmps} w):
 (Code.region id l.toArray true).wp P Q a0 w0:=by
 refine Fo n hm hB N hN hD R (fun _ w=>Below w0.heap.size w0 w) ⟨rfl,rfl,rfl,Nat.le_refl _,fun _ _=>rfl⟩ ?_ (fun vs w h1 _ _ h2=>htail vs w h1 h2);intro i hi o ho a w Hb Hd L HL hG K HK;exact hstep i hi o ho a w Hb Hd hG K (AA fun v w' h1 h2=>HK.out v w' h1 (hG.trans ⟨h2.os,h2.tape,h2.output,h2.size,fun k hk=>h2.block k (Nat.lt_of_lt_of_le hk hG.size)⟩) (fun j u _ hj _ h=>hmono j hj u w w' h2 h))
end
def Ag (x:AQ):List Value:=[.int .i64 x.k, .string x.g, .int .i64 x.r]
theorem As (x:AQ):(Ag x).length=3:=rfl
def AQ.val (x:AQ):Value:= .agg #[.int .i64 x.k, .string x.g, .int .i64 x.r]
def AP (x:Aa):List Value:=[.int .i64 x.e, .int .i64 x.p, .int .i64 x.f, .bool x.w]
theorem Bi (x:Aa):(AP x).length=4:=rfl
def Aa.val (x:Aa):Value:= .agg #[.int .i64 x.e, .int .i64 x.p, .int .i64 x.f, .bool x.w]
def An (s:ByteArray):List Value:=[.string s]
theorem EJ (s:ByteArray):(An s).length=1:=rfl
def Fg (v:Value):List Value:=[v]
theorem EG (v:Value):(Fg v).length=1:=rfl
def ED (p:Value×Int):List Value:=[p.1, .int .i64 p.2]
theorem Fv (p:Value×Int):(ED p).length=2:=rfl
def A3 {α:Type} (sz:Nat) (cs:α→List Value) (w:World) (v:Value) (xs:List α):Prop:=Rd w v sz xs.length (Bj cs xs)
def AJ {α:Type} (lo e sz:Nat) (cs:α→List Value) (w:World) (v:Value) (xs:List α):Prop:=w.ownsRow lo e sz v xs.length (Bj cs xs)
section
variable {α:Type} {sz lo e:Nat} {cs:α→List Value} {w w':World} {v:Value} {xs:List α}
theorem A3.below (h:A3 sz cs w v xs) (hb:Below w.heap.size w w'):A3 sz cs w' v xs:=Rd.below h hb
theorem AJ.rd (h:AJ lo e sz cs w v xs):A3 sz cs w v xs:=Rd.of_owns h
theorem AJ.below (h:AJ lo e sz cs w v xs) (hb:Below w.heap.size w w'):AJ lo e sz cs w' v xs:=Bw h hb
theorem AJ.grown {row:Option Nat} (h:AJ lo e sz cs w v xs) (hg:w.grownBy w' row) (hne:v.ownBlock=none∨v.ownBlock≠row):AJ lo e sz cs w' v xs:=Av h hg hne
theorem AJ.lower {lo':Nat} (h:AJ lo e sz cs w v xs) (hl:lo'≤lo):AJ lo' e sz cs w v xs:=BQ h hl
theorem A3.shape (h:A3 sz cs w v xs):∃a cap,v= .slice a xs.length cap∧xs.length≤cap∧cap≤maxLen:=Rd.shape h
theorem A3.open (hs:∀x,(cs x).length=sz) (hsz:0<sz) (h:A3 sz cs w v xs):∃a cap,v= .slice a xs.length cap∧xs.length≤cap∧cap≤maxLen∧Px sz cs w a xs:=by obtain⟨a,cap,rfl,h1,h2⟩:=Rd.shape h;exact⟨a,cap,rfl,h1,h2,Px.of hs hsz h⟩
end
abbrev BH (w:World) (v:Value) (xs:List AQ):Prop:=A3 3 Ag w v xs
abbrev Bn (w:World) (v:Value) (xs:List Aa):Prop:=A3 4 AP w v xs
abbrev BC (w:World) (v:Value) (xs:List ByteArray):Prop:=A3 1 An w v xs
def FP {α β:Type} (R:α→β→Prop) (xs:List α) (ys:List β):Prop:=xs.length=ys.length∧∀(i:Nat) x y,xs[i]? =some x→ys[i]? =some y→R x y
theorem FP.mono {α β:Type} {R S:α→β→Prop} {xs:List α} {ys:List β} (h:FP R xs ys) (hRS:∀x y,R x y→S x y):FP S xs ys:=⟨h.1,fun i x y hx hy=>hRS _ _ (h.2 i x y hx hy)⟩
theorem FP.nil {α β:Type} {R:α→β→Prop}:FP R [] []:=⟨rfl,fun i x y h=>by simp at h⟩
theorem FP.snoc {α β:Type} {R:α→β→Prop} {xs:List α} {ys:List β} {x:α} {y:β} (h:FP R xs ys) (hxy:R x y):FP R (xs++[x]) (ys++[y]):=by
 refine⟨by simp[h.1],fun i a b ha hb=>?_⟩
 by_cases hi:i<xs.length
 ·rw[List.getElem?_append_left hi] at ha
  rw[List.getElem?_append_left (by rw[←h.1];exact hi)] at hb;exact h.2 i a b ha hb
 ·have h1:=(List.getElem?_eq_some_iff.1 ha).1
  simp at h1;obtain rfl:i=xs.length:=by omega
  simp at ha;rw[h.1] at hb;simp at hb;subst ha hb;exact hxy
def BJ (w:World) (v:Value) (xss:List (List Int)):Prop:=∃vs,A3 1 Fg w v vs∧FP (Ap w) vs xss
def IJ (w:World) (v:Value) (tss:List (List ByteArray)):Prop:=∃vs,A3 1 Fg w v vs∧FP (BC w) vs tss
def Fp (w:World) (v:Value) (es:List EM):Prop:=∃ps,A3 2 ED w v ps∧FP (fun p e=>BC w p.1 e.rights∧p.2=e.root) ps es
def Mb (w:World) (m i e c:Value) (k:AN):Prop:=BJ w m k.mem∧BH w i k.infos∧Fp w e k.envs∧Bn w c k.cache
section
variable {w w':World} {v:Value}
theorem BJ.below {xss:List (List Int)} (h:BJ w v xss) (hb:Below w.heap.size w w'):BJ w' v xss:=by
 obtain⟨vs,h1,h2⟩:=h;exact⟨vs,h1.below hb,h2.mono fun _ _ h=>Ap.below h hb⟩
theorem IJ.below {tss:List (List ByteArray)} (h:IJ w v tss) (hb:Below w.heap.size w w'):IJ w' v tss:=by
 obtain⟨vs,h1,h2⟩:=h;exact⟨vs,h1.below hb,h2.mono fun _ _ h=>A3.below h hb⟩
theorem Fp.below {es:List EM} (h:Fp w v es) (hb:Below w.heap.size w w'):Fp w' v es:=by
 obtain⟨ps,h1,h2⟩:=h;exact⟨ps,h1.below hb,h2.mono fun _ _ h=>⟨A3.below h.1 hb,h.2⟩⟩
theorem Mb.below {m i e c:Value} {k:AN} (h:Mb w m i e c k) (hb:Below w.heap.size w w'):Mb w' m i e c k:=⟨h.1.below hb,h.2.1.below hb,h.2.2.1.below hb,h.2.2.2.below hb⟩
end
def CJ (vs:List Value):Prop:=∀(i j:Nat) u u',i≠j→vs[i]? =some u→vs[j]? =some u'→Fa u u'
theorem CJ.nil:CJ []:=fun i j u u' _ h=>by simp at h
theorem CJ.snoc {vs:List Value} {v:Value} (h:CJ vs) (hv:∀u∈vs,Fa u v):CJ (vs++[v]):=by
 intro i j u u' hij hi hj;have h1:=(List.getElem?_eq_some_iff.1 hi).1;have h2:=(List.getElem?_eq_some_iff.1 hj).1;simp at h1 h2
 by_cases hi':i<vs.length
 ·rw[List.getElem?_append_left hi'] at hi
  by_cases hj':j<vs.length
  ·rw[List.getElem?_append_left hj'] at hj
   exact h i j u u' hij hi hj
  ·obtain rfl:j=vs.length:=by omega
   simp at hj;subst hj;exact hv u (List.mem_of_getElem? hi)
 ·obtain rfl:i=vs.length:=by omega
  simp at hi;subst hi;rw[List.getElem?_append_left (by omega)] at hj;exact(hv u' (List.mem_of_getElem? hj)).symm
def Ah (lo:Nat) (w:World) (v:Value) (vs:List Value) (xss:List (List Int)):Prop:=AJ lo 30 1 Fg w v vs∧FP (AE lo w) vs xss∧CJ vs
def Bm (lo:Nat) (w:World) (v:Value) (ps:List (Value×Int)) (es:List EM):Prop:=AJ lo 85 2 ED w v ps∧FP (fun p e=>AJ lo 9 1 An w p.1 e.rights∧p.2=e.root) ps es∧CJ (ps.map (·.1))
theorem Ah.rd {lo:Nat} {w:World} {v:Value} {vs:List Value} {xss:List (List Int)} (h:Ah lo w v vs xss):BJ w v xss:=⟨vs,h.1.rd,h.2.1.mono fun _ _ h=>AE.rd h⟩
theorem Bm.rd {lo:Nat} {w:World} {v:Value} {ps:List (Value×Int)} {es:List EM} (h:Bm lo w v ps es):Fp w v es:=⟨ps,h.1.rd,h.2.1.mono fun _ _ h=>⟨h.1.rd,h.2⟩⟩
theorem Ah.below {lo:Nat} {w w':World} {v:Value} {vs:List Value} {xss:List (List Int)} (h:Ah lo w v vs xss) (hb:Below w.heap.size w w'):Ah lo w' v vs xss:=⟨h.1.below hb,h.2.1.mono fun _ _ h=>AE.below h hb,h.2.2⟩
theorem Bm.below {lo:Nat} {w w':World} {v:Value} {ps:List (Value×Int)} {es:List EM} (h:Bm lo w v ps es) (hb:Below w.heap.size w w'):Bm lo w' v ps es:=⟨h.1.below hb,h.2.1.mono fun _ _ h=>⟨h.1.below hb,h.2⟩,h.2.2⟩
theorem Ah.lower {lo lo':Nat} {w:World} {v:Value} {vs:List Value} {xss:List (List Int)} (h:Ah lo w v vs xss) (hl:lo'≤lo):Ah lo' w v vs xss:=⟨h.1.lower hl,h.2.1.mono fun _ _ h=>BQ h hl,h.2.2⟩
theorem Bm.lower {lo lo':Nat} {w:World} {v:Value} {ps:List (Value×Int)} {es:List EM} (h:Bm lo w v ps es) (hl:lo'≤lo):Bm lo' w v ps es:=⟨h.1.lower hl,h.2.1.mono fun _ _ h=>⟨h.1.lower hl,h.2⟩,h.2.2⟩
theorem CY {α:Type} (cs:α→List Value) (w:World) (e sz:Nat):AJ w.heap.size e sz cs (w.alloc (.cells #[] e)) (.slice (some ⟨w.heap.size,0,none⟩) 0 0) []:=Cb w e sz
def Cz (lo:Nat) (w:World) (m i e c:Value) (k:AN):Prop:=
 (∃vs,Ah lo w m vs k.mem)∧AJ lo 135 3 Ag w i k.infos∧(∃ps,Bm lo w e ps k.envs)∧AJ lo 140 4 AP w c k.cache
theorem Cz.rd {lo:Nat} {w:World} {m i e c:Value} {k:AN} (h:Cz lo w m i e c k):Mb w m i e c k:=⟨h.1.choose_spec.rd,h.2.1.rd,h.2.2.1.choose_spec.rd,h.2.2.2.rd⟩
theorem Cz.below {lo:Nat} {w w':World} {m i e c:Value} {k:AN} (h:Cz lo w m i e c k) (hb:Below w.heap.size w w'):Cz lo w' m i e c k:=
 ⟨⟨_,h.1.choose_spec.below hb⟩,h.2.1.below hb,⟨_,h.2.2.1.choose_spec.below hb⟩,h.2.2.2.below hb⟩
theorem Bf {w:World} {lo e sz n:Nat} {v:Value} {xs:List Value} (h:w.ownsRow lo e sz v n xs):∀g,v.ownBlock=some g→∃cur,w.heap[g]? =some (.cells cur e (0,0)):=by
 intro g hg
 rcases h.2 with⟨rfl,_⟩|⟨g',cap,cur,rfl,_,hh,_⟩
 ·simp[Value.ownBlock] at hg
 ·simp[Value.ownBlock] at hg
  subst hg;exact⟨cur,hh⟩
theorem BK {w:World} {lo lo' e e' sz sz' n n':Nat} {v v':Value} {xs xs':List Value} (h:w.ownsRow lo e sz v n xs) (h':w.ownsRow lo' e' sz' v' n' xs') (hne:e≠e'):Fa v v':=by intro g hg hg';obtain⟨c1,h1⟩:=Bf h g hg;obtain⟨c2,h2⟩:=Bf h' g hg';rw[h1] at h2;simp at h2;exact hne h2.2
theorem AB {w:World} {g t:Nat} {m i e c:Value} (h:w.heap[g]? =some (.cells #[m,i,e,c] t (0,0))):w.cell? ⟨g,0,none⟩=some m∧w.cell? ⟨g,1,none⟩=some i∧w.cell? ⟨g,2,none⟩=some e∧w.cell? ⟨g,3,none⟩=some c:=
 ⟨cell_of_row w g 0 _ _ _ h,cell_of_row w g 1 _ _ _ h,cell_of_row w g 2 _ _ _ h,cell_of_row w g 3 _ _ _ h⟩
theorem AM {w:World} {g t:Nat} {cs:Array Value} (h:w.heap[g]? =some (.cells cs t (0,0))):∀j,w.frozen? ⟨g,j,none⟩=false:=fun j=>frozen_of_row w g j _ _ h
theorem Ao {w:World} {g:Nat} {o:Obj} (h:w.heap[g]? =some o):g<w.heap.size:=(Array.getElem?_eq_some_iff.1 h).1
theorem AF {w w':World} {g:Nat} {o:Obj} (h:w.heap[g]? =some o) (hb:Below w.heap.size w w'):w'.heap[g]? =some o:=(hb.block g (Ao h)).trans h
theorem DJ {w:World} {g t:Nat} {m i e c m' i' e' c':Value} (h:w.heap[g]? =some (.cells #[m,i,e,c] t (0,0))):
 ((((w.setCell ⟨g,0,none⟩ m').setCell ⟨g,1,none⟩ i').setCell ⟨g,2,none⟩ e').setCell ⟨g,3,none⟩ c').heap[g]? =some (.cells #[m',i',e',c'] t (0,0)):=by
 have h0:=heap_setCell_same w g 0 _ t m' h;have h1:=heap_setCell_same _ g 1 _ t i' h0;have h2:=heap_setCell_same _ g 2 _ t e' h1;have h3:=heap_setCell_same _ g 3 _ t c' h2;simpa using h3
theorem Ek {w w':World} {lo e sz n g T:Nat} {v:Value} {xs:List Value} {cur:Array Value} {fr:Nat×Nat} (h:w.ownsRow lo e sz v n xs) (hg:w.grownBy w' (some g)) (hb:w.heap[g]? =some (.cells cur T fr)) (hne:e≠T):w'.ownsRow lo e sz v n xs:=by
 refine Av h hg ?_;cases hv:v.ownBlock with
 |none=>exact .inl rfl
 |some k=>
  refine .inr fun he=>?_
  simp only[Option.some.injEq] at he;subst he;obtain⟨c1,h1⟩:=Bf h k hv;rw[h1] at hb;simp at hb;exact hne hb.2.1
section
variable {w w':World} {lo g T:Nat} {v:Value} {cur:Array Value} {fr:Nat×Nat}
theorem AJ.far {α:Type} {e sz:Nat} {cs:α→List Value} {xs:List α} (h:AJ lo e sz cs w v xs) (hg:w.grownBy w' (some g)) (hb:w.heap[g]? =some (.cells cur T fr)) (hne:e≠T):AJ lo e sz cs w' v xs:=Ek h hg hb hne
theorem Ah.far {vs:List Value} {xss:List (List Int)} (h:Ah lo w v vs xss) (hg:w.grownBy w' (some g)) (hb:w.heap[g]? =some (.cells cur T fr)) (h1:30≠T) (h2:3≠T):Ah lo w' v vs xss:=
 ⟨h.1.far hg hb h1,h.2.1.mono fun _ _ h=>Ek h hg hb h2,h.2.2⟩
theorem Bm.far {ps:List (Value×Int)} {es:List EM} (h:Bm lo w v ps es) (hg:w.grownBy w' (some g)) (hb:w.heap[g]? =some (.cells cur T fr)) (h1:85≠T) (h2:9≠T):Bm lo w' v ps es:=
 ⟨h.1.far hg hb h1,h.2.1.mono fun _ _ h=>⟨h.1.far hg hb h2,h.2⟩,h.2.2⟩
end
theorem Ah.kept {w w':World} {lo lo' e sz n:Nat} {v u:Value} {vs xs:List Value} {xss:List (List Int)} (h:Ah lo w v vs xss) (hg:w.grownBy w' u.ownBlock) (hu:w.ownsRow lo' e sz u n xs) (h1:30≠e) (h2:3≠e):Ah lo w' v vs xss:=
 ⟨Av h.1 hg (BK h.1 hu h1).ne,h.2.1.mono fun _ _ h=>Av h hg (BK h hu h2).ne,h.2.2⟩
theorem Al (w:World) (g j:Nat) (u:Value):w.grownBy (w.setCell ⟨g,j,none⟩ u) (some g):=⟨rfl,rfl,rfl,by simp,fun k _ hk=>heap_setCell_other w ⟨g,j,none⟩ k u (fun e=>hk (by simp[e]))⟩
theorem Ab {w0 w:World} {g:Nat} (h:w0.grownBy w (some g)) (j:Nat) (u:Value):w0.grownBy (w.setCell ⟨g,j,none⟩ u) (some g):=EP h (Al w g j u)
end Go.Proofs.YtnieoiclifjoaaaGreatDoor
set_option linter.unusedVariables false
set_option linter.unusedSimpArgs false
namespace Go.Proofs.YtnieoiclifjoaaaGreatDoor
open Go.Proofs.Tryz
section
variable {α:Type}
theorem A8 {l:List α} {i:Nat} {d:α} (h:i<l.length):l[i]? =some (l.getD i d):=by simp[h]
theorem Dz {l:List α} {i:Nat} {d:α} (h:i<l.length):l.getD i d∈l:=List.mem_of_getElem? (A8 h)
theorem Hv {l:List α} {x d:α} (h:x∈l):∃i,i<l.length∧l.getD i d=x:=by obtain⟨i,hi,rfl⟩:=List.getElem_of_mem h;exact⟨i,hi,by simp[hi]⟩
theorem Hj {l:List α} {i j:Nat} {x d:α}:(l.set i x).getD j d=if j=i∧i<l.length then x else l.getD j d:=by
 simp only[List.getD_eq_getElem?_getD,List.getElem?_set]
 by_cases h:i=j
 ·subst h
  by_cases h2:i<l.length
  ·simp[h2]
  ·simp[h2]
 ·have h':¬j=i:=fun e=>h e.symm
  simp[h,h']
theorem Au {l:List α} {i:Nat} {f:α→α}:(AV l i f).length=l.length:=by
 unfold AV
 split<;>simp
theorem KZ {l:List α} {i j:Nat} {f:α→α} {d:α}:(AV l i f).getD j d=if j=i∧i<l.length then f (l.getD i d) else l.getD j d:=by
 unfold AV
 split
 ·rename_i x hx
  have hi:=(List.getElem?_eq_some_iff.1 hx).1;rw[Hj];have:l.getD i d=x:=by simp[hx]
  rw[this]
 ·rename_i hx
  have hi:¬i<l.length:=by simpa using hx
  simp[hi]
theorem Ig {l:List α} {i:Nat} {f:α→α} {d:α}:AV l i f=l.set i (f (l.getD i d)):=by
 unfold AV
 split
 ·rename_i x hx
  simp[hx]
 ·rename_i hx
  have hi:l.length≤i:=by simpa using hx
  rw[List.set_eq_of_length_le hi]
theorem Jz {n:Nat} {p:Nat→Bool}:(List.range n).all p=true↔∀i,i<n→p i=true:=by simp[List.all_eq_true]
theorem MI {l:List α} {p:α→Bool}:l.any p=true↔∃x∈l,p x=true:=by simp
end
theorem Lh {F G:Nat→Nat} {n:Nat} (h:∀t,t<n→F t=G t):((List.range n).map F).sum=((List.range n).map G).sum:=by
 induction n with
 |zero=>rfl
 |succ n ih=>rw[List.range_succ,List.map_append,List.map_append,List.sum_append,List.sum_append,ih (fun t ht=>h t (by omega))];simp[h n (by omega)]
theorem J1 {F G:Nat→Nat} {n f:Nat} (hf:f<n) (h:∀t,t<n→t≠f→F t=G t):((List.range n).map F).sum+G f=((List.range n).map G).sum+F f:=by
 induction n with
 |zero=>omega
 |succ n ih=>
  rw[List.range_succ,List.map_append,List.map_append,List.sum_append,List.sum_append];simp only[List.map_cons,List.map_nil,List.sum_cons,List.sum_nil,Nat.add_zero]
  by_cases hn:f=n
  ·subst hn
   rw[Lh (fun t ht=>h t (by omega) (by omega))];omega
  ·have:=ih (by omega) (fun t ht hne=>h t (by omega) hne)
   have:=h n (by omega) (by omega);omega
theorem Qs {F:Nat→Nat} {n:Nat}:((List.range n).map F).sum=0↔∀t,t<n→F t=0:=by
 induction n with
 |zero=>simp
 |succ n ih=>
  rw[List.range_succ,List.map_append,List.sum_append];simp only[List.map_cons,List.map_nil,List.sum_cons,List.sum_nil,Nat.add_zero];constructor
  ·intro h t ht
   by_cases e:t=n
   ·subst e;omega
   ·exact ih.1 (by omega) t (by omega)
  ·intro h
   rw[ih.2 (fun t ht=>h t (by omega)),h n (by omega)]
theorem Vr {F:Nat→Nat} {n c:Nat} (h:∀t,t<n→F t≤c):((List.range n).map F).sum≤c*n:=by
 induction n with
 |zero=>simp
 |succ n ih=>rw[List.range_succ,List.map_append,List.sum_append,Nat.mul_succ];simp only[List.map_cons,List.map_nil,List.sum_cons,List.sum_nil,Nat.add_zero];have:=ih (fun t ht=>h t (by omega));have:=h n (by omega);omega
theorem SP {F:Nat→Nat} {n c g:Nat} (hg:g<n) (h:∀t,t<n→F t≤c) (h0:F g=0):((List.range n).map F).sum+c≤c*n:=by
 have h1:=J1 (F:=F) (G:=fun t=>if t=g then c else F t) hg (fun t ht hne=>by simp[hne]);have h2:=Vr (F:=fun t=>if t=g then c else F t) (n:=n) (c:=c) (fun t ht=>by
  by_cases e:t=g
  ·simp[e]
  ·simp only[e,if_false];exact h t ht)
 simp only[if_true,h0] at h1;omega
theorem DZ {w:Int} (h:BX w=true):Ax w<12:=by simp only[BX,Bool.and_eq_true,decide_eq_true_eq] at h;unfold Ax;omega
theorem FT {r:List Int} {g:Nat}:g∈named r↔∃w∈r,BX w=true∧Ax w=g:=by simp[named,and_assoc]
theorem FL {r:List Int} {g:Nat} (h:g∈named r):g<12:=by obtain⟨w,_,hw,rfl⟩:=FT.1 h;exact DZ hw
def FB (g:Nat) (w:Int):Bool:=BX w&&decide (Ax w=g)
theorem IN {r:List Int} {g:Nat}:(named r).count g=r.countP (FB g):=by
 unfold named
 induction r with
 |nil=>rfl
 |cons w r ih=>
  rw[List.filter_cons];cases hw:BX w
  ·rw[if_neg (by simp),ih,List.countP_cons]
   simp[FB,hw]
  ·rw[if_pos rfl,List.map_cons,List.count_cons,ih,List.countP_cons]
   by_cases h:Ax w=g<;>simp[FB,hw,h]
theorem Ex {r:List Int}:(named r).length≤r.length:=by unfold named;rw[List.length_map];exact List.length_filter_le _ _
def GG (b:Bool):Nat:=if b then 1 else 0
theorem QC {p:Int→Bool} {r:List Int} {b:Nat} {w:Int} (hb:b<r.length):(r.set b w).countP p+GG (p (r.getD b 0))=r.countP p+GG (p w):=by
 induction r generalizing b with
 |nil=>simp at hb
 |cons x r ih=>
  cases b with
  |zero=>simp only[List.set_cons_zero,List.countP_cons,List.getD_cons_zero,GG];omega
  |succ b=>simp only[List.set_cons_succ,List.countP_cons,List.getD_cons_succ];have:=ih (b:=b) (by simpa using hb);omega
theorem Tf {r:List Int} {b g:Nat} {w:Int} (hb:b<r.length):(named (r.set b w)).count g+GG (FB g (r.getD b 0))=(named r).count g+GG (FB g w):=by rw[IN,IN];exact QC hb
theorem Np {r:List Int} {b g:Nat} {w:Int} (h:g∈named (r.set b w)):g∈named r∨(BX w=true∧Ax w=g):=by
 obtain⟨x,hx,h1,h2⟩:=FT.1 h
 rcases List.mem_or_eq_of_mem_set hx with hx|rfl
 ·exact .inl (FT.2 ⟨x,hx,h1,h2⟩)
 ·exact .inr ⟨h1,h2⟩
theorem DN {m:List (List Int)} {root:Int} {f:Nat}:f∈Az m root↔0≤root∧(f=root.toNat∨f∈named (AL m root.toNat)∨∃t,t∈named (AL m root.toNat)∧f∈named (AL m t)):=by
 unfold Az
 split
 ·simp;omega
 ·simp;omega
theorem Lw {m m':List (List Int)} {root:Int} (h0:0≤root→AL m' root.toNat=AL m root.toNat) (h1:0≤root→∀t,t∈named (AL m root.toNat)→AL m' t=AL m t) (f:Nat):f∈Az m' root↔f∈Az m root:=by
 rw[DN,DN]
 by_cases hr:0≤root
 ·rw[h0 hr]
  simp only[hr,true_and];refine or_congr Iff.rfl (or_congr Iff.rfl (exists_congr fun t=>?_));constructor
  ·rintro⟨a,b⟩;exact⟨a,by rw[←h1 hr t a];exact b⟩
  ·rintro⟨a,b⟩;exact⟨a,by rw[h1 hr t a];exact b⟩
 ·simp[hr]
theorem Ga {infos:List AQ} {fs:List Nat} {rights:List ByteArray}:Aq infos fs rights=true↔∀f,f∈fs→Ca rights (infoAt infos f).g=true:=by simp[Aq,List.all_eq_true]
theorem NZ {m m':List (List Int)} {root a:Nat} (h0:AL m' root=AL m root) (h1:∀t,t∈named (AL m root)→AL m' t=AL m t):BV m' root a=BV m root a:=by
 have e0:Am m' root (a/16)=Am m root (a/16):=by unfold Am;rw[h0]
 unfold BV;rw[e0]
 split
 ·rename_i hg
  have hm:Ax (Am m root (a/16))∈named (AL m root):=by
   refine FT.2 ⟨_,?_,hg,rfl⟩;unfold Am at hg ⊢
   by_cases hl:a/16<(AL m root).length
   ·exact Dz hl
   ·have:(AL m root).getD (a/16) 0=0:=by simp at hl;simp[hl]
    rw[this] at hg;simp[BX] at hg
  have e1:Am m' (Ax (Am m root (a/16))) (a/4%4)=Am m (Ax (Am m root (a/16))) (a/4%4):=by unfold Am;unfold Am at hm;rw[h1 _ hm]
  rw[e1]
 ·rfl
theorem K7 {m:List (List Int)} {f i:Nat} (hg:BX (Am m f i)=true):Ax (Am m f i)∈named (AL m f):=by
 refine FT.2 ⟨_,?_,hg,rfl⟩;unfold Am at hg ⊢
 by_cases hl:i<(AL m f).length
 ·exact Dz hl
 ·have:(AL m f).getD i 0=0:=by simp at hl;simp[hl]
  rw[this] at hg;simp[BX] at hg
theorem BG {r:List Int}:Ed r=true↔r.length=4∧∀w∈r,0≤w∧w≤9999:=by simp only[Ed,Bool.and_eq_true,List.all_eq_true,decide_eq_true_eq,E9,AZ];exact And.comm
theorem Af {m:List (List Int)}:Bg m=true↔m.length=12∧∀f,f<12→Ed (AL m f)=true:=by
 simp only[Bg,Bool.and_eq_true,List.all_eq_true,decide_eq_true_eq];constructor
 ·rintro⟨h1,h2⟩
  exact⟨h2,fun f hf=>h1 _ (Dz (by omega))⟩
 ·rintro⟨h1,h2⟩
  refine⟨fun r hr=>?_,h1⟩;obtain⟨i,hi,rfl⟩:=Hv (d:=[]) hr;exact h2 i (by omega)
theorem OT {m:List (List Int)} {f:Nat} {r:List Int} (h:Bg m=true) (hr:Ed r=true):Bg (m.set f r)=true:=by
 rw[Af] at h ⊢;refine⟨by rw[List.length_set];exact h.1,fun g hg=>?_⟩;unfold AL;rw[Hj]
 split
 ·exact hr
 ·exact h.2 g hg
theorem Tv {m:List (List Int)} {f g:Nat} {r:List Int}:AL (m.set f r) g=if g=f∧f<m.length then r else AL m g:=by unfold AL;exact Hj
theorem Jh {m:List (List Int)} {f i g:Nat} {w:Int}:AL (Ch m f i w) g=if g=f∧f<m.length then(AL m f).set i w else AL m g:=by unfold Ch AL;exact KZ
theorem NR {m:List (List Int)} {f i:Nat} {w:Int}:Ch m f i w=m.set f ((AL m f).set i w):=Ig
theorem Og {r:List Int} {i:Nat} {w:Int} (h:Ed r=true) (hw:E9 w=true):Ed (r.set i w)=true:=by
 rw[BG] at h ⊢;refine⟨by rw[List.length_set];exact h.1,fun x hx=>?_⟩
 rcases List.mem_or_eq_of_mem_set hx with hx|rfl
 ·exact h.2 x hx
 ·exact AZ.1 hw
theorem Se:∀(x y:List UInt8),Op.bytesLess x y=decide (x<y)
 | [],[]=>by simp[Op.bytesLess]
 |_::_,[]=>by simp[Op.bytesLess]
 | [],_::_=>by simp[Op.bytesLess]
 |a::x,b::y=>by
  rw[Op.bytesLess,Se x y]
  by_cases h1:a<b
  ·simp[h1,List.cons_lt_cons_iff]
  ·by_cases h2:a=b
   ·subst h2;simp[List.cons_lt_cons_iff]
   ·simp[h1,h2,List.cons_lt_cons_iff]
def Ke (a b:ByteArray):Bool:=Op.bytesLess a.toList b.toList
theorem JD {a b:ByteArray}:Ke a b=true↔a.toList<b.toList:=by simp[Ke,Se]
theorem KU {a b:ByteArray}:Kd a b=!Ke a b:=rfl
theorem Lb {a b c:ByteArray} (h1:Ke a b=true) (h2:Ke b c=true):Ke a c=true:=JD.2 (List.lt_trans (JD.1 h1) (JD.1 h2))
theorem toList_inj {a b:ByteArray} (h:a.toList=b.toList):a=b:=by have ha:a.toList=a.data.toList:=Lib.toList_data a;have hb:b.toList=b.data.toList:=Lib.toList_data b;rw[ha,hb] at h;cases a;cases b;simp at h;rw[h]
theorem Rn {a b:ByteArray} (h:Ke a b=false) (hne:a≠b):Ke b a=true:=by
 rw[JD];have h1:¬a.toList<b.toList:=by rw[←JD];simp[h]
 have h2:a.toList≠b.toList:=fun e=>hne (toList_inj e)
 have h3:b.toList≤a.toList:=List.not_lt.1 h1
 rcases List.le_iff_lt_or_eq.1 h3 with h|h
 ·exact h
 ·exact absurd h.symm h2
theorem ER {ss:List ByteArray}:A2 ss=true↔(∀s∈ss,A4 s=true)∧ss.Pairwise (fun a b=>Ke a b=true)∧ss.length≤6:=by
 unfold A2;simp only[Bool.and_eq_true,decide_eq_true_eq,Jz,Bx,Bool.or_eq_true,KU,Bool.not_not];constructor
 ·rintro⟨h,hl⟩
  refine⟨fun s hs=>?_,?_,hl⟩
  ·obtain⟨i,hi,rfl⟩:=Hv (d:=⟨#[]⟩) hs
   exact(h i hi).1
  ·rw[List.pairwise_iff_getElem]
   have key:∀d i,i+1+d<ss.length→Ke (Bp ss i) (Bp ss (i+1+d))=true:=by
    intro d
    induction d with
    |zero=>
     intro i hi
     rcases(h (i+1) (by omega)).2 with h'|h'
     ·omega
     ·simpa using h'
    |succ d ih=>
     intro i hi;have h1:=ih i (by omega)
     rcases(h (i+1+(d+1)) (by omega)).2 with h'|h'
     ·omega
     ·refine Lb h1 ?_
      have e:i+1+(d+1) - 1=i+1+d:=by omega
      rw[e] at h';exact h'
   intro i j hi hj hij;have:=key (j - i - 1) i (by omega);have e:i+1+(j - i - 1)=j:=by omega
   rw[e] at this;simpa[Bp,hi,hj] using this
 ·rintro⟨h1,h2,h3⟩
  refine⟨fun i hi=>⟨h1 _ (Dz hi),?_⟩,h3⟩
  by_cases h0:i=0
  ·exact .inl h0
  ·right
   rw[List.pairwise_iff_getElem] at h2;have:=h2 (i - 1) i (by omega) hi (by omega);simpa[Bp,hi,show i - 1<ss.length by omega] using this
theorem P6 {ss:List ByteArray} {s x:ByteArray}:x∈Mg ss s↔x=s∨x∈ss:=by
 unfold Mg;have e:=List.takeWhile_append_dropWhile (p:=fun x=>!Kd x s) (l:=ss);constructor
 ·intro h
  rcases List.mem_append.1 h with h|h
  ·right;rw[←e];exact List.mem_append_left _ h
  ·rcases List.mem_cons.1 h with h|h
   ·exact .inl h
   ·right;rw[←e];exact List.mem_append_right _ h
 ·rintro(rfl|h)
  ·simp
  ·rw[←e] at h
   rcases List.mem_append.1 h with h|h
   ·exact List.mem_append_left _ h
   ·exact List.mem_append_right _ (List.mem_cons_of_mem _ h)
theorem Jb {p:ByteArray→Bool} {l:List ByteArray} {x:ByteArray} (h:x∈l.takeWhile p):p x=true:=by
 induction l with
 |nil=>simp at h
 |cons y l ih=>
  rw[List.takeWhile_cons] at h
  split at h
  ·rename_i hy
   rcases List.mem_cons.1 h with rfl|h
   ·exact hy
   ·exact ih h
  ·simp at h
theorem VK {ss:List ByteArray} {s:ByteArray} (h:A2 ss=true) (hs:A4 s=true) (hn:s∉ss) (hl:ss.length≠6):A2 (Mg ss s)=true:=by
 rw[ER] at h ⊢;obtain⟨h1,h2,h3⟩:=h;have e:=List.takeWhile_append_dropWhile (p:=fun x=>!Kd x s) (l:=ss);refine⟨fun x hx=>?_,?_,?_⟩
 ·rcases P6.1 hx with rfl|hx
  ·exact hs
  ·exact h1 x hx
 ·unfold Mg
  rw[←e] at h2;rw[List.pairwise_append] at h2 ⊢;obtain⟨p1,p2,p3⟩:=h2;have hge:∀y∈ss.dropWhile (fun x=>!Kd x s),Ke s y=true:=by
   generalize hd:ss.dropWhile (fun x=>!Kd x s)=l at p2;cases l with
   |nil=>simp
   |cons y l=>
    have hy0:(!Kd y s)=false:=by
     have:=List.head?_dropWhile_not (fun x=>!Kd x s) ss;rw[hd] at this;simpa using this
    have hym:y∈ss:=by rw[←e,hd];exact List.mem_append_right _ (List.mem_cons_self ..)
    have hy:Ke s y=true:=Rn (by simpa[KU] using hy0) (fun e=>hn (e▸hym));intro z hz
    rcases List.mem_cons.1 hz with rfl|hz
    ·exact hy
    ·exact Lb hy ((List.pairwise_cons.1 p2).1 z hz)
  refine⟨p1,List.pairwise_cons.2 ⟨hge,p2⟩,fun a ha b hb=>?_⟩;have has:Ke a s=true:=by simpa[KU] using Jb ha
  rcases List.mem_cons.1 hb with rfl|hb
  ·exact has
  ·exact p3 a ha b hb
 ·have:(Mg ss s).length=ss.length+1:=by
   unfold Mg;rw[List.length_append,List.length_cons];have:=congrArg List.length e;rw[List.length_append] at this;omega
  omega
theorem TH {ss:List ByteArray} {p:ByteArray→Bool} (h:A2 ss=true):A2 (ss.filter p)=true:=by
 rw[ER] at h ⊢;exact⟨fun s hs=>h.1 s (List.mem_filter.1 hs).1,h.2.1.filter _,Nat.le_trans (List.length_filter_le _ _) h.2.2⟩
theorem M9 {rights:List ByteArray} {g:ByteArray}:Ca rights g=true↔∃s∈rights,LR s g=true:=by simp[Ca]
theorem Te {r r':List ByteArray} {g:ByteArray} (h:∀s∈r,s∈r') (hm:Ca r g=true):Ca r' g=true:=by obtain⟨s,hs,hc⟩:=M9.1 hm;exact M9.2 ⟨s,h s hs,hc⟩
theorem Us (g:ByteArray):Ca [⟨#[]⟩] g=true:=by refine M9.2 ⟨_,List.mem_cons_self ..,?_⟩;simp[LR]
theorem Vm {ss:List ByteArray} {s:ByteArray} (h:A2 ss=true) (hs:A4 s=true):A2 (A6 ss s).1=true:=by
 unfold A6
 split
 ·exact h
 ·rename_i hn
  split
  ·exact h
  ·rename_i hl
   exact VK h hs (fun hm=>hn (MI.2 ⟨s,hm,by simp⟩)) hl
theorem UL {ss:List ByteArray} {s x:ByteArray} (hx:x∈ss):x∈(A6 ss s).1:=by
 unfold A6
 split
 ·exact hx
 ·split
  ·exact hx
  ·exact P6.2 (.inr hx)
theorem Ef {c:List Aa}:Bc c=true↔(∀x∈c,CZ x=true)∧c.Pairwise (fun x y=>A5 y.e y.p x=false)∧c.length≤4:=by
 unfold Bc;simp only[Bool.and_eq_true,decide_eq_true_eq,Jz,EI,Bool.not_eq_true',List.any_eq_false];constructor
 ·rintro⟨h,hl⟩
  refine⟨fun x hx=>?_,?_,hl⟩
  ·obtain⟨i,hi,rfl⟩:=Hv (d:=⟨0,0,0,false⟩) hx
   exact(h i hi).1
  ·rw[List.pairwise_iff_getElem]
   intro i j hi hj hij;have h2:=(h j hj).2 c[i] (List.mem_take_iff_getElem.2 ⟨i,by omega,rfl⟩);have e:Ac c j=c[j]:=by simp[Ac,hj]
   rw[e] at h2;simpa using h2
 ·rintro⟨h1,h2,h3⟩
  refine⟨fun i hi=>⟨h1 _ (Dz hi),fun x hx=>?_⟩,h3⟩;obtain⟨j,hj,rfl⟩:=List.mem_take_iff_getElem.1 hx;rw[List.pairwise_iff_getElem] at h2;have:=h2 j i (by omega) hi (by omega);have e:Ac c i=c[i]:=by simp[Ac,hi]
  rw[e];simp[this]
theorem QF {c:List Aa} {e:Int} (h:Bc c=true):Bc (Co c e)=true:=by
 rw[Ef] at h ⊢;unfold Co;exact⟨fun s hs=>h.1 s (List.mem_filter.1 hs).1,h.2.1.filter _,Nat.le_trans (List.length_filter_le _ _) h.2.2⟩
theorem OH {c:List Aa} {e:Int} {x:Aa}:x∈Co c e↔x∈c∧x.e≠e:=by simp[Co]
theorem QG {c:List Aa} {es:List Nat} (h:Bc c=true):Bc (es.foldl (fun c e=>Co c (e:Nat)) c)=true:=by
 induction es generalizing c with
 |nil=>exact h
 |cons e es ih=>exact ih (QF h)
theorem TG {c:List Aa} {es:List Nat} {x:Aa}:x∈es.foldl (fun c e=>Co c (e:Nat)) c↔x∈c∧∀e∈es,x.e≠(e:Int):=by
 induction es generalizing c with
 |nil=>simp
 |cons e es ih=>rw[List.foldl_cons,ih,OH];simp[and_assoc]
theorem Qm {c:List Aa} {x y:Aa} (h:y∈FM c x):y=x∨y∈c:=by
 unfold FM at h
 rcases List.mem_append.1 h with h|h
 ·right
  split at h
  ·exact(List.mem_filter.1 (List.mem_of_mem_drop h)).1
  ·exact(List.mem_filter.1 h).1
 ·left;simpa using h
theorem VW {c:List Aa} {x:Aa} (h:Bc c=true) (hx:CZ x=true):Bc (FM c x)=true:=by
 have hm:=fun y=>Qm (c:=c) (x:=x) (y:=y)
 rw[Ef] at h ⊢;obtain⟨h1,h2,h3⟩:=h;refine⟨fun y hy=>?_,?_,?_⟩
 ·rcases hm y hy with rfl|hy
  ·exact hx
  ·exact h1 y hy
 ·unfold FM
  rw[List.pairwise_append];refine⟨?_,by simp,fun a ha b hb=>?_⟩
  ·split
   ·exact(h2.filter _).drop
   ·exact h2.filter _
  ·obtain rfl:b=x:=by simpa using hb
   have ha':a∈c.filter fun y=>!A5 b.e b.p y:=by
    split at ha
    ·exact List.mem_of_mem_drop ha
    ·exact ha
   simpa using(List.mem_filter.1 ha').2
 ·unfold FM
  have hl:=List.length_filter_le (fun y=>!A5 x.e x.p y) c
  split
  ·rw[List.length_append,List.length_drop];simp;omega
  ·rw[List.length_append];simp;omega
theorem Mp {c:List Aa} {e p:Int} (h:¬FX c e p<0):∃i,i<c.length∧FX c e p=(i:Int)∧A5 e p (Ac c i)=true:=by
 unfold FX at h ⊢
 split
 ·rename_i ha
  obtain⟨x,hx,hs⟩:=MI.1 ha;have hl:c.findIdx (A5 e p)<c.length:=List.findIdx_lt_length.2 ⟨x,hx,hs⟩;refine⟨_,hl,rfl,?_⟩;have:=List.findIdx_getElem (w:=hl);simpa[Ac,hl] using this
 ·rename_i ha
  rw[if_neg ha] at h;omega
def AY (k:AN) (e:Nat):Int:=(AC k.envs e).root
def CQ (k:AN) (e:Nat):List ByteArray:=(AC k.envs e).rights
def A7 (k:AN) (f:Nat):Int:=(infoAt k.infos f).k
def Ou (x:AQ):Prop:=(x.k=0∧x.g=⟨#[]⟩)∨(1≤x.k∧x.k≤3∧A4 x.g=true)
def LC (m:List (List Int)) (infos:List AQ) (g t:Nat):Nat:=if Ba (infoAt infos t).k then(named (AL m t)).count g else 0
theorem EF {m:List (List Int)} {infos:List AQ} {g:Nat}:countP m infos g=((List.range 12).map (LC m infos g)).sum:=rfl
theorem Gg {k:Int}:Ba k=true↔k=2∨k=3:=by simp[Ba]
structure De (k:AN):Prop where
 mem:Bg k.mem=true
 len:k.infos.length=12
 inf:∀f,f<12→Ou (infoAt k.infos f)
 cache:Bc k.cache=true
 envl:k.envs.length=3
 rights:∀e,e<3→A2 (CQ k e)=true
 roots:∀e,e<3→AY k e= -1∨(0≤AY k e∧AY k e≤11∧A7 k (AY k e).toNat=3)
 allow:∀e,e<3→∀f,f∈Az k.mem (AY k e)→Ca (CQ k e) (infoAt k.infos f).g=true
 tabs:∀f,f<12→Ba (A7 k f)=true→∀w∈AL k.mem f,(BX w=true∧Ax w≠f∧A7 k (Ax w)=A7 k f - 1)∨w=0
 refs:∀f,f<12→(infoAt k.infos f).r=(countP k.mem k.infos f:Int)+(Dr k.envs f:Int)
 trans:∀x∈k.cache,Dd k x=true
theorem G8 {envs:List EM} (h:envs.length=3) (g:Nat):Dr envs g=GG (decide ((AC envs 0).root=(g:Int)))+GG (decide ((AC envs 1).root=(g:Int)))+GG (decide ((AC envs 2).root=(g:Int))):=by
 match envs,h with
 | [a,b,c],_=>simp only[Dr,List.countP_cons,List.countP_nil,AC,GG];simp;omega
section
variable {k:AN} (h:De k)
include h
theorem De.row {f:Nat} (hf:f<12):(AL k.mem f).length=4:=(BG.1 ((Af.1 h.mem).2 f hf)).1
theorem De.word {f i:Nat} (hf:f<12) (hi:i<4):0≤Am k.mem f i∧Am k.mem f i≤9999:=(BG.1 ((Af.1 h.mem).2 f hf)).2 _ (Dz (by rw[h.row hf];exact hi))
theorem De.named {f g:Nat} (hf:f<12) (ht:Ba (A7 k f)=true) (hg:g∈named (AL k.mem f)):g<12∧g≠f∧A7 k g=A7 k f - 1:=by
 obtain⟨w,hw,h1,rfl⟩:=FT.1 hg
 rcases h.tabs f hf ht w hw with⟨_,a,b⟩|rfl
 ·exact⟨DZ h1,a,b⟩
 ·simp[BX] at h1
theorem De.root_kind {e:Nat} (he:e<3) (hr:0≤AY k e):(AY k e).toNat<12∧A7 k (AY k e).toNat=3:=by
 rcases h.roots e he with a|⟨a,b,c⟩
 ·omega
 ·exact⟨by omega,c⟩
theorem De.low_kind {e t:Nat} (he:e<3) (hr:0≤AY k e) (ht:t∈Go.Proofs.YtnieoiclifjoaaaGreatDoor.named (AL k.mem (AY k e).toNat)):t<12∧A7 k t=2:=by obtain⟨a,b⟩:=h.root_kind he hr;have:=h.named a (by rw[b];rfl) ht;exact⟨this.1,by omega⟩
theorem De.data_kind {e t f:Nat} (he:e<3) (hr:0≤AY k e) (ht:t∈Go.Proofs.YtnieoiclifjoaaaGreatDoor.named (AL k.mem (AY k e).toNat)) (hf:f∈Go.Proofs.YtnieoiclifjoaaaGreatDoor.named (AL k.mem t)):f<12∧A7 k f=1:=by obtain⟨a,b⟩:=h.low_kind he hr ht;have:=h.named a (by rw[b];rfl) hf;exact⟨this.1,by omega⟩
theorem De.reach_lt {e f:Nat} (he:e<3) (hf:f∈Az k.mem (AY k e)):f<12∧1≤A7 k f:=by
 obtain⟨hr,h1⟩:=DN.1 hf
 rcases h1 with rfl|h1|⟨t,ht,h1⟩
 ·have:=h.root_kind he hr;exact⟨this.1,by omega⟩
 ·have:=h.low_kind he hr h1;exact⟨this.1,by omega⟩
 ·have:=h.data_kind he hr ht h1;exact⟨this.1,by omega⟩
theorem De.cnt_zero {g:Nat} (hg:g<12):LC k.mem k.infos g g=0:=by
 unfold LC
 split
 ·rename_i ht
  rw[List.count_eq_zero];intro hm;exact(h.named hg ht hm).2.1 rfl
 ·rfl
theorem De.cnt_le {g t:Nat} (ht:t<12):LC k.mem k.infos g t≤4:=by
 unfold LC
 split
 ·have h1:(Go.Proofs.YtnieoiclifjoaaaGreatDoor.named (AL k.mem t)).count g≤_:=List.count_le_length
  have h2:=Ex (r:=AL k.mem t);rw[h.row ht] at h2;omega
 ·omega
theorem De.count_le {g:Nat} (hg:g<12):countP k.mem k.infos g≤44:=by
 have:((List.range 12).map (LC k.mem k.infos g)).sum+4≤4*12:=SP hg (fun t ht=>h.cnt_le (g:=g) ht) (h.cnt_zero hg);rw[EF];omega
theorem De.refs_le {f:Nat} (hf:f<12):0≤(infoAt k.infos f).r∧(infoAt k.infos f).r≤47:=by
 have h1:=h.count_le hf;have h2:Dr k.envs f≤3:=by
  have:=List.countP_le_length (p:=fun e:EM=>decide (e.root=(f:Int))) (l:=k.envs);rw[h.envl] at this;exact this
 rw[h.refs f hf];omega
theorem De.unused {f:Nat} (hf:f<12) (h0:(infoAt k.infos f).r=0):(∀t,t<12→Ba (A7 k t)=true→f∉Go.Proofs.YtnieoiclifjoaaaGreatDoor.named (AL k.mem t))∧∀e,e<3→AY k e≠(f:Int):=by
 have h1:=h.refs f hf;have h2:countP k.mem k.infos f=0:=by omega
 have h3:Dr k.envs f=0:=by omega
 rw[EF,Qs] at h2;constructor
 ·intro t ht htab hm
  have:=h2 t ht;unfold LC A7 at*;rw[if_pos htab,List.count_eq_zero] at this;exact this hm
 ·intro e he
  rw[G8 h.envl] at h3;unfold GG at h3;have:e=0∨e=1∨e=2:=by omega
  intro hr;unfold AY at hr
  rcases this with rfl|rfl|rfl<;>simp[hr] at h3
theorem De.free_unused {f:Nat} (hf:f<12) (h0:A7 k f=0):(infoAt k.infos f).r=0:=by
 rw[h.refs f hf];have h2:countP k.mem k.infos f=0:=by
  rw[EF,Qs];intro t ht;unfold LC
  split
  ·rename_i htab
   rw[List.count_eq_zero];intro hm;have:=(h.named ht htab hm).2.2;have:A7 k t=2∨A7 k t=3:=Gg.1 htab;omega
  ·rfl
 have h3:Dr k.envs f=0:=by
  rw[G8 h.envl];have key:∀e,e<3→GG (decide ((AC k.envs e).root=(f:Int)))=0:=by
   intro e he;unfold GG
   by_cases hr:(AC k.envs e).root=(f:Int)
   ·exfalso
    have:AY k e=(f:Int):=hr;have:=h.root_kind he (by omega);rw[‹AY k e=(f:Int)›] at this;simp at this;omega
   ·simp[hr]
  rw[key 0 (by omega),key 1 (by omega),key 2 (by omega)]
 omega
theorem De.walk_data {e a:Nat} (he:e<3) (hr:0≤AY k e) (hw:(BV k.mem (AY k e).toNat a).1=0):(BV k.mem (AY k e).toNat a).2.1<12∧A7 k (BV k.mem (AY k e).toNat a).2.1=1∧(BV k.mem (AY k e).toNat a).2.1∈Az k.mem (AY k e):=by
 unfold BV at hw ⊢
 split at hw
 ·rename_i h1
  split at hw
  ·rename_i h2
   rw[if_pos h1,if_pos h2];have m1:=K7 h1;have m2:=K7 h2;have:=h.data_kind he hr m1 m2;exact⟨this.1,this.2,DN.2 ⟨hr, .inr (.inr ⟨_,m1,m2⟩)⟩⟩
  ·simp at hw
 ·simp at hw
end
theorem TV {x:AQ} (h:Ou x) (h0:0≤x.r) (h1:x.r≤50) (hz:x.k=0→x.r=0):Cj x=true:=by
 rcases h with⟨a,b⟩|⟨a,b,c⟩
 ·have:x=AQ.zero:=by
   obtain⟨k,g,r⟩:=x;simp at a b hz;subst a b;simp[AQ.zero,hz rfl]
  simp[Cj,this]
 ·simp[Cj,Bk,a,b,c,h0,h1]
theorem TU {x:AQ} (h:Cj x=true):Ou x:=by
 unfold Cj at h;simp only[Bool.or_eq_true,decide_eq_true_eq,Bool.and_eq_true,AZ] at h
 rcases h with rfl|⟨⟨⟨a,b⟩,c⟩,_⟩
 ·exact .inl ⟨rfl,rfl⟩
 ·exact .inr ⟨a,b,c⟩
theorem At {l:List AQ}:A0 l=true↔l.length=12∧∀f,f<12→Cj (infoAt l f)=true:=by
 simp only[A0,Bool.and_eq_true,List.all_eq_true,decide_eq_true_eq];constructor
 ·rintro⟨h1,h2⟩
  exact⟨h2,fun f hf=>h1 _ (Dz (by omega))⟩
 ·rintro⟨h1,h2⟩
  refine⟨fun r hr=>?_,h1⟩;obtain⟨i,hi,rfl⟩:=Hv (d:=AQ.zero) hr;exact h2 i (by omega)
theorem Js {infos:List AQ} {f:Nat} {kind:Int} {rights:List ByteArray} {w:Int}:Et infos f kind rights w=true↔(BX w=true∧Ax w≠f∧(infoAt infos (Ax w)).k=kind - 1∧Ca rights (infoAt infos (Ax w)).g=true)∨(BX w=false∧w=0):=by unfold Et;cases h:BX w<;>simp[and_assoc]
theorem LY {m:List (List Int)} {infos:List AQ} {f:Nat} {kind:Int} {rights:List ByteArray}:Gv m infos f kind rights=true↔∀w∈AL m f,Et infos f kind rights w=true:=by simp[Gv,List.all_eq_true]
theorem OI {envs:List EM} (h:envs.length=3) {p:EM→Bool}:envs.all p=true↔∀e,e<3→p (AC envs e)=true:=by
 rw[List.all_eq_true];constructor
 ·intro hp e he
  exact hp _ (Dz (by omega))
 ·intro hp x hx
  obtain⟨i,hi,rfl⟩:=Hv (d:=⟨[],0⟩) hx;exact hp i (by omega)
theorem GP {k:AN}:DU k=true↔De k:=by
 unfold DU;simp only[Bool.and_eq_true,Jz];constructor
 ·rintro⟨⟨⟨⟨⟨⟨h1,h2⟩,h3⟩,h4⟩,h5⟩,h6⟩,h7⟩
  unfold LV at h4;simp only[Bool.and_eq_true,decide_eq_true_eq] at h4;obtain⟨h4,hl⟩:=h4;rw[OI hl] at h4;rw[At] at h2;have hE:∀e,e<3→A2 (CQ k e)=true∧(AY k e= -1∨(0≤AY k e∧AY k e≤11)∧A7 k (AY k e).toNat=3)∧Aq k.infos (Az k.mem (AY k e)) (CQ k e)=true:=by intro e he;have:=h4 e he;unfold Fc at this;simp only[Bool.and_eq_true,Bool.or_eq_true,decide_eq_true_eq,AZ] at this;exact⟨this.1.1,this.1.2,this.2⟩
  refine⟨h1,h2.1,fun f hf=>TU (h2.2 f hf),h3,hl,fun e he=>(hE e he).1,fun e he=>?_,fun e he=>Ga.1 (hE e he).2.2,fun f hf ht w hw=>?_,fun f hf=>?_,fun x hx=>List.all_eq_true.1 h7 x hx⟩
  ·rcases(hE e he).2.1 with a|⟨⟨a,b⟩,c⟩
   ·exact .inl a
   ·exact .inr ⟨a,b,c⟩
  ·have:=h5 f hf
   unfold FE at this;unfold A7 at ht;rw[ht,Bool.not_true,Bool.false_or,LY] at this
   rcases Js.1 (this w hw) with⟨a,b,c,_⟩|⟨_,a⟩
   ·exact .inl ⟨a,b,c⟩
   ·exact .inr a
  ·have:=h6 f hf
   simpa[Im] using this
 ·intro h
  refine⟨⟨⟨⟨⟨⟨h.mem,?_⟩,h.cache⟩,?_⟩,fun f hf=>?_⟩,fun f hf=>?_⟩,List.all_eq_true.2 h.trans⟩
  ·rw[At]
   refine⟨h.len,fun f hf=>TV (h.inf f hf) (h.refs_le hf).1 (by have:=(h.refs_le hf).2;omega) (fun h0=>h.free_unused hf h0)⟩
  ·unfold LV
   simp only[Bool.and_eq_true,decide_eq_true_eq];refine⟨?_,h.envl⟩;rw[OI h.envl];intro e he;unfold Fc;simp only[Bool.and_eq_true,Bool.or_eq_true,decide_eq_true_eq,AZ];refine⟨⟨h.rights e he,?_⟩,Ga.2 (h.allow e he)⟩
   rcases h.roots e he with a|⟨a,b,c⟩
   ·exact .inl a
   ·exact .inr ⟨⟨a,b⟩,c⟩
  ·unfold FE
   simp only[Bool.or_eq_true,Bool.not_eq_true'];cases ht:Ba (infoAt k.infos f).k
   ·exact .inl rfl
   ·right
    rw[LY];intro w hw;rw[Js]
    rcases h.tabs f hf ht w hw with⟨a,b,c⟩|rfl
    ·exact .inl ⟨a,b,c,Us _⟩
    ·exact .inr ⟨rfl,rfl⟩
  ·simp[Im,h.refs f hf]
theorem Mt {l:List AQ} {f g:Nat} {x:AQ}:infoAt (l.set f x) g=if g=f∧f<l.length then x else infoAt l g:=Hj
theorem Ej {l:List AQ} {f g:Nat} {u:AQ→AQ}:infoAt (AV l f u) g=if g=f∧f<l.length then u (infoAt l f) else infoAt l g:=KZ
theorem Jp {l:List EM} {f g:Nat} {u:EM→EM}:AC (AV l f u) g=if g=f∧f<l.length then u (AC l f) else AC l g:=KZ
theorem De.data {k:AN} (h:De k) {f:Nat} (hf:f<12) (hk:A7 k f=0∨A7 k f=1) {row:List Int} (hrow:Ed row=true) {x:AQ} (hx:Ou x) (hx1:x.k=0∨x.k=1) (hr:x.r=(infoAt k.infos f).r)
 (hsame:(x.k=A7 k f∧x.g=(infoAt k.infos f).g)∨(infoAt k.infos f).r=0) {cache:List Aa} (hc:Bc cache=true) (ht:∀y∈cache,Dd k y=true):De ⟨k.mem.set f row,k.infos.set f x,k.envs,cache⟩:=by
 have hml:=(Af.1 h.mem).1;have hrow':∀g,g≠f→AL (k.mem.set f row) g=AL k.mem g:=fun g hg=>by rw[Tv,if_neg (by rintro⟨a,_⟩;exact hg a)]
 have hinf':∀g,g≠f→infoAt (k.infos.set f x) g=infoAt k.infos g:=fun g hg=>by rw[Mt,if_neg (by rintro⟨a,_⟩;exact hg a)]
 have hinff:infoAt (k.infos.set f x) f=x:=by rw[Mt,if_pos ⟨rfl,by rw[h.len];exact hf⟩]
 have htab:∀t,Ba (infoAt (k.infos.set f x) t).k=true→t≠f∧Ba (A7 k t)=true:=by
  intro t ht
  by_cases e:t=f
  ·subst e
   rw[hinff,Gg] at ht;omega
  ·rw[hinf' t e] at ht
   exact⟨e,ht⟩
 have hnf:∀t,Ba (A7 k t)=true→t≠f:=by intro t ht e;subst e;rw[Gg] at ht;omega
 have hkeep:∀t g,t<12→Ba (A7 k t)=true→g∈Go.Proofs.YtnieoiclifjoaaaGreatDoor.named (AL k.mem t)→(infoAt (k.infos.set f x) g).k=A7 k g∧(infoAt (k.infos.set f x) g).g=(infoAt k.infos g).g:=by
  intro t g ht htb hg
  by_cases e:g=f
  ·subst e
   rw[hinff]
   rcases hsame with hs|h0
   ·exact hs
   ·exact absurd hg ((h.unused hf h0).1 t ht htb)
  ·rw[hinf' g e];exact⟨rfl,rfl⟩
 have hroot:∀e,e<3→0≤AY k e→(AY k e).toNat≠f:=fun e he h0=>hnf _ (by rw[(h.root_kind he h0).2];rfl)
 have hlow:∀e,e<3→0≤AY k e→∀t,t∈Go.Proofs.YtnieoiclifjoaaaGreatDoor.named (AL k.mem (AY k e).toNat)→t≠f:=fun e he h0 t ht=>hnf _ (by rw[(h.low_kind he h0 ht).2];rfl)
 have hreach:∀e,e<3→∀g,g∈Az (k.mem.set f row) (AY k e)↔g∈Az k.mem (AY k e):=fun e he=>Lw (fun h0=>hrow' _ (hroot e he h0)) (fun h0 t ht=>hrow' _ (hlow e he h0 t ht))
 refine⟨OT h.mem hrow,by simp[h.len],fun g hg=>?_,hc,h.envl,h.rights,fun e he=>?_,fun e he g hg=>?_,fun t ht htb w hw=>?_,fun g hg=>?_,fun y hy=>?_⟩
 ·by_cases e:g=f
  ·subst e;rw[hinff];exact hx
  ·rw[hinf' g e];exact h.inf g hg
 ·rcases h.roots e he with a|⟨a,b,c⟩
  ·exact .inl a
  ·refine .inr ⟨a,b,?_⟩
   show(infoAt (k.infos.set f x) (AY k e).toNat).k=3
   rw[hinf' _ (hroot e he a)];exact c
 ·have hg':=(hreach e he g).1 hg
  have hm:=h.allow e he g hg'
  show Ca (CQ k e) (infoAt (k.infos.set f x) g).g=true
  obtain⟨h0,h1⟩:=DN.1 hg';have hrk:=h.root_kind he h0;have e:(infoAt (k.infos.set f x) g).g=(infoAt k.infos g).g:=by
   rcases h1 with rfl|h1|⟨t,h1,h2⟩
   ·rw[hinf' _ (hroot e he h0)]
   ·exact(hkeep _ g hrk.1 (by rw[hrk.2];rfl) h1).2
   ·have hlk:=h.low_kind he h0 h1
    exact(hkeep _ g hlk.1 (by rw[hlk.2];rfl) h2).2
  rw[e];exact hm
 ·obtain⟨hne,htb'⟩:=htab t htb
  rw[show AL (k.mem.set f row) t=AL k.mem t from hrow' t hne] at hw
  rcases h.tabs t ht htb' w hw with⟨a,b,c⟩|rfl
  ·refine .inl ⟨a,b,?_⟩
   have:=(hkeep t (Ax w) ht htb' (FT.2 ⟨w,hw,a,rfl⟩)).1
   show(infoAt (k.infos.set f x) (Ax w)).k=(infoAt (k.infos.set f x) t).k - 1
   rw[this,hinf' t hne];exact c
  ·exact .inr rfl
 ·have hcount:countP (k.mem.set f row) (k.infos.set f x) g=countP k.mem k.infos g:=by
   rw[EF,EF];refine Lh fun t ht=>?_
   unfold LC
   by_cases e:t=f
   ·subst e
    rw[hinff,if_neg (by rw[Gg];omega),if_neg (by rw[Gg];unfold A7 at hk;omega)]
   ·rw[hinf' t e,hrow' t e]
  show(infoAt (k.infos.set f x) g).r=(countP (k.mem.set f row) (k.infos.set f x) g:Int)+(Dr k.envs g:Int)
  rw[hcount,←h.refs g hg]
  by_cases e:g=f
  ·subst e;rw[hinff,hr]
  ·rw[hinf' g e]
 ·have h1:=ht y hy
  have hyc:=(Ef.1 hc).1 y hy;unfold CZ at hyc;simp only[Bool.and_eq_true,AZ] at hyc;have he:y.e.toNat<3:=by omega
  unfold Dd at h1 ⊢;simp only[Bool.and_eq_true,decide_eq_true_eq] at h1 ⊢;refine⟨h1.1,?_⟩;have hw:=NZ (m:=k.mem) (m':=k.mem.set f row) (root:=(AY k y.e.toNat).toNat) (a:=4*y.p.toNat) (hrow' _ (hroot _ he h1.1)) (fun t ht=>hrow' _ (hlow _ he h1.1 t ht));exact hw.trans h1.2
theorem G7 {infos:List AQ} {fs:List Nat} {n:Int}:(Aw infos fs n).length=infos.length:=by
 unfold Aw
 induction fs generalizing infos with
 |nil=>rfl
 |cons f fs ih=>rw[List.foldl_cons,ih,Au]
theorem NJ {infos:List AQ} {fs:List Nat} {n:Int} {g:Nat} (hg:g<infos.length):infoAt (Aw infos fs n) g= {infoAt infos g with r:=(infoAt infos g).r+n*(fs.count g:Int)}:=by
 unfold Aw
 induction fs generalizing infos with
 |nil=>simp
 |cons f fs ih=>
  rw[List.foldl_cons,ih (by rw[Au];exact hg),Ej,List.count_cons]
  by_cases e:g=f
  ·subst e
   rw[if_pos ⟨rfl,hg⟩];simp[DK];rw[Int.mul_add];omega
  ·rw[if_neg (by rintro⟨a,_⟩;exact e a)]
   have e':¬f=g:=fun a=>e a.symm
   simp[e']
theorem De.retype {k:AN} (h:De k) {f:Nat} (hf:f<12) (h0:(infoAt k.infos f).r=0) {kind n:Int} (hk1:1≤kind) (hk3:kind≤3) (hfk:A7 k f≠0)
 (hn:(n=1∧Ba (A7 k f)=false∧Ba kind=true)∨(n= -1∧Ba (A7 k f)=true∧Ba kind=false))
 (hgood:Ba kind=true→∀w∈AL k.mem f,(BX w=true∧Ax w≠f∧A7 k (Ax w)=kind - 1)∨w=0):
 De {k with infos:=AV (Aw k.infos (Go.Proofs.YtnieoiclifjoaaaGreatDoor.named (AL k.mem f)) n) f (Cu kind)}:=by
 obtain⟨u1,u2⟩:=h.unused hf h0;have hl:(Aw k.infos (Go.Proofs.YtnieoiclifjoaaaGreatDoor.named (AL k.mem f)) n).length=12:=by rw[G7,h.len]
 have hat:∀g,g<12→infoAt (AV (Aw k.infos (Go.Proofs.YtnieoiclifjoaaaGreatDoor.named (AL k.mem f)) n) f (Cu kind)) g= {(infoAt k.infos g) with k:=if g=f then kind else A7 k g,r:=(infoAt k.infos g).r+n*((Go.Proofs.YtnieoiclifjoaaaGreatDoor.named (AL k.mem f)).count g:Int)}:=by
  intro g hg;rw[Ej,hl]
  by_cases e:g=f
  ·subst e
   rw[if_pos ⟨rfl,hf⟩,NJ (by rw[h.len];exact hg)];simp[Cu]
  ·rw[if_neg (by rintro⟨a,_⟩;exact e a),NJ (by rw[h.len];exact hg)]
   simp[e,A7]
 have hself:f∉Go.Proofs.YtnieoiclifjoaaaGreatDoor.named (AL k.mem f):=by
  intro hm
  rcases hn with⟨_,_,c⟩|⟨_,b,_⟩
  ·obtain⟨w,hw,h1,h2⟩:=FT.1 hm
   rcases hgood c w hw with⟨_,a,_⟩|rfl
   ·exact a h2
   ·simp[BX] at h1
  ·exact u1 f hf b hm
 refine⟨h.mem,by rw[Au];exact hl,fun g hg=>?_,h.cache,h.envl,h.rights,fun e he=>?_,fun e he g hg=>?_,fun t ht htb w hw=>?_,fun g hg=>?_,h.trans⟩
 ·show Ou (infoAt (AV _ f (Cu kind)) g)
  rw[hat g hg]
  by_cases e:g=f
  ·subst e
   rcases h.inf g hg with⟨a,b⟩|⟨a,b,c⟩
   ·exact absurd a hfk
   ·right;simp;exact⟨hk1,hk3,c⟩
  ·simp only[e,if_false]
   exact h.inf g hg
 ·rcases h.roots e he with a|⟨a,b,c⟩
  ·exact .inl a
  ·refine .inr ⟨a,b,?_⟩
   show(infoAt (AV _ f (Cu kind)) (AY k e).toNat).k=3
   rw[hat _ (by omega)];have:(AY k e).toNat≠f:=fun e'=>u2 e he (by omega)
   simp only[this,if_false];exact c
 ·show Ca (CQ k e) (infoAt (AV _ f (Cu kind)) g).g=true
  have:=h.allow e he g hg;rw[hat _ (h.reach_lt he hg).1];exact this
 ·have htb2:Ba (infoAt (AV (Aw k.infos (Go.Proofs.YtnieoiclifjoaaaGreatDoor.named (AL k.mem f)) n) f (Cu kind)) t).k=true:=htb
  rw[hat t ht] at htb2
  show(BX w=true∧Ax w≠t∧(infoAt (AV (Aw k.infos (Go.Proofs.YtnieoiclifjoaaaGreatDoor.named (AL k.mem f)) n) f (Cu kind)) (Ax w)).k=(infoAt (AV (Aw k.infos (Go.Proofs.YtnieoiclifjoaaaGreatDoor.named (AL k.mem f)) n) f (Cu kind)) t).k - 1)∨w=0
  rw[hat t ht]
  by_cases e:t=f
  ·subst e
   simp only[if_true] at htb2
   rcases hgood htb2 w hw with⟨a,b,c⟩|rfl
   ·refine .inl ⟨a,b,?_⟩
    rw[hat _ (DZ a)];simp only[if_true,b,if_false];exact c
   ·exact .inr rfl
  ·simp only[e,if_false] at htb2
   rcases h.tabs t ht htb2 w hw with⟨a,b,c⟩|rfl
   ·refine .inl ⟨a,b,?_⟩
    rw[hat _ (DZ a)];have:Ax w≠f:=fun e'=>u1 t ht htb2 (FT.2 ⟨w,hw,a,e'⟩)
    simp only[this,if_false,e];exact c
   ·exact .inr rfl
 ·show(infoAt (AV (Aw k.infos (Go.Proofs.YtnieoiclifjoaaaGreatDoor.named (AL k.mem f)) n) f (Cu kind)) g).r=(countP k.mem (AV (Aw k.infos (Go.Proofs.YtnieoiclifjoaaaGreatDoor.named (AL k.mem f)) n) f (Cu kind)) g:Int)+(Dr k.envs g:Int)
  rw[hat g hg];have hsum:=J1 (F:=LC k.mem (AV (Aw k.infos (Go.Proofs.YtnieoiclifjoaaaGreatDoor.named (AL k.mem f)) n) f (Cu kind)) g) (G:=LC k.mem k.infos g) hf (fun t ht hne=>by unfold LC;rw[hat t ht];simp only[hne,if_false];rfl)
  rw[←EF,←EF] at hsum;have c1:LC k.mem (AV (Aw k.infos (Go.Proofs.YtnieoiclifjoaaaGreatDoor.named (AL k.mem f)) n) f (Cu kind)) g f=if Ba kind then(Go.Proofs.YtnieoiclifjoaaaGreatDoor.named (AL k.mem f)).count g else 0:=by unfold LC;rw[hat f hf];simp
  have c2:LC k.mem k.infos g f=if Ba (A7 k f) then(Go.Proofs.YtnieoiclifjoaaaGreatDoor.named (AL k.mem f)).count g else 0:=rfl
  rw[c1,c2] at hsum;have:=h.refs g hg
  rcases hn with⟨rfl,a,b⟩|⟨rfl,a,b⟩
  ·rw[a,b] at hsum
   simp at hsum ⊢;omega
  ·rw[a,b] at hsum
   simp at hsum ⊢;omega
end Go.Proofs.YtnieoiclifjoaaaGreatDoor
