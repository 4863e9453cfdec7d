/-
  Plain: kernels as data, what is valid, what a call does. No program in sight.
-/
import Derived.Lib.Strings
set_option linter.unusedVariables false
namespace Go.Proofs.YtjacdlekgdnndaaDoor

/-- A call: kind, environment, three numbers and a name. -/
structure CallV where
  k : Int
  e : Int
  a : Int
  b : Int
  c : Int
  nm : ByteArray

/-- What is known of a frame: its kind, its guard, its uses. -/
structure InfoV where
  k : Int
  g : ByteArray
  r : Int
  deriving DecidableEq
def InfoV.zero : InfoV := ⟨0, ⟨#[]⟩, 0⟩

/-- A translation. -/
structure CachedV where
  e : Int
  p : Int
  f : Int
  w : Bool
  deriving DecidableEq

/-- An environment. -/
structure EnvV where
  rights : List ByteArray
  root : Int
  deriving DecidableEq

structure KernV where
  mem : List (List Int)
  infos : List InfoV
  envs : List EnvV
  cache : List CachedV
  deriving DecidableEq

/-- Between two bounds, both included. -/
def inB (n lo hi : Int) : Bool := decide (lo ≤ n) && decide (n ≤ hi)
theorem inB_iff {n lo hi : Int} : inB n lo hi = true ↔ lo ≤ n ∧ n ≤ hi := by simp [inB]
theorem inB_no {n lo hi : Int} : inB n lo hi = false ↔ n < lo ∨ hi < n := by
  by_cases h1 : lo ≤ n <;> by_cases h2 : n ≤ hi <;> simp [inB, h1, h2] <;> omega

/-- A letter of a right. -/
def letterOk (c : UInt8) : Bool := decide (97 ≤ c.toNat) && decide (c.toNat ≤ 99)
/-- A right. -/
def rightOk (s : ByteArray) : Bool := s.data.toList.all letterOk && decide (s.size ≤ 4)
/-- The text k of a list. -/
def nthS (ss : List ByteArray) (k : Nat) : ByteArray := ss.getD k ⟨#[]⟩
theorem nthS_lt {ss : List ByteArray} {k : Nat} (h : k < ss.length) : ss[k]? = some (nthS ss k) := by simp [nthS, h]
def geB (a b : ByteArray) : Bool := !Op.bytesLess a.toList b.toList
def stepRight (ss : List ByteArray) (i : Nat) : Bool := rightOk (nthS ss i) && (decide (i = 0) || !geB (nthS ss (i - 1)) (nthS ss i))
/-- The rights of an environment. -/
def rightsOk (ss : List ByteArray) : Bool := (List.range ss.length).all (stepRight ss) && decide (ss.length ≤ 6)
/-- a includes b. -/
def cov (a b : ByteArray) : Bool := a.data.toList.isPrefixOf b.data.toList
def mayP (rights : List ByteArray) (g : ByteArray) : Bool := rights.any fun s => cov s g

def wordOk (n : Int) : Bool := inB n 0 9999
def rowOk (r : List Int) : Bool := r.all wordOk && decide (r.length = 4)
def memOk (m : List (List Int)) : Bool := m.all rowOk && decide (m.length = 12)
/-- A word that names a frame; the frame; whether it may be written. -/
def entG (w : Int) : Bool := decide (0 < w) && decide (w % 2 = 1) && decide (w < 48)
def entF (w : Int) : Nat := (w / 4).toNat
def entW (w : Int) : Bool := decide (w % 4 = 3)
def rowAt (m : List (List Int)) (f : Nat) : List Int := m.getD f []
def wdAt (m : List (List Int)) (f i : Nat) : Int := (rowAt m f).getD i 0
def infoAt (l : List InfoV) (f : Nat) : InfoV := l.getD f InfoV.zero
def envAt (l : List EnvV) (f : Nat) : EnvV := l.getD f ⟨[], 0⟩
def infoOk (x : InfoV) : Bool := decide (x = InfoV.zero) || (inB x.k 1 3 && rightOk x.g && inB x.r 0 50)
def infosOk (l : List InfoV) : Bool := l.all infoOk && decide (l.length = 12)
def named (r : List Int) : List Nat := (r.filter entG).map entF
def tabK (k : Int) : Bool := decide (k = 2) || decide (k = 3)
def needs (k : Int) : Int := if tabK k then k - 1 else 0
/-- The frames that are reached from an upper table. -/
def reachL (m : List (List Int)) (root : Int) : List Nat :=
  if root < 0 then [] else root.toNat :: (named (rowAt m root.toNat) ++ (named (rowAt m root.toNat)).flatMap fun t => named (rowAt m t))
def allowedP (infos : List InfoV) (fs : List Nat) (rights : List ByteArray) : Bool := fs.all fun f => mayP rights (infoAt infos f).g
def goodW (infos : List InfoV) (f : Nat) (kind : Int) (rights : List ByteArray) (w : Int) : Bool :=
  if entG w then decide (entF w ≠ f) && decide ((infoAt infos (entF w)).k = kind - 1) && mayP rights (infoAt infos (entF w)).g else decide (w = 0)
def goodP (m : List (List Int)) (infos : List InfoV) (f : Nat) (kind : Int) (rights : List ByteArray) : Bool := (rowAt m f).all (goodW infos f kind rights)
/-- How many words of tables name a frame. -/
def countP (m : List (List Int)) (infos : List InfoV) (g : Nat) : Nat :=
  ((List.range 12).map fun t => if tabK (infoAt infos t).k then (named (rowAt m t)).count g else 0).sum
def rootsP (envs : List EnvV) (g : Nat) : Nat := envs.countP fun e => decide (e.root = (g : Int))
def cachedOk (x : CachedV) : Bool := inB x.e 0 2 && inB x.p 0 15 && inB x.f 0 11
def sameCP (e p : Int) (y : CachedV) : Bool := decide (y.e = e) && decide (y.p = p)
/-- Where the translation of a page is, or -1. -/
def findC (c : List CachedV) (e p : Int) : Int := if c.any (sameCP e p) then (c.findIdx (sameCP e p) : Nat) else -1
def cacheAt (c : List CachedV) (i : Nat) : CachedV := c.getD i ⟨0, 0, 0, false⟩
def stepCache (c : List CachedV) (i : Nat) : Bool := cachedOk (cacheAt c i) && !(c.take i).any (sameCP (cacheAt c i).e (cacheAt c i).p)
def cacheOk (c : List CachedV) : Bool := (List.range c.length).all (stepCache c) && decide (c.length ≤ 4)
/-- The place of an address: the code, the frame, whether it may be written. -/
def walkP (m : List (List Int)) (root a : Nat) : Int × Nat × Bool :=
  if entG (wdAt m root (a / 16)) then
    if entG (wdAt m (entF (wdAt m root (a / 16))) (a / 4 % 4)) then (0, entF (wdAt m (entF (wdAt m root (a / 16))) (a / 4 % 4)), entW (wdAt m root (a / 16)) && entW (wdAt m (entF (wdAt m root (a / 16))) (a / 4 % 4)))
    else (2, 0, false)
  else (1, 0, false)

def envOk (k : KernV) (e : EnvV) : Bool := rightsOk e.rights && (decide (e.root = -1) || (inB e.root 0 11 && decide ((infoAt k.infos e.root.toNat).k = 3))) && allowedP k.infos (reachL k.mem e.root) e.rights
def envsOk (k : KernV) : Bool := k.envs.all (envOk k) && decide (k.envs.length = 3)
def tableOk (k : KernV) (f : Nat) : Bool := !tabK (infoAt k.infos f).k || goodP k.mem k.infos f (infoAt k.infos f).k [⟨#[]⟩]
def refOk (k : KernV) (f : Nat) : Bool := decide ((infoAt k.infos f).r = (countP k.mem k.infos f : Int) + (rootsP k.envs f : Int))
def transOk (k : KernV) (x : CachedV) : Bool := decide (0 ≤ (envAt k.envs x.e.toNat).root) && decide (walkP k.mem (envAt k.envs x.e.toNat).root.toNat (4 * x.p.toNat) = (0, x.f.toNat, x.w))
/-- A valid kernel. -/
def kernOk (k : KernV) : Bool := memOk k.mem && infosOk k.infos && cacheOk k.cache && envsOk k && (List.range 12).all (tableOk k) && (List.range 12).all (refOk k) && k.cache.all (transOk k)

/-- A list with a turn at one place. -/
def modAt {α : Type} (l : List α) (i : Nat) (f : α → α) : List α := match l[i]? with
  | some x => l.set i (f x)
  | none => l
def addR (n : Int) (x : InfoV) : InfoV := { x with r := x.r + n }
def referP (infos : List InfoV) (fs : List Nat) (n : Int) : List InfoV := fs.foldl (fun l g => modAt l g (addR n)) infos
def freeP (infos : List InfoV) : Int := if infos.any (fun x => decide (x.k = 0)) then (infos.findIdx (fun x => decide (x.k = 0)) : Nat) else -1
def setK (kind : Int) (x : InfoV) : InfoV := { x with k := kind }
/-- A frame becomes a table: what is known of frames then, and the code of tables. -/
def pinP (m : List (List Int)) (infos : List InfoV) (f : Nat) (kind : Int) (rights : List ByteArray) : List InfoV × Int :=
  if (infoAt infos f).k ≠ 1 ∨ (infoAt infos f).r ≠ 0 then (infos, 1)
  else if goodP m infos f kind rights = false then (infos, 2)
  else if infosOk (modAt (referP infos (named (rowAt m f)) 1) f (setK kind)) then (modAt (referP infos (named (rowAt m f)) 1) f (setK kind), 0) else (infos, 1)
def unpinP (m : List (List Int)) (infos : List InfoV) (f : Nat) : List InfoV × Int :=
  if tabK (infoAt infos f).k = false ∨ (infoAt infos f).r ≠ 0 then (infos, 1)
  else if infosOk (modAt (referP infos (named (rowAt m f)) (-1)) f (setK 1)) then (modAt (referP infos (named (rowAt m f)) (-1)) f (setK 1), 0) else (infos, 2)
/-- The rights with one more, in order. -/
def addS (ss : List ByteArray) (s : ByteArray) : List ByteArray := ss.takeWhile (fun x => !geB x s) ++ s :: ss.dropWhile (fun x => !geB x s)
def rightsAddP (ss : List ByteArray) (s : ByteArray) : List ByteArray × Bool := if ss.any (fun x => decide (x = s)) then (ss, true) else if ss.length = 6 then (ss, false) else (addS ss s, true)
def rightsDropP (ss : List ByteArray) (s : ByteArray) : List ByteArray := ss.filter fun r => !cov s r
def putC (c : List CachedV) (x : CachedV) : List CachedV :=
  (if (c.filter fun y => !sameCP x.e x.p y).length = 4 then (c.filter fun y => !sameCP x.e x.p y).drop 1 else c.filter fun y => !sameCP x.e x.p y) ++ [x]
def dropC (c : List CachedV) (e : Int) : List CachedV := c.filter fun y => decide (y.e ≠ e)
def setWd (m : List (List Int)) (f i : Nat) (w : Int) : List (List Int) := modAt m f fun r => r.set i w

/-- The environment of a call may. -/
def mayE (k : KernV) (e : Int) (g : ByteArray) : Bool := mayP (envAt k.envs e.toNat).rights g
abbrev Res := KernV × Int × Int
def takeP (k : KernV) (c : CallV) : Res :=
  if rightOk c.nm = false then (k, 0, 3)
  else if mayE k c.e c.nm = false then (k, 0, 1)
  else if freeP k.infos < 0 then (k, 0, 4)
  else ({ k with infos := k.infos.set (freeP k.infos).toNat ⟨1, c.nm, 0⟩, mem := k.mem.set (freeP k.infos).toNat [0, 0, 0, 0] }, freeP k.infos, 0)
def giveP (k : KernV) (c : CallV) : Res :=
  if (infoAt k.infos c.a.toNat).k ≠ 1 then (k, 0, 3)
  else if (infoAt k.infos c.a.toNat).r ≠ 0 then (k, 0, 2)
  else ({ k with infos := k.infos.set c.a.toNat InfoV.zero }, 0, 0)
def pokeP (k : KernV) (c : CallV) : Res :=
  if (infoAt k.infos c.a.toNat).k ≠ 1 ∨ inB c.b 0 3 = false ∨ wordOk c.c = false then (k, 0, 3)
  else ({ k with mem := setWd k.mem c.a.toNat c.b.toNat c.c }, 0, 0)
def pinCode (n : Int) : Int := if n = 0 then 0 else if n = 1 then 2 else 3
def pinnedP (k : KernV) (r : List InfoV × Int) : Res := if r.2 = 0 then ({ k with infos := r.1 }, 0, 0) else (k, 0, pinCode r.2)
/-- What an entry names, and all that it leads to. -/
def neededP (k : KernV) (w : Int) : List Nat := if entG w then entF w :: (if tabK (infoAt k.infos (entF w)).k then named (rowAt k.mem (entF w)) else []) else []
def usersP (k : KernV) (a : Nat) : List Nat := (List.range 3).filter fun e => (reachL k.mem (envAt k.envs e).root).contains a
def refer1 (infos : List InfoV) (w : Int) (n : Int) : List InfoV := if entG w then modAt infos (entF w) (addR n) else infos
/-- The word may stand in the table as far as kinds go. -/
def wordFits (k : KernV) (c : CallV) : Bool := if entG c.c then decide ((infoAt k.infos (entF c.c)).k = (infoAt k.infos c.a.toNat).k - 1) else decide (c.c = 0)
def setP (k : KernV) (c : CallV) : Res :=
  if tabK (infoAt k.infos c.a.toNat).k = false ∨ inB c.b 0 3 = false ∨ wordFits k c = false then (k, 0, 3)
  else if (usersP k c.a.toNat).all (fun e => allowedP k.infos (neededP k c.c) (envAt k.envs e).rights) = false then (k, 0, 1)
  else if entG c.c = true ∧ mayE k c.e (infoAt k.infos (entF c.c)).g = false then (k, 0, 1)
  else ({ k with mem := setWd k.mem c.a.toNat c.b.toNat c.c, infos := refer1 (refer1 k.infos (wdAt k.mem c.a.toNat c.b.toNat) (-1)) c.c 1, cache := (usersP k c.a.toNat).foldl (fun c e => dropC c (e : Nat)) k.cache }, 0, 0)
def setRoot (n : Int) (e : EnvV) : EnvV := { e with root := n }
def rootP (k : KernV) (c : CallV) : Res :=
  if c.a ≠ -1 ∧ (inB c.a 0 11 = false ∨ (infoAt k.infos c.a.toNat).k ≠ 3) then (k, 0, 3)
  else if allowedP k.infos (reachL k.mem c.a) (envAt k.envs c.e.toNat).rights = false then (k, 0, 1)
  else
    let i1 := if 0 ≤ (envAt k.envs c.e.toNat).root then modAt k.infos (envAt k.envs c.e.toNat).root.toNat (addR (-1)) else k.infos
    ({ k with infos := if 0 ≤ c.a then modAt i1 c.a.toNat (addR 1) else i1, envs := modAt k.envs c.e.toNat (setRoot c.a), cache := dropC k.cache c.e }, 0, 0)
def setRights (ss : List ByteArray) (e : EnvV) : EnvV := { e with rights := ss }
def grantP (k : KernV) (c : CallV) : Res :=
  if inB c.a 0 2 = false ∨ rightOk c.nm = false then (k, 0, 3)
  else if mayE k c.e c.nm = false then (k, 0, 1)
  else if (rightsAddP (envAt k.envs c.a.toNat).rights c.nm).2 = false then (k, 0, 4)
  else ({ k with envs := modAt k.envs c.a.toNat (setRights (rightsAddP (envAt k.envs c.a.toNat).rights c.nm).1) }, 0, 0)
def revokeP (k : KernV) (c : CallV) : Res :=
  if inB c.a 0 2 = false ∨ c.a = c.e ∨ rightOk c.nm = false then (k, 0, 3)
  else if mayE k c.e c.nm = false then (k, 0, 1)
  else if allowedP k.infos (reachL k.mem (envAt k.envs c.a.toNat).root) (rightsDropP (envAt k.envs c.a.toNat).rights c.nm) = false then (k, 0, 2)
  else ({ k with envs := modAt k.envs c.a.toNat (setRights (rightsDropP (envAt k.envs c.a.toNat).rights c.nm)) }, 0, 0)
/-- A load or a store. -/
def useP (k : KernV) (c : CallV) : Res :=
  let root := (envAt k.envs c.e.toNat).root
  if inB c.a 0 63 = false ∨ root < 0 ∨ (c.k = 11 ∧ wordOk c.b = false) then (k, 0, 3)
  else
    let x := walkP k.mem root.toNat c.a.toNat
    if x.1 ≠ 0 then (k, 0, 3)
    else if c.k = 11 ∧ x.2.2 = false then (k, 0, 1)
    else
      let cache := if findC k.cache c.e (c.a / 4) < 0 then putC k.cache ⟨c.e, c.a / 4, x.2.1, x.2.2⟩ else k.cache
      if c.k = 11 then ({ k with mem := setWd k.mem x.2.1 (c.a % 4).toNat c.b, cache := cache }, 0, 0)
      else ({ k with cache := cache }, wdAt k.mem x.2.1 (c.a % 4).toNat, 0)
def frameP (k : KernV) (c : CallV) : Res :=
  if inB c.a 0 11 = false ∨ (infoAt k.infos c.a.toNat).k = 0 ∨ (c.k = 4 ∧ tabK c.b = false) then (k, 0, 3)
  else if mayE k c.e (infoAt k.infos c.a.toNat).g = false then (k, 0, 1)
  else if c.k = 2 then giveP k c
  else if c.k = 3 then pokeP k c
  else if c.k = 4 then pinnedP k (pinP k.mem k.infos c.a.toNat c.b (envAt k.envs c.e.toNat).rights)
  else if c.k = 5 then pinnedP k (unpinP k.mem k.infos c.a.toNat)
  else setP k c
/-- A call in a valid kernel: the kernel then, the value, the code. -/
def callP (k : KernV) (c : CallV) : Res :=
  if c.k = 1 then takeP k c
  else if inB c.k 2 6 then frameP k c
  else if c.k = 7 then rootP k c
  else if c.k = 8 then grantP k c
  else if c.k = 9 then revokeP k c
  else if c.k = 10 ∨ c.k = 11 then useP k c
  else (k, 0, 3)
end Go.Proofs.YtjacdlekgdnndaaDoor
