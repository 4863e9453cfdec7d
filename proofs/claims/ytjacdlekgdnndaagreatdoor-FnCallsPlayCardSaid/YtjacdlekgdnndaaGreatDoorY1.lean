/-
  Packed: 16 texts.
-/
import Derived.Lib.Strings
import Derived.Test.YtjacdlekgdnndaaGreatDoorRows
import Derived.WalkKit
import Derived.WalkSpells
import Derived.WalkLawsBesides
import Derived.Deep.QuietTactic
import Derived.BigQuiet
import Derived.Deep.LoopGhost
import Derived.Deep.RegionHeld3
import Derived.Lib.Hide
import Derived.Handy
import Derived.Laws.AppendOwnNone
import Derived.StillTailTactics
import Derived.Maps.AppendAt
import Derived.Lib.ItoaNum
import Derived.Lib.SplitLaws
import Derived.Lib.Join
import Derived.Lib.AtoiTie
import Derived.Laws.IdiomStrings
import Derived.Ground.NamesProg
import Derived.Shelf.Slices.Turned
import Derived.Shelf.Strconv.ErrVarAll
import Derived.Shelf.Strconv.Itoa3
import Derived.Shelf.Strings.Prefix
import Derived.Shelf.Strings.SlTrimAscii
import Derived.Shelf.Strings.SplitShaped
import Derived.Test.YtjacdlekgdnndaaGreatDoorProg
set_option linter.unusedVariables false
namespace Go.Proofs.YtjacdlekgdnndaaGreatDoor
structure CallV where
 k : Int
 e : Int
 a : Int
 b : Int
 c : Int
 nm : ByteArray
structure InfoV where
 k : Int
 g : ByteArray
 r : Int
 deriving DecidableEq
def InfoV.zero : InfoV := ⟨0, ⟨#[]⟩, 0⟩
structure CachedV where
 e : Int
 p : Int
 f : Int
 w : Bool
 deriving DecidableEq
structure EnvV where
 rights : List ByteArray
 root : Int
 deriving DecidableEq
structure KernV where
 mem : List (List Int)
 infos : List InfoV
 envs : List EnvV
 cache : List CachedV
 deriving DecidableEq
def inB (n lo hi : Int) : Bool := decide (lo ≤ n) && decide (n ≤ hi)
theorem inB_iff {n lo hi : Int} : inB n lo hi = true ↔ lo ≤ n ∧ n ≤ hi := by simp [inB]
theorem inB_no {n lo hi : Int} : inB n lo hi = false ↔ n < lo ∨ hi < n := by
 by_cases h1 : lo ≤ n <;> by_cases h2 : n ≤ hi <;> simp [inB, h1, h2] <;> omega
def letterOk (c : UInt8) : Bool := decide (97 ≤ c.toNat) && decide (c.toNat ≤ 99)
def rightOk (s : ByteArray) : Bool := s.data.toList.all letterOk && decide (s.size ≤ 4)
def nthS (ss : List ByteArray) (k : Nat) : ByteArray := ss.getD k ⟨#[]⟩
theorem nthS_lt {ss : List ByteArray} {k : Nat} (h : k < ss.length) : ss[k]? = some (nthS ss k) := by simp [nthS, h]
def geB (a b : ByteArray) : Bool := !Op.bytesLess a.toList b.toList
def stepRight (ss : List ByteArray) (i : Nat) : Bool := rightOk (nthS ss i) && (decide (i = 0) || !geB (nthS ss (i - 1)) (nthS ss i))
def rightsOk (ss : List ByteArray) : Bool := (List.range ss.length).all (stepRight ss) && decide (ss.length ≤ 6)
def cov (a b : ByteArray) : Bool := a.data.toList.isPrefixOf b.data.toList
def mayP (rights : List ByteArray) (g : ByteArray) : Bool := rights.any fun s => cov s g
def wordOk (n : Int) : Bool := inB n 0 9999
def rowOk (r : List Int) : Bool := r.all wordOk && decide (r.length = 4)
def memOk (m : List (List Int)) : Bool := m.all rowOk && decide (m.length = 12)
def entG (w : Int) : Bool := decide (0 < w) && decide (w % 2 = 1) && decide (w < 48)
def entF (w : Int) : Nat := (w / 4).toNat
def entW (w : Int) : Bool := decide (w % 4 = 3)
def rowAt (m : List (List Int)) (f : Nat) : List Int := m.getD f []
def wdAt (m : List (List Int)) (f i : Nat) : Int := (rowAt m f).getD i 0
def infoAt (l : List InfoV) (f : Nat) : InfoV := l.getD f InfoV.zero
def envAt (l : List EnvV) (f : Nat) : EnvV := l.getD f ⟨[], 0⟩
def infoOk (x : InfoV) : Bool := decide (x = InfoV.zero) || (inB x.k 1 3 && rightOk x.g && inB x.r 0 50)
def infosOk (l : List InfoV) : Bool := l.all infoOk && decide (l.length = 12)
def named (r : List Int) : List Nat := (r.filter entG).map entF
def tabK (k : Int) : Bool := decide (k = 2) || decide (k = 3)
def needs (k : Int) : Int := if tabK k then k - 1 else 0
def reachL (m : List (List Int)) (root : Int) : List Nat :=
 if root < 0 then [] else root.toNat :: (named (rowAt m root.toNat) ++ (named (rowAt m root.toNat)).flatMap fun t => named (rowAt m t))
def allowedP (infos : List InfoV) (fs : List Nat) (rights : List ByteArray) : Bool := fs.all fun f => mayP rights (infoAt infos f).g
def goodW (infos : List InfoV) (f : Nat) (kind : Int) (rights : List ByteArray) (w : Int) : Bool :=
 if entG w then decide (entF w ≠ f) && decide ((infoAt infos (entF w)).k = kind - 1) && mayP rights (infoAt infos (entF w)).g else decide (w = 0)
def goodP (m : List (List Int)) (infos : List InfoV) (f : Nat) (kind : Int) (rights : List ByteArray) : Bool := (rowAt m f).all (goodW infos f kind rights)
def countP (m : List (List Int)) (infos : List InfoV) (g : Nat) : Nat :=
 ((List.range 12).map fun t => if tabK (infoAt infos t).k then (named (rowAt m t)).count g else 0).sum
def rootsP (envs : List EnvV) (g : Nat) : Nat := envs.countP fun e => decide (e.root = (g : Int))
def cachedOk (x : CachedV) : Bool := inB x.e 0 2 && inB x.p 0 15 && inB x.f 0 11
def sameCP (e p : Int) (y : CachedV) : Bool := decide (y.e = e) && decide (y.p = p)
def findC (c : List CachedV) (e p : Int) : Int := if c.any (sameCP e p) then (c.findIdx (sameCP e p) : Nat) else -1
def cacheAt (c : List CachedV) (i : Nat) : CachedV := c.getD i ⟨0, 0, 0, false⟩
def stepCache (c : List CachedV) (i : Nat) : Bool := cachedOk (cacheAt c i) && !(c.take i).any (sameCP (cacheAt c i).e (cacheAt c i).p)
def cacheOk (c : List CachedV) : Bool := (List.range c.length).all (stepCache c) && decide (c.length ≤ 4)
def walkP (m : List (List Int)) (root a : Nat) : Int × Nat × Bool :=
 if entG (wdAt m root (a / 16)) then
  if entG (wdAt m (entF (wdAt m root (a / 16))) (a / 4 % 4)) then (0, entF (wdAt m (entF (wdAt m root (a / 16))) (a / 4 % 4)), entW (wdAt m root (a / 16)) && entW (wdAt m (entF (wdAt m root (a / 16))) (a / 4 % 4)))
  else (2, 0, false)
 else (1, 0, false)
def envOk (k : KernV) (e : EnvV) : Bool := rightsOk e.rights && (decide (e.root = -1) || (inB e.root 0 11 && decide ((infoAt k.infos e.root.toNat).k = 3))) && allowedP k.infos (reachL k.mem e.root) e.rights
def envsOk (k : KernV) : Bool := k.envs.all (envOk k) && decide (k.envs.length = 3)
def tableOk (k : KernV) (f : Nat) : Bool := !tabK (infoAt k.infos f).k || goodP k.mem k.infos f (infoAt k.infos f).k [⟨#[]⟩]
def refOk (k : KernV) (f : Nat) : Bool := decide ((infoAt k.infos f).r = (countP k.mem k.infos f : Int) + (rootsP k.envs f : Int))
def transOk (k : KernV) (x : CachedV) : Bool := decide (0 ≤ (envAt k.envs x.e.toNat).root) && decide (walkP k.mem (envAt k.envs x.e.toNat).root.toNat (4 * x.p.toNat) = (0, x.f.toNat, x.w))
def kernOk (k : KernV) : Bool := memOk k.mem && infosOk k.infos && cacheOk k.cache && envsOk k && (List.range 12).all (tableOk k) && (List.range 12).all (refOk k) && k.cache.all (transOk k)
def modAt {α : Type} (l : List α) (i : Nat) (f : α → α) : List α := match l[i]? with
 | some x => l.set i (f x)
 | none => l
def addR (n : Int) (x : InfoV) : InfoV := { x with r := x.r + n }
def referP (infos : List InfoV) (fs : List Nat) (n : Int) : List InfoV := fs.foldl (fun l g => modAt l g (addR n)) infos
def freeP (infos : List InfoV) : Int := if infos.any (fun x => decide (x.k = 0)) then (infos.findIdx (fun x => decide (x.k = 0)) : Nat) else -1
def setK (kind : Int) (x : InfoV) : InfoV := { x with k := kind }
def pinP (m : List (List Int)) (infos : List InfoV) (f : Nat) (kind : Int) (rights : List ByteArray) : List InfoV × Int :=
 if (infoAt infos f).k ≠ 1 ∨ (infoAt infos f).r ≠ 0 then (infos, 1)
 else if goodP m infos f kind rights = false then (infos, 2)
 else if infosOk (modAt (referP infos (named (rowAt m f)) 1) f (setK kind)) then (modAt (referP infos (named (rowAt m f)) 1) f (setK kind), 0) else (infos, 1)
def unpinP (m : List (List Int)) (infos : List InfoV) (f : Nat) : List InfoV × Int :=
 if tabK (infoAt infos f).k = false ∨ (infoAt infos f).r ≠ 0 then (infos, 1)
 else if infosOk (modAt (referP infos (named (rowAt m f)) (-1)) f (setK 1)) then (modAt (referP infos (named (rowAt m f)) (-1)) f (setK 1), 0) else (infos, 2)
def addS (ss : List ByteArray) (s : ByteArray) : List ByteArray := ss.takeWhile (fun x => !geB x s) ++ s :: ss.dropWhile (fun x => !geB x s)
def rightsAddP (ss : List ByteArray) (s : ByteArray) : List ByteArray × Bool := if ss.any (fun x => decide (x = s)) then (ss, true) else if ss.length = 6 then (ss, false) else (addS ss s, true)
def rightsDropP (ss : List ByteArray) (s : ByteArray) : List ByteArray := ss.filter fun r => !cov s r
def putC (c : List CachedV) (x : CachedV) : List CachedV :=
 (if (c.filter fun y => !sameCP x.e x.p y).length = 4 then (c.filter fun y => !sameCP x.e x.p y).drop 1 else c.filter fun y => !sameCP x.e x.p y) ++ [x]
def dropC (c : List CachedV) (e : Int) : List CachedV := c.filter fun y => decide (y.e ≠ e)
def setWd (m : List (List Int)) (f i : Nat) (w : Int) : List (List Int) := modAt m f fun r => r.set i w
def mayE (k : KernV) (e : Int) (g : ByteArray) : Bool := mayP (envAt k.envs e.toNat).rights g
abbrev Res := KernV × Int × Int
def takeP (k : KernV) (c : CallV) : Res :=
 if rightOk c.nm = false then (k, 0, 3)
 else if mayE k c.e c.nm = false then (k, 0, 1)
 else if freeP k.infos < 0 then (k, 0, 4)
 else ({ k with infos := k.infos.set (freeP k.infos).toNat ⟨1, c.nm, 0⟩, mem := k.mem.set (freeP k.infos).toNat [0, 0, 0, 0] }, freeP k.infos, 0)
def giveP (k : KernV) (c : CallV) : Res :=
 if (infoAt k.infos c.a.toNat).k ≠ 1 then (k, 0, 3)
 else if (infoAt k.infos c.a.toNat).r ≠ 0 then (k, 0, 2)
 else ({ k with infos := k.infos.set c.a.toNat InfoV.zero }, 0, 0)
def pokeP (k : KernV) (c : CallV) : Res :=
 if (infoAt k.infos c.a.toNat).k ≠ 1 ∨ inB c.b 0 3 = false ∨ wordOk c.c = false then (k, 0, 3)
 else ({ k with mem := setWd k.mem c.a.toNat c.b.toNat c.c }, 0, 0)
def pinCode (n : Int) : Int := if n = 0 then 0 else if n = 1 then 2 else 3
def pinnedP (k : KernV) (r : List InfoV × Int) : Res := if r.2 = 0 then ({ k with infos := r.1 }, 0, 0) else (k, 0, pinCode r.2)
def neededP (k : KernV) (w : Int) : List Nat := if entG w then entF w :: (if tabK (infoAt k.infos (entF w)).k then named (rowAt k.mem (entF w)) else []) else []
def usersP (k : KernV) (a : Nat) : List Nat := (List.range 3).filter fun e => (reachL k.mem (envAt k.envs e).root).contains a
def refer1 (infos : List InfoV) (w : Int) (n : Int) : List InfoV := if entG w then modAt infos (entF w) (addR n) else infos
def wordFits (k : KernV) (c : CallV) : Bool := if entG c.c then decide ((infoAt k.infos (entF c.c)).k = (infoAt k.infos c.a.toNat).k - 1) else decide (c.c = 0)
def setP (k : KernV) (c : CallV) : Res :=
 if tabK (infoAt k.infos c.a.toNat).k = false ∨ inB c.b 0 3 = false ∨ wordFits k c = false then (k, 0, 3)
 else if (usersP k c.a.toNat).all (fun e => allowedP k.infos (neededP k c.c) (envAt k.envs e).rights) = false then (k, 0, 1)
 else if entG c.c = true ∧ mayE k c.e (infoAt k.infos (entF c.c)).g = false then (k, 0, 1)
 else ({ k with mem := setWd k.mem c.a.toNat c.b.toNat c.c, infos := refer1 (refer1 k.infos (wdAt k.mem c.a.toNat c.b.toNat) (-1)) c.c 1, cache := (usersP k c.a.toNat).foldl (fun c e => dropC c (e : Nat)) k.cache }, 0, 0)
def setRoot (n : Int) (e : EnvV) : EnvV := { e with root := n }
def rootP (k : KernV) (c : CallV) : Res :=
 if c.a ≠ -1 ∧ (inB c.a 0 11 = false ∨ (infoAt k.infos c.a.toNat).k ≠ 3) then (k, 0, 3)
 else if allowedP k.infos (reachL k.mem c.a) (envAt k.envs c.e.toNat).rights = false then (k, 0, 1)
 else
  let i1 := if 0 ≤ (envAt k.envs c.e.toNat).root then modAt k.infos (envAt k.envs c.e.toNat).root.toNat (addR (-1)) else k.infos
  ({ k with infos := if 0 ≤ c.a then modAt i1 c.a.toNat (addR 1) else i1, envs := modAt k.envs c.e.toNat (setRoot c.a), cache := dropC k.cache c.e }, 0, 0)
def setRights (ss : List ByteArray) (e : EnvV) : EnvV := { e with rights := ss }
def grantP (k : KernV) (c : CallV) : Res :=
 if inB c.a 0 2 = false ∨ rightOk c.nm = false then (k, 0, 3)
 else if mayE k c.e c.nm = false then (k, 0, 1)
 else if (rightsAddP (envAt k.envs c.a.toNat).rights c.nm).2 = false then (k, 0, 4)
 else ({ k with envs := modAt k.envs c.a.toNat (setRights (rightsAddP (envAt k.envs c.a.toNat).rights c.nm).1) }, 0, 0)
def revokeP (k : KernV) (c : CallV) : Res :=
 if inB c.a 0 2 = false ∨ c.a = c.e ∨ rightOk c.nm = false then (k, 0, 3)
 else if mayE k c.e c.nm = false then (k, 0, 1)
 else if allowedP k.infos (reachL k.mem (envAt k.envs c.a.toNat).root) (rightsDropP (envAt k.envs c.a.toNat).rights c.nm) = false then (k, 0, 2)
 else ({ k with envs := modAt k.envs c.a.toNat (setRights (rightsDropP (envAt k.envs c.a.toNat).rights c.nm)) }, 0, 0)
def useP (k : KernV) (c : CallV) : Res :=
 let root := (envAt k.envs c.e.toNat).root
 if inB c.a 0 63 = false ∨ root < 0 ∨ (c.k = 11 ∧ wordOk c.b = false) then (k, 0, 3)
 else
  let x := walkP k.mem root.toNat c.a.toNat
  if x.1 ≠ 0 then (k, 0, 3)
  else if c.k = 11 ∧ x.2.2 = false then (k, 0, 1)
  else
   let cache := if findC k.cache c.e (c.a / 4) < 0 then putC k.cache ⟨c.e, c.a / 4, x.2.1, x.2.2⟩ else k.cache
   if c.k = 11 then ({ k with mem := setWd k.mem x.2.1 (c.a % 4).toNat c.b, cache := cache }, 0, 0)
   else ({ k with cache := cache }, wdAt k.mem x.2.1 (c.a % 4).toNat, 0)
def frameP (k : KernV) (c : CallV) : Res :=
 if inB c.a 0 11 = false ∨ (infoAt k.infos c.a.toNat).k = 0 ∨ (c.k = 4 ∧ tabK c.b = false) then (k, 0, 3)
 else if mayE k c.e (infoAt k.infos c.a.toNat).g = false then (k, 0, 1)
 else if c.k = 2 then giveP k c
 else if c.k = 3 then pokeP k c
 else if c.k = 4 then pinnedP k (pinP k.mem k.infos c.a.toNat c.b (envAt k.envs c.e.toNat).rights)
 else if c.k = 5 then pinnedP k (unpinP k.mem k.infos c.a.toNat)
 else setP k c
def callP (k : KernV) (c : CallV) : Res :=
 if c.k = 1 then takeP k c
 else if inB c.k 2 6 then frameP k c
 else if c.k = 7 then rootP k c
 else if c.k = 8 then grantP k c
 else if c.k = 9 then revokeP k c
 else if c.k = 10 ∨ c.k = 11 then useP k c
 else (k, 0, 3)
end Go.Proofs.YtjacdlekgdnndaaGreatDoor
namespace Go.Proofs.YtjacdlekgdnndaaGreatDoor
open Go.RowKit
def nth (xs : List Int) (k : Nat) : Int := xs.getD k 0
def Rd (w : World) (v : Value) (sz n : Nat) (xs : List Value) : Prop :=
 ∃ a cap, v = .slice a n cap ∧ n ≤ cap ∧ cap ≤ maxLen ∧ xs.length = n * sz ∧ (a = none → cap = 0) ∧
  (0 < n → ∃ b off, a = some ⟨b, off, none⟩ ∧ ∀ j, j < n * sz → w.cell? ⟨b, off + j, none⟩ = xs[j]?)
theorem Rd.of_owns {w : World} {base e sz n : Nat} {v : Value} {xs : List Value} (h : w.ownsRow base e sz v n xs) : Rd w v sz n xs := by
 rcases h.2 with ⟨rfl, rfl⟩ | ⟨g, cap, cur, rfl, hb, hg, hnc, hcm, hcs, htake⟩
 ·exact ⟨none, 0, rfl, Nat.le_refl _, by simp [maxLen], h.1, fun _ => rfl, fun h => absurd h (Nat.lt_irrefl _)⟩
 ·refine ⟨_, _, rfl, hnc, hcm, h.1, (fun h => by cases h), fun _ => ⟨g, 0, rfl, fun j hj => ?_⟩⟩
  have := h.cellAt j hj
  simpa using this
theorem Rd.keep {w w' : World} {sz n : Nat} {v : Value} {xs : List Value} (h : Rd w v sz n xs) (hk : ∀ k, k < w.heap.size → w'.heap[k]? = w.heap[k]?) : Rd w' v sz n xs := by
 obtain ⟨a, cap, rfl, hnc, hcm, hl, hnil, hc⟩ := h
 refine ⟨a, cap, rfl, hnc, hcm, hl, hnil, fun hn => ?_⟩
 obtain ⟨b, off, rfl, hcell⟩ := hc hn
 refine ⟨b, off, rfl, fun j hj => ?_⟩
 have h1 := hcell j hj
 have hsome : ∃ u, xs[j]? = some u := ⟨xs[j]'(by omega), List.getElem?_eq_getElem (by omega)⟩
 obtain ⟨u, hu⟩ := hsome
 rw [hu] at h1 ⊢
 have hlt := World.block_lt_of_cell? w _ h1
 exact (World.cell?_of_block (hk _ hlt)).trans h1
theorem Rd.below {w w' : World} {sz n : Nat} {v : Value} {xs : List Value} (h : Rd w v sz n xs) (hb : Below w.heap.size w w') : Rd w' v sz n xs := h.keep hb.block
theorem Rd.drewN {w : World} {sz n : Nat} {v : Value} {xs : List Value} (h : Rd w v sz n xs) (k : Nat) : Rd (w.drewN k) v sz n xs := h.keep (fun _ _ => rfl)
theorem Rd.alloc {w : World} {sz n : Nat} {v : Value} {xs : List Value} (h : Rd w v sz n xs) (o : Obj) : Rd (w.alloc o) v sz n xs := h.keep (fun k hk => (World.grownBy_alloc w o none).block k hk (by simp))
def RdInts (w : World) (v : Value) (xs : List Int) : Prop := Rd w v 1 xs.length (xs.map (Value.int .i64))
def AtInts (w : World) (a : Option Addr) (xs : List Int) : Prop :=
 ∀ k, k < xs.length → ∃ b off, a = some ⟨b, off, none⟩ ∧ ∀ j, j < xs.length → w.cell? ⟨b, off + j, none⟩ = some (.int .i64 (nth xs j))
theorem nth_lt {xs : List Int} {k : Nat} (h : k < xs.length) : xs[k]? = some (nth xs k) := by
 simp [nth, h]
theorem nth_eq {xs : List Int} {k : Nat} (h : k < xs.length) : nth xs k = xs[k] := by
 simp [nth, h]
theorem RdInts.open {w : World} {v : Value} {xs : List Int} (h : RdInts w v xs) :
 ∃ a cap, v = .slice a xs.length cap ∧ xs.length ≤ cap ∧ cap ≤ maxLen ∧ AtInts w a xs := by
 obtain ⟨a, cap, rfl, hnc, hcm, hl, _, hc⟩ := h
 refine ⟨a, cap, rfl, hnc, hcm, fun k hk => ?_⟩
 obtain ⟨b, off, rfl, hcell⟩ := hc (by omega)
 refine ⟨b, off, rfl, fun j hj => ?_⟩
 rw [hcell j (by omega), List.getElem?_map, nth_lt hj]
 rfl
theorem AtInts.at {w : World} {a : Option Addr} {xs : List Int} (h : AtInts w a xs) {k : Nat} (hk : k < xs.length) :
 ∃ b off, a = some ⟨b, off, none⟩ ∧ w.cell? ⟨b, off + k, none⟩ = some (.int .i64 (nth xs k)) := by
 obtain ⟨b, off, rfl, hc⟩ := h k hk
 exact ⟨b, off, rfl, hc k hk⟩
theorem AtInts.keep {w w' : World} {a : Option Addr} {xs : List Int} (h : AtInts w a xs) (hk : ∀ k, k < w.heap.size → w'.heap[k]? = w.heap[k]?) : AtInts w' a xs := by
 intro k hk'
 obtain ⟨b, off, rfl, hc⟩ := h k hk'
 exact ⟨b, off, rfl, fun j hj => (World.cell?_of_block (hk _ (World.block_lt_of_cell? w _ (hc j hj)))).trans (hc j hj)⟩
theorem AtInts.below {w w' : World} {a : Option Addr} {xs : List Int} (h : AtInts w a xs) (hb : Below w.heap.size w w') : AtInts w' a xs := h.keep hb.block
theorem RdInts.below {w w' : World} {v : Value} {xs : List Int} (h : RdInts w v xs) (hb : Below w.heap.size w w') : RdInts w' v xs := Rd.below h hb
theorem RdInts.drewN {w : World} {v : Value} {xs : List Int} (h : RdInts w v xs) (k : Nat) : RdInts (w.drewN k) v xs := Rd.drewN h k
theorem RdInts.keep {w w' : World} {v : Value} {xs : List Int} (h : RdInts w v xs) (hk : ∀ k, k < w.heap.size → w'.heap[k]? = w.heap[k]?) : RdInts w' v xs := Rd.keep h hk
theorem RdInts.alloc {w : World} {v : Value} {xs : List Int} (h : RdInts w v xs) (o : Obj) : RdInts (w.alloc o) v xs := Rd.alloc h o
def OwnInts (lo : Nat) (w : World) (v : Value) (xs : List Int) : Prop := w.ownsRow lo 3 1 v xs.length (xs.map (Value.int .i64))
theorem OwnInts.rd {lo : Nat} {w : World} {v : Value} {xs : List Int} (h : OwnInts lo w v xs) : RdInts w v xs := Rd.of_owns h
theorem ret_bool {a b : Bool} (h : a = b) : Ending.returned (.bool a) = .returned (.bool b) := by rw [h]
theorem ret_int {a b : Int} (h : a = b) : Ending.returned (.int .i64 a) = .returned (.int .i64 b) := by rw [h]
theorem below_drewN {B : Nat} {a w : World} (h : Below B a w) (n : Nat) : Below B a (w.drewN n) := ⟨h.os, h.tape, h.output, h.size, h.block⟩
def RdBytes (w : World) (v : Value) (bs : List Int) : Prop := Rd w v 1 bs.length (bs.map (Value.int .u8)) ∧ ∀ b ∈ bs, 0 ≤ b ∧ b < 256
theorem rd_of_row (k : IntKind) {w : World} {a : Option Addr} {len cap : Nat} {zs : List Int}
 (h : (a = none ∧ len = 0 ∧ cap = 0 ∧ zs = []) ∨ ∃ x, a = some x ∧ len ≤ cap ∧ cap ≤ maxLen ∧ zs.length = cap ∧ (∀ i, i < zs.length → w.cell? (x.add i) = some (.int k (zs.getD i 0))) ∧ ∀ n ∈ zs, (Lit.int k n).wf = true) :
 Rd w (.slice a len cap) 1 (zs.take len).length ((zs.take len).map (Value.int k)) ∧ ∀ n ∈ zs.take len, (Lit.int k n).wf = true := by
 rcases h with ⟨rfl, rfl, rfl, rfl⟩ | ⟨x, rfl, hlc, hcm, hz, hc, hwf⟩
 ·exact ⟨⟨none, 0, by simp, by simp, by simp [maxLen], by simp, fun _ => rfl, by simp⟩, by simp⟩
 ·have hl : (zs.take len).length = len := by rw [List.length_take]; omega
  refine ⟨⟨some x, cap, by rw [hl], by omega, hcm, by simp, (fun h => by cases h), fun hn => ?_⟩, fun n hn => hwf n (List.mem_of_mem_take hn)⟩
  rw [hl] at hn ⊢
  have h0 := hc 0 (by omega)
  obtain ⟨b, off, spot⟩ := x
  cases spot with
  | some q => simp [Addr.add, World.cell?] at h0; split at h0 <;> simp_all
  | none =>
   refine ⟨b, off, rfl, fun j hj => ?_⟩
   have hj' := hc j (by omega)
   have hadd : (⟨b, off, none⟩ : Addr).add j = ⟨b, off + j, none⟩ := by unfold Addr.add; split <;> simp_all
   rw [hadd] at hj'
   rw [hj', List.getElem?_map, List.getElem?_take, if_pos (by omega)]
   simp [List.getElem?_eq_getElem (show j < zs.length by omega)]
theorem rdBytes_of_row {w : World} {a : Option Addr} {len cap : Nat} {zs : List Int}
 (h : (a = none ∧ len = 0 ∧ cap = 0 ∧ zs = []) ∨ ∃ x, a = some x ∧ len ≤ cap ∧ cap ≤ maxLen ∧ zs.length = cap ∧ (∀ i, i < zs.length → w.cell? (x.add i) = some (.int .u8 (zs.getD i 0))) ∧ ∀ n ∈ zs, (Lit.int .u8 n).wf = true) :
 RdBytes w (.slice a len cap) (zs.take len) := by
 refine ⟨(rd_of_row .u8 h).1, fun b hb => ?_⟩
 have := (rd_of_row .u8 h).2 b hb
 simp only [Lit.wf, Bool.and_eq_true, decide_eq_true_eq] at this
 have h1 : IntKind.min .u8 = 0 := by decide
 have h2 : IntKind.max .u8 = 255 := by decide
 omega
end Go.Proofs.YtjacdlekgdnndaaGreatDoor
namespace Go.Proofs.YtjacdlekgdnndaaGreatDoor
open Go.RowKit
set_option maxHeartbeats 400000 in
theorem l6In_any (n lo hi : Int) (w : World) :
 Calls Tryz.prog 59 #[.int .i64 n, .int .i64 lo, .int .i64 hi] w fun e w' => e = .returned (.bool (inB n lo hi)) ∧ w = w' := by
 by_cases h1 : lo ≤ n
 ·have e1 : inB n lo hi = decide (n ≤ hi) := by simp [inB, h1]
  have H := Lib.hid e1; clear e1
  go_enter Tryz.func59, Tryz.ntmps59
  go_wp2
  go_ret
  exact ⟨ret_bool H.out.symm, rfl⟩
 ·have e1 : inB n lo hi = false := by simp [inB, h1]
  have H := Lib.hid e1; clear e1
  go_enter Tryz.func59, Tryz.ntmps59
  go_wp2
  go_ret
  exact ⟨ret_bool H.out.symm, rfl⟩
set_option maxHeartbeats 400000 in
theorem within_any (n lo hi : Int) (w : World) :
 Calls Tryz.prog 55 #[.int .i64 n, .int .i64 lo, .int .i64 hi] w fun e w' => e = .returned (.bool (inB n lo hi)) ∧ w = w' := by
 by_cases h1 : lo ≤ n
 ·have e1 : inB n lo hi = decide (n ≤ hi) := by simp [inB, h1]
  have H := Lib.hid e1; clear e1
  go_enter Tryz.func55, Tryz.ntmps55
  go_wp2
  go_ret
  exact ⟨ret_bool H.out.symm, rfl⟩
 ·have e1 : inB n lo hi = false := by simp [inB, h1]
  have H := Lib.hid e1; clear e1
  go_enter Tryz.func55, Tryz.ntmps55
  go_wp2
  go_ret
  exact ⟨ret_bool H.out.symm, rfl⟩
set_option maxHeartbeats 400000 in
theorem isEnv_any (n : Int) (w : World) :
 Calls Tryz.prog 43 #[.int .i64 n] w fun e w' => e = .returned (.bool (inB n 0 2)) ∧ w = w' := by
 go_enter Tryz.func43, Tryz.ntmps43
 go_wp2_with (go_at_call 55; refine (within_any _ _ _ _).mono ?_; rintro e w' ⟨rfl, rfl⟩)
 go_ret
 exact ⟨rfl, rfl⟩
def findIdx (p : Int → Bool) (xs : List Int) : Int := if xs.any p then (xs.findIdx p : Int) else -1
theorem findIdx_none {p : Int → Bool} {xs : List Int} (h : ∀ j, j < xs.length → p (nth xs j) = false) : findIdx p xs = -1 := by
 unfold findIdx
 have : xs.any p = false := by
  rw [List.any_eq_false]
  intro x hx
  obtain ⟨j, hj, rfl⟩ := List.getElem_of_mem hx
  have := h j hj
  rw [nth_eq hj] at this
  simp [this]
 simp [this]
theorem findIdx_at {p : Int → Bool} {xs : List Int} {k : Nat} (hk : k < xs.length) (h : ∀ j, j < k → p (nth xs j) = false) (hp : p (nth xs k) = true) : findIdx p xs = k := by
 unfold findIdx
 rw [nth_eq hk] at hp
 have h1 : xs.any p = true := List.any_eq_true.2 ⟨xs[k], List.getElem_mem hk, hp⟩
 have h2 : xs.findIdx p = k := by
  rw [List.findIdx_eq hk]
  refine ⟨hp, fun j hj => ?_⟩
  have := h j hj
  rwa [nth_eq (by omega)] at this
 simp [h1, h2]
theorem findIdx_ge {p : Int → Bool} {xs : List Int} : decide (0 ≤ findIdx p xs) = xs.any p := by
 unfold findIdx
 cases xs.any p <;> simp
set_option maxHeartbeats 400000 in
theorem IndexFunc_any (F : Nat) (caps : Array Value) (p : Int → Bool) (v : Value) (xs : List Int) (w : World) (h : RdInts w v xs)
 (hF : ∀ args w, (callFunc F args).run Tryz.prog w = .ok (.enter F args) w) (hf : ∀ x w, Calls Tryz.prog F (#[.int .i64 x] ++ caps) w fun e w' => e = .returned (.bool (p x)) ∧ w = w') :
 Calls Tryz.prog 187 #[v, .func (.func F) #[] caps] w fun e w' => e = .returned (.int .i64 (findIdx p xs)) ∧ w = w' := by
 obtain ⟨a, c, rfl, hc, hcm, H⟩ := h.open
 clear h
 unfold maxLen at hcm
 have Hf := Lib.hid hf; clear hf
 go_enter Tryz.func187, Tryz.ntmps187
 go_wp2
 go_loop [8] (fun i => ∃ k : Nat, k ≤ xs.length ∧ i = .int .i64 k ∧ ∀ j, j < k → p (nth xs j) = false) (fun i => xs.length - (intOf i).toNat)
 case atStart => exact ⟨0, Nat.zero_le _, rfl, fun j hj => absurd hj (Nat.not_lt_zero _)⟩
 case round =>
  obtain ⟨k, hk, rfl, hpre⟩ := hrel
  have Hpre := Lib.hid hpre; clear hpre
  by_cases hlt : k < xs.length
  ·obtain ⟨b, off, rfl, D⟩ := H.at hlt
   clear H
   cases hp : p (nth xs k)
   ·have Hp := Lib.hid hp; clear hp
    go_wp2_with (refine (Hf.out _ _).mono ?_; rintro e w' ⟨rfl, rfl⟩; rw [Hp.out])
    go_round
    case rel => exact ⟨k + 1, by omega, by go_num, fun j hj => by
     rcases Nat.lt_succ_iff_lt_or_eq.1 hj with h | h
     ·exact Hpre.out j h
     ·subst h; exact Hp.out⟩
    case measure => simp [intOf]; omega
   ·have Hp := Lib.hid hp; clear hp
    have hres := Lib.hid (findIdx_at (p := p) hlt Hpre.out Hp.out)
    go_wp2_with (refine (Hf.out _ _).mono ?_; rintro e w' ⟨rfl, rfl⟩; rw [Hp.out])
    go_ret
    exact ⟨ret_int hres.out.symm, rfl⟩
  ·have hres := Lib.hid (findIdx_none (p := p) (xs := xs) (fun j hj => Hpre.out j (by omega)))
   go_wp2
   go_ret
   exact ⟨ret_int hres.out.symm, rfl⟩
set_option maxHeartbeats 400000 in
theorem ContainsFunc_any (F : Nat) (caps : Array Value) (p : Int → Bool) (v : Value) (xs : List Int) (w : World) (h : RdInts w v xs)
 (hF : ∀ args w, (callFunc F args).run Tryz.prog w = .ok (.enter F args) w) (hf : ∀ x w, Calls Tryz.prog F (#[.int .i64 x] ++ caps) w fun e w' => e = .returned (.bool (p x)) ∧ w = w') :
 Calls Tryz.prog 119 #[v, .func (.func F) #[] caps] w fun e w' => e = .returned (.bool (xs.any p)) ∧ w = w' := by
 have Hf := Lib.hid hf; clear hf
 go_enter Tryz.func119, Tryz.ntmps119
 go_wp2_with (go_at_call 187; refine (IndexFunc_any F caps p v xs _ h hF Hf.out).mono ?_; rintro e w' ⟨rfl, rfl⟩)
 go_ret
 exact ⟨ret_bool findIdx_ge, rfl⟩
theorem forall_lt_succ {p : Nat → Prop} {k : Nat} (h : ∀ j, j < k → p j) (hk : p k) : ∀ j, j < k + 1 → p j := fun j hj => by
 rcases Nat.lt_succ_iff_lt_or_eq.1 hj with h' | h'
 ·exact h j h'
 ·subst h'; exact hk
end Go.Proofs.YtjacdlekgdnndaaGreatDoor
namespace Go.Proofs.YtjacdlekgdnndaaGreatDoor
open Go.RowKit
theorem Tryz.infoInt : (Tryz.prog.info? 3).map (fun i => (i.zero, i.size, i.bytes)) = some (some (.int .i64 0), 1, 8) := by kernel_rfl
theorem OwnInts.below {lo : Nat} {w w' : World} {v : Value} {xs : List Int} (h : OwnInts lo w v xs) (hb : Below w.heap.size w w') : OwnInts lo w' v xs := by
 refine World.ownsRow.kept (row := none) h ⟨hb.os, hb.tape, hb.output, hb.size, fun k hk _ => hb.block k hk⟩ ?_
 cases v.ownBlock <;> simp
theorem ownsRow_below {lo : Nat} {w w' : World} {v : Value} {e sz n : Nat} {xs : List Value} (h : w.ownsRow lo e sz v n xs) (hb : Below w.heap.size w w') : w'.ownsRow lo e sz v n xs := by
 refine World.ownsRow.kept (row := none) h ⟨hb.os, hb.tape, hb.output, hb.size, fun k hk _ => hb.block k hk⟩ ?_
 cases v.ownBlock <;> simp
theorem Below.of_grown {w w' : World} (h : w.grownBy w' none) : Below w.heap.size w w' := ⟨h.os, h.tape, h.output, h.size, fun k hk => h.block k hk (by simp)⟩
theorem madeOnes (z : Value) (hz : z.cells = #[z]) (n : Nat) : (madeCells z.cells (n * 1)).toList = List.replicate n z := by
 rw [hz, Nat.mul_one, toList_madeCells_one]
theorem wp_make {w : World} {ops : Array Oper} {rest : List Oper} {o : Oper} {a : Act} {Q : Exit → Act → World → Prop} {l : Operand} {t : TypeId} {n : Nat}
 (hg : o.guard = none) (hop : o.op = Op.makeSlice t l l) (e : TypeId) (z : Value) (bytes : Nat) (h1 : Tryz.prog.underlying t = some (.slice e))
 (h2 : (Tryz.prog.info? e).map (fun i => (i.zero, i.size, i.bytes)) = some (some z, 1, bytes)) (hz : z.cells = #[z])
 (hl : a.eval l = .int .i64 n) (b2 : bytes * n ≤ 281474976710656) (b3 : n ≤ maxLen)
 (hK : ∀ w', w'.ownsRow w.heap.size e 1 (.slice (some ⟨w.heap.size, 0, none⟩) n n) n (List.replicate n z) → Below w.heap.size w w' → w.heap.size < w'.heap.size →
  wpList Tryz.prog ops Q rest (a.put o.dst (.slice (some ⟨w.heap.size, 0, none⟩) n n)) w') : wpList Tryz.prog ops Q (o :: rest) a w := by
 obtain ⟨i0, hi, hz0, hz1, hz2⟩ := info_parts h2
 refine wpList_make_full w hg l l t hop w.heap.size e i0 z 1 h1 hi hz0 hz1 .i64 .i64 n n n hl hl rfl rfl (by rw [hz2]; exact b2) b3 (Nat.le_refl _) fun w' h h' => ?_
 rw [madeOnes z hz] at h
 exact hK w' h (Below.of_grown h') (h.lt _ rfl).2
theorem eq_of_nth {xs ys : List Int} (hl : xs.length = ys.length) (h : ∀ j, j < xs.length → nth xs j = nth ys j) : xs = ys := by
 refine List.ext_getElem hl fun j h1 h2 => ?_
 have := h j h1
 rwa [nth_eq h1, nth_eq h2] at this
theorem wp_append {lo : Nat} {w : World} {ops : Array Oper} {rest : List Oper} {o : Oper} {a : Act} {Q : Exit → Act → World → Prop} {s x : Operand} {t : TypeId}
 (hgd : o.guard = none) (ho : o.op = .call { callee := .builtin .append, args := #[s, x], argTypes := #[t, t] })
 (e : TypeId) (z : Value) (sz bytes : Nat) (ht : Tryz.prog.underlying t = some (.slice e)) (hi : (Tryz.prog.info? e).map (fun i => (i.zero, i.size, i.bytes)) = some (some z, sz, bytes))
 (hzs : z.cells.size = sz) (hsz : 0 < sz) {v u : Value} {n m : Nat} {xs news : List Value} (hs : a.eval s = v) (hown : w.ownsRow lo e sz v n xs)
 (hx : a.eval x = u) (hr : Rd w u sz m news) (h1 : ∀ u ∈ news, u.oneCell' = true) (h63 : n + m ≤ maxLen) (hbytes : (n + m) * bytes ≤ 140737488355328) (hlo : lo ≤ w.heap.size)
 (hK : ∀ v' w', w'.ownsRow lo e sz v' (n + m) (xs ++ news) → w.grownBy w' v.ownBlock → Below lo w w' → wpList Tryz.prog ops Q rest (a.put o.dst v') w') : wpList Tryz.prog ops Q (o :: rest) a w := by
 obtain ⟨i0, hi0, hz0, hz1, hz2⟩ := info_parts hi
 obtain ⟨ao, c, rfl, hmc, hcm, hl, hnil, hc⟩ := hr
 have hbel : ∀ w', w.grownBy w' v.ownBlock → Below lo w w' := fun w' hg => (Below.refl lo w).grown hg hlo (fun k hk => (hown.lt k hk).1)
 cases ao with
 | none =>
  have hc0 := hnil rfl
  subst hc0
  obtain rfl : m = 0 := by omega
  have hnews : news = [] := List.eq_nil_of_length_eq_zero (by simpa using hl)
  subst hnews
  refine wpList_append_own_none hgd s x t ho lo e i0 sz ht hi0 v n xs hs hown hx ?_
  exact hK v w (by simpa using hown) ⟨rfl, rfl, rfl, Nat.le_refl _, fun _ _ _ => rfl⟩ (Below.refl _ _)
 | some ad =>
  refine wpList_append_own w hgd s x t ho lo e i0 z sz bytes ht hi0 hz0 hz1 hz2 hzs hsz v n xs hs hown ad m c news hx hl ?_ h1 h63 hbytes hlo (fun v' w' h2 h3 _ => hK v' w' h2 h3 (hbel w' h3))
  intro j u hu
  rcases Nat.eq_zero_or_pos m with rfl | hm
  ·simp at hl
   simp [hl] at hu
  ·obtain ⟨b, off, had, hcell⟩ := hc hm
   obtain rfl : ad = ⟨b, off, none⟩ := by simpa using had
   have hj : j < news.length := (List.getElem?_eq_some_iff.1 hu).1
   have hadd : (⟨b, off, none⟩ : Addr).add j = ⟨b, off + j, none⟩ := by unfold Addr.add; split <;> simp_all
   rw [hadd, hcell j (by omega), hu]
theorem Rd.news (w : World) (cs : Array Value) (e : TypeId) (sz n : Nat) (hs : cs.size = n * sz) (hn : n ≤ maxLen) : Rd (w.alloc (.cells cs e)) (.slice (some ⟨w.heap.size, 0, none⟩) n n) sz n cs.toList :=
 Rd.of_owns (World.ownsRow_lit (base := w.heap.size) w cs n (Nat.le_refl _) hn hs)
theorem mem_ints {xs : List Int} : ∀ u ∈ xs.map (Value.int .i64), u.oneCell' = true := by
 intro u hu
 obtain ⟨x, _, rfl⟩ := List.mem_map.1 hu
 rfl
theorem ownsRow_empty (w : World) (e sz : Nat) : (w.alloc (.cells #[] e)).ownsRow w.heap.size e sz (.slice (some ⟨w.heap.size, 0, none⟩) 0 0) 0 [] :=
 World.ownsRow_made w #[] 0 (Nat.le_refl _) (by simp [maxLen]) (by simp)
set_option maxHeartbeats 400000 in
theorem CloneInts_any (v : Value) (xs : List Int) (w : World) (h : RdInts w v xs) (hs : xs.length ≤ 1048576) :
 Calls Tryz.prog 127 #[v] w fun e w' => ∃ v', e = .returned v' ∧ OwnInts w.heap.size w' v' xs ∧ Below w.heap.size w w' := by
 have h' := h
 obtain ⟨a, c, rfl, hnc, hcm, hl, hnil, hc⟩ := h'
 have hq := fun w => Lib.run_eql_slice_nil (P := Tryz.prog) w 38 3 a xs.length c 0 0 Tryz.underlying38
 cases a with
 | none =>
  have hc0 := hnil rfl
  subst hc0
  have h0 : xs = [] := List.eq_nil_of_length_eq_zero (by omega)
  subst h0
  simp only [List.length_nil] at hq
  go_enter Tryz.func127, Tryz.ntmps127
  go_wp2
  go_ret
  exact ⟨_, rfl, World.ownsRow_nil _ _ _ _, Below.refl _ _⟩
 | some ad =>
  clear hc hnil
  go_enter Tryz.func127, Tryz.ntmps127
  go_wp2_with (refine wp_append (lo := w.heap.size) (v := .slice (some ⟨w.heap.size, 0, none⟩) 0 0) (n := 0) (xs := []) (m := xs.length) (news := xs.map (Value.int .i64)) rfl rfl 3 (.int .i64 0) 1 8 Tryz.underlying38 Tryz.infoInt rfl (by decide) rfl (ownsRow_empty _ _ _) rfl (h.alloc _) mem_ints (by unfold maxLen; omega) (by omega) (by simp) ?_; intro v' w' hown _ hbel)
  go_ret
  refine ⟨_, rfl, by simpa [OwnInts] using hown, ((Below.refl _ _).alloc (Nat.le_refl _) _).trans hbel⟩
theorem own_shape {w : World} {lo e sz n : Nat} {v : Value} {xs : List Value} (h : w.ownsRow lo e sz v n xs) (hn : 0 < n) : ∃ g cap, v = .slice (some ⟨g, 0, none⟩) n cap ∧ lo ≤ g ∧ g < w.heap.size := by
 have hlt := h.lt
 rcases h.2 with ⟨_, rfl⟩ | ⟨g, cap, cur, rfl, hb, hg, _⟩
 ·omega
 ·exact ⟨g, cap, rfl, hb, (hlt g rfl).2⟩
theorem getElem_ints {xs : List Int} {a : Nat} (h : a < xs.length) : (xs.map (Value.int .i64))[a]? = some (.int .i64 (nth xs a)) := by
 rw [List.getElem?_map, nth_lt h]; rfl
theorem own_set {lo : Nat} {w : World} {v : Value} {xs : List Int} {a : Nat} {x : Int} (h : w.ownsRow lo 3 1 v xs.length ((xs.map (Value.int .i64)).set a (.int .i64 x))) : OwnInts lo w v (xs.set a x) := by
 unfold OwnInts
 rw [List.length_set, List.map_set]
 exact h
theorem nth_set {xs : List Int} {a j : Nat} {x : Int} (ha : a < xs.length) : nth (xs.set a x) j = if j = a then x else nth xs j := by
 unfold nth
 rw [List.getD_eq_getElem?_getD, List.getD_eq_getElem?_getD, List.getElem?_set]
 by_cases h : a = j
 ·subst h; simp [ha]
 ·have h' : j ≠ a := fun e => h e.symm
  simp [h, h']
end Go.Proofs.YtjacdlekgdnndaaGreatDoor
namespace Go.Proofs.YtjacdlekgdnndaaGreatDoor
open Go.RowKit
def AtBytes (w : World) (a : Option Addr) (bs : List Int) : Prop :=
 ∀ k, k < bs.length → ∃ b off, a = some ⟨b, off, none⟩ ∧ ∀ j, j < bs.length → w.cell? ⟨b, off + j, none⟩ = some (.int .u8 (nth bs j)) ∧ 0 ≤ nth bs j ∧ nth bs j < 256
theorem RdBytes.open {w : World} {v : Value} {xs : List Int} (h : RdBytes w v xs) :
 ∃ a cap, v = .slice a xs.length cap ∧ xs.length ≤ cap ∧ cap ≤ maxLen ∧ AtBytes w a xs := by
 obtain ⟨⟨a, cap, rfl, hnc, hcm, hl, _, hc⟩, hby⟩ := h
 refine ⟨a, cap, rfl, hnc, hcm, fun k hk => ?_⟩
 obtain ⟨b, off, rfl, hcell⟩ := hc (by omega)
 refine ⟨b, off, rfl, fun j hj => ⟨?_, ?_⟩⟩
 ·rw [hcell j (by omega), List.getElem?_map, nth_lt hj]
  rfl
 ·rw [nth_eq hj]
  exact hby _ (List.getElem_mem hj)
theorem AtBytes.at {w : World} {a : Option Addr} {xs : List Int} (h : AtBytes w a xs) {k : Nat} (hk : k < xs.length) :
 ∃ b off, a = some ⟨b, off, none⟩ ∧ w.cell? ⟨b, off + k, none⟩ = some (.int .u8 (nth xs k)) ∧ 0 ≤ nth xs k ∧ nth xs k < 256 := by
 obtain ⟨b, off, rfl, hc⟩ := h k hk
 exact ⟨b, off, rfl, hc k hk⟩
def Reader (w0 w : World) (R : Value) (N : Nat) : Prop :=
 ∃ g bsv bs, ∃ p : Nat, R = .pointer (some ⟨g, 0, none⟩) ∧ w0.heap.size ≤ g ∧ w.heap[g]? = some (.cells #[bsv, .int .i64 p] 126 (0, 0)) ∧ RdBytes w0 bsv bs ∧ bs.length ≤ 2000 ∧ p ≤ N
theorem xor_nonneg {X : Int} (h0 : 0 ≤ X) (h1 : X ≤ 1000000000) : 0 ≤ bits .xor .i64 X (X / 64) := by
 obtain ⟨x, rfl⟩ := Int.eq_ofNat_of_zero_le h0
 have e : ((x : Int) / 64) = ((x / 64 : Nat) : Int) := by omega
 have ha : x < 2 ^ 40 := by omega
 have hb : x / 64 < 2 ^ 40 := by omega
 have ha' : x % 2 ^ IntKind.i64.bits = x := Nat.mod_eq_of_lt (Nat.lt_of_lt_of_le ha (by decide))
 have hb' : x / 64 % 2 ^ IntKind.i64.bits = x / 64 := Nat.mod_eq_of_lt (Nat.lt_of_lt_of_le hb (by decide))
 have hx : x ^^^ (x / 64) < 2 ^ 40 := Nat.xor_lt_two_pow ha hb
 rw [e]
 simp only [bits, BitVec.ofInt_natCast, BitVec.toNat_xor, BitVec.toNat_ofNat, ha', hb']
 rw [IntWalk.i64_in _ (by omega)]
 omega
def Picked (w0 w : World) (R : Value) (N : Nat) (n : Int) (e : Ending) (w' : World) : Prop :=
 ∃ x : Int, e = .returned (.int .i64 x) ∧ (0 ≤ x ∧ (0 < n → x < n) ∧ (n ≤ 0 → x = 0)) ∧ Reader w0 w' R (N + 1) ∧ Below w0.heap.size w0 w' ∧ ∃ g, R = .pointer (some ⟨g, 0, none⟩) ∧ w.grownBy w' (some g)
theorem Reader.stored {w0 w : World} {g p N : Nat} {bsv : Value} {bs : List Int} {n : Int} (hg : w0.heap.size ≤ g) (hblk : w.heap[g]? = some (.cells #[bsv, .int .i64 p] 126 (0, 0))) (hr : RdBytes w0 bsv bs) (hlen : bs.length ≤ 2000) (hp : p ≤ N) (hb : Below w0.heap.size w0 w) :
 ∀ (k : Nat) (x : Int), 0 ≤ x → (0 < n → x < n) → (n ≤ 0 → x = 0) → Picked w0 w (.pointer (some ⟨g, 0, none⟩)) N n (.returned (.int .i64 x)) ((w.setCell ⟨g, 1, none⟩ (.int .i64 (p + 1))).drewN k) := by
 intro k x h1 h2 h3
 refine ⟨x, rfl, ⟨h1, h2, h3⟩, ⟨g, bsv, bs, p + 1, rfl, hg, ?_, hr, hlen, by omega⟩, below_drewN (hb.setCell hg _) k, g, rfl, ?_⟩
 ·have := heap_setCell_same w g 1 #[bsv, .int .i64 p] 126 (.int .i64 (p + 1)) hblk
  simpa using this
 ·refine ⟨rfl, rfl, rfl, by simp [World.drewN], fun b hb' hne => ?_⟩
  exact heap_setCell_other w ⟨g, 1, none⟩ b _ (fun e => hne (by simp [e]))
set_option maxHeartbeats 1000000 in
theorem pick_any (w0 : World) (R : Value) (N : Nat) (n : Int) (w : World) (h : Reader w0 w R N) (hb : Below w0.heap.size w0 w) (hN : N ≤ 1000000) (hn : n ≤ 1000000) :
 Calls Tryz.prog 32 #[R, .int .i64 n] w (Picked w0 w R N n) := by
 obtain ⟨g, bsv, bs, p, rfl, hg, hblk, hR, hlen, hp⟩ := h
 have S := Lib.hid (Reader.stored (n := n) hg hblk hR hlen hp hb)
 have c0 : w.cell? ⟨g, 0, none⟩ = some bsv := cell_of_row w g 0 _ _ _ hblk
 have c1 : w.cell? ⟨g, 1, none⟩ = some (.int .i64 p) := cell_of_row w g 1 _ _ _ hblk
 have f1 : w.frozen? ⟨g, 1, none⟩ = false := frozen_of_row w g 1 _ _ hblk
 clear hblk
 by_cases h1 : n < 1
 ·go_enter Tryz.func32, Tryz.ntmps32
  go_wp2
  go_ret
  exact S.out 0 0 (by omega) (by omega) (by omega)
 obtain ⟨a, c, hv, hc, hcm, hA⟩ := hR.open
 subst hv
 unfold maxLen at hcm
 by_cases h2 : bs.length = 0
 ·have h2' : ((bs.length : Int) == 0) = true := by simp [h2]
  clear h2
  go_enter Tryz.func32, Tryz.ntmps32
  go_wp2
  go_ret
  exact S.out 0 0 (by omega) (by omega) (by omega)
 have h2' : ((bs.length : Int) == 0) = false := by simp [h2]
 have h2'' : 0 < bs.length := by omega
 clear h2
 by_cases h3 : p < bs.length
 ·obtain ⟨b, off, rfl, D0, hb0, hb1⟩ := hA.at h3
  have hbl := World.block_lt_of_cell? w0 _ D0
  have D : w.cell? ⟨b, off + p, none⟩ = some (.int .u8 (nth bs p)) := (hb.cell hbl).trans D0
  clear D0 hA
  have hne : b ≠ g := by
   rintro rfl
   simp at hbl
   omega
  clear hbl
  go_enter Tryz.func32, Tryz.ntmps32
  go_wp2
  go_ret
  exact S.out 0 _ (Int.emod_nonneg _ (by omega)) (fun _ => Int.emod_lt_of_pos _ (by omega)) (by omega)
 ·have m1 : (p : Int).tmod bs.length = (p : Int) % bs.length := Int.tmod_eq_emod_of_nonneg (by omega)
  have m2 : 0 ≤ (p : Int) % bs.length := Int.emod_nonneg _ (by omega)
  have m3 : (p : Int) % bs.length < bs.length := Int.emod_lt_of_pos _ (by omega)
  have m4 : ((p : Int) % bs.length).toNat = p % bs.length := by rw [show (p : Int) % bs.length = ((p % bs.length : Nat) : Int) from rfl, Int.toNat_natCast]
  have q1 : 0 ≤ (p : Int) / bs.length := Int.ediv_nonneg (by omega) (by omega)
  have q2 : (p : Int) / bs.length ≤ p := Int.ediv_le_self _ (by omega)
  have s1 : IntKind.i64.wrap ((p : Int) * 7) = p * 7 := IntWalk.i64_in _ (by omega)
  have s2 : IntKind.i64.wrap ((p : Int) * 7 + 3) = p * 7 + 3 := IntWalk.i64_in _ (by omega)
  have k1 : ((p : Int) * 7 + 3).tmod bs.length = ((p : Int) * 7 + 3) % bs.length := Int.tmod_eq_emod_of_nonneg (by omega)
  have k2 : 0 ≤ ((p : Int) * 7 + 3) % bs.length := Int.emod_nonneg _ (by omega)
  have k3 : ((p : Int) * 7 + 3) % bs.length < bs.length := Int.emod_lt_of_pos _ (by omega)
  have k4 : (((p : Int) * 7 + 3) % bs.length).toNat = (p * 7 + 3) % bs.length := by rw [show ((p : Int) * 7 + 3) % bs.length = (((p * 7 + 3) % bs.length : Nat) : Int) by push_cast; rfl, Int.toNat_natCast]
  have hl1 : p % bs.length < bs.length := Nat.mod_lt _ h2''
  have hl2 : (p * 7 + 3) % bs.length < bs.length := Nat.mod_lt _ h2''
  obtain ⟨b, off, rfl, D0, hb0, hb1⟩ := hA.at hl1
  obtain ⟨b', off', hbb, E0, hc0, hc1⟩ := hA.at hl2
  obtain ⟨rfl, rfl⟩ : b = b' ∧ off = off' := by simpa using hbb
  clear hbb hA
  have hbl := World.block_lt_of_cell? w0 _ D0
  have D : w.cell? ⟨b, off + p % bs.length, none⟩ = some (.int .u8 (nth bs (p % bs.length))) := (hb.cell hbl).trans D0
  have E : w.cell? ⟨b, off + (p * 7 + 3) % bs.length, none⟩ = some (.int .u8 (nth bs ((p * 7 + 3) % bs.length))) := (hb.cell (p := ⟨b, off + (p * 7 + 3) % bs.length, none⟩) hbl).trans E0
  clear D0 E0
  have hne : b ≠ g := by
   rintro rfl
   simp at hbl
   omega
  clear hbl
  go_enter Tryz.func32, Tryz.ntmps32
  go_wp2
  go_quiet (fail)
  have x0 : 0 ≤ nth bs (p % bs.length) * 131 + nth bs ((p * 7 + 3) % bs.length) * 1117 + (p : Int) * 29 + (p : Int) / bs.length * 53 := by omega
  have x1 : nth bs (p % bs.length) * 131 + nth bs ((p * 7 + 3) % bs.length) * 1117 + (p : Int) * 29 + (p : Int) / bs.length * 53 ≤ 1000000000 := by omega
  generalize nth bs (p % bs.length) * 131 + nth bs ((p * 7 + 3) % bs.length) * 1117 + (p : Int) * 29 + (p : Int) / bs.length * 53 = X at x0 x1 ⊢
  go_wp2
  go_ret
  have y0 := xor_nonneg x0 (by omega : X ≤ 1000000000)
  exact S.out _ _ (Int.tmod_nonneg _ y0) (fun hn0 => by rw [Int.tmod_eq_emod_of_nonneg y0]; exact Int.emod_lt_of_pos _ hn0) (by omega)
def Opened (w : World) (e : Ending) (w' : World) : Prop := ∃ R, e = .returned R ∧ Reader w w' R 0 ∧ Below w.heap.size w w'
theorem RdBytes.take {w : World} {a : Option Addr} {c : Nat} {bs : List Int} (h : RdBytes w (.slice a bs.length c) bs) (k : Nat) (hk : k ≤ bs.length) : RdBytes w (.slice a k c) (bs.take k) := by
 obtain ⟨⟨a', cap, hv, hnc, hcm, hl, hnil, hc⟩, hby⟩ := h
 simp only [Value.slice.injEq, true_and] at hv
 obtain ⟨rfl, rfl⟩ := hv
 have e : (bs.take k).length = k := by rw [List.length_take]; omega
 refine ⟨⟨a, c, by rw [e], by omega, hcm, by simp, hnil, fun hn => ?_⟩, fun b hb => hby b (List.mem_of_mem_take hb)⟩
 rw [e] at hn ⊢
 obtain ⟨b, off, rfl, hcell⟩ := hc (by omega)
 refine ⟨b, off, rfl, fun j hj => ?_⟩
 rw [hcell j (by omega), List.map_take, List.getElem?_take, if_pos (by omega)]
theorem Reader.opened {w : World} {bsv : Value} {bs : List Int} (h : RdBytes w bsv bs) (hl : bs.length ≤ 2000) : Opened w (.returned (.pointer (some ⟨w.heap.size, 0, none⟩))) (w.alloc (.cells #[bsv, .int .i64 0] 126)) :=
 ⟨_, rfl, ⟨_, bsv, bs, 0, rfl, Nat.le_refl _, heap_alloc_new w _, h, hl, Nat.le_refl _⟩, (Below.refl _ _).alloc (Nat.le_refl _) _⟩
set_option maxHeartbeats 400000 in
theorem l6Open_any (v : Value) (bs : List Int) (w : World) (h : RdBytes w v bs) :
 Calls Tryz.prog 29 #[v] w (Opened w) := by
 obtain ⟨a, c, hv, hc, hcm, hA⟩ := h.open
 subst hv
 unfold maxLen at hcm
 by_cases hl : bs.length ≤ 2000
 ·have S := Lib.hid (Reader.opened h hl)
  have hl' : ¬ (2000 < bs.length) := by omega
  clear hl hA
  go_enter Tryz.func29, Tryz.ntmps29
  go_wp2
  go_ret
  exact S.out
 ·have S := Lib.hid (Reader.opened (h.take 2000 (by omega)) (by rw [List.length_take]; omega))
  have hl' : 2000 < bs.length := by omega
  have hl2 : 2000 ≤ c := by omega
  obtain ⟨b, off, rfl, _⟩ := hA.at (k := 0) (by omega)
  clear hl hA
  go_enter Tryz.func29, Tryz.ntmps29
  go_wp2
  go_ret
  exact S.out
theorem Reader.lt {w0 w : World} {R : Value} {N : Nat} (h : Reader w0 w R N) : ∃ g, R = .pointer (some ⟨g, 0, none⟩) ∧ g < w.heap.size := by
 obtain ⟨g, bsv, bs, p, rfl, hg, hblk, _⟩ := h
 exact ⟨g, rfl, (Array.getElem?_eq_some_iff.1 hblk).1⟩
theorem Reader.keep {w0 w w' : World} {R : Value} {N : Nat} (h : Reader w0 w R N) (hb : Below w.heap.size w w') : Reader w0 w' R N := by
 obtain ⟨g, bsv, bs, p, rfl, hg, hblk, hr⟩ := h
 exact ⟨g, bsv, bs, p, rfl, hg, (hb.block g (Array.getElem?_eq_some_iff.1 hblk).1).trans hblk, hr⟩
theorem Reader.kept {w0 w w' : World} {R : Value} {N lo : Nat} (h : Reader w0 w R N) {g : Nat} (hR : R = .pointer (some ⟨g, 0, none⟩)) (hlt : g < lo) (hb : Below lo w w') : Reader w0 w' R N := by
 obtain ⟨g', bsv, bs, p, rfl, hg, hblk, hr⟩ := h
 obtain rfl : g' = g := by simpa using hR
 exact ⟨g', bsv, bs, p, rfl, hg, (hb.block g' hlt).trans hblk, hr⟩
theorem Reader.mono {w0 w : World} {R : Value} {N M : Nat} (h : Reader w0 w R N) (hm : N ≤ M) : Reader w0 w R M := by
 obtain ⟨g, bsv, bs, p, e1, hg, hblk, hr, hl, hp⟩ := h
 exact ⟨g, bsv, bs, p, e1, hg, hblk, hr, hl, Nat.le_trans hp hm⟩
theorem ownsRow_pick {lo : Nat} {w w' : World} {v : Value} {e sz n : Nat} {xs : List Value} {g : Nat} (h : w.ownsRow lo e sz v n xs) (hg : w.grownBy w' (some g)) (hlt : g < lo) : w'.ownsRow lo e sz v n xs := by
 refine World.ownsRow.kept h hg ?_
 cases hv : v.ownBlock with
 | none => exact .inl rfl
 | some k =>
  have := (h.lt k hv).1
  refine .inr fun e => ?_
  simp at e
  omega
def Drawing (w0 : World) (lo g N : Nat) (o : Value) (xs : List Int) (w : World) : Prop :=
 g < lo ∧ lo ≤ w.heap.size ∧ w0.heap.size ≤ lo ∧ Reader w0 w (.pointer (some ⟨g, 0, none⟩)) N ∧ Below w0.heap.size w0 w ∧ OwnInts lo w o xs
theorem Drawing.pick {w0 w w' : World} {lo g N : Nat} {o : Value} {xs : List Int} {n : Int} {e : Ending} (h : Drawing w0 lo g N o xs w) (hp : Picked w0 w (.pointer (some ⟨g, 0, none⟩)) N n e w') :
 ∃ x : Int, e = .returned (.int .i64 x) ∧ 0 ≤ x ∧ (0 < n → x < n) ∧ Drawing w0 lo g (N + 1) o xs w' ∧ w.grownBy w' (some g) := by
 obtain ⟨h1, h2, h3, h4, h5, h6⟩ := h
 obtain ⟨x, rfl, ⟨hx1, hx2, hx3⟩, hr, hb1, g1, hg1, hgr⟩ := hp
 obtain rfl : g = g1 := by simpa using hg1
 exact ⟨x, rfl, hx1, hx2, ⟨h1, Nat.le_trans h2 hgr.size, h3, hr, hb1, ownsRow_pick h6 hgr h1⟩, hgr⟩
theorem Drawing.append {w0 w w' : World} {lo g N : Nat} {o o' : Value} {xs : List Int} {x : Int} (h : Drawing w0 lo g N o xs w) (hb : Below lo w w') (ho : w'.ownsRow lo 3 1 o' (xs.length + 1) (xs.map (Value.int .i64) ++ [.int .i64 x])) : Drawing w0 lo g N o' (xs ++ [x]) w' := by
 obtain ⟨h1, h2, h3, h4, h5, h6⟩ := h
 refine ⟨h1, Nat.le_trans h2 hb.size, h3, h4.kept rfl h1 hb, h5.trans (hb.mono h3), ?_⟩
 simpa [OwnInts] using ho
theorem Drawing.step {w0 w w' : World} {lo g N : Nat} {o : Value} {xs : List Int} (h : Drawing w0 lo g N o xs w) (hb : Below w.heap.size w w') : Drawing w0 lo g N o xs w' := by
 obtain ⟨h1, h2, h3, h4, h5, h6⟩ := h
 exact ⟨h1, Nat.le_trans h2 hb.size, h3, h4.keep hb, h5.trans (hb.mono (Nat.le_trans h3 h2)), h6.below hb⟩
theorem Drawing.alloc {w0 w : World} {lo g N : Nat} {o : Value} {xs : List Int} (h : Drawing w0 lo g N o xs w) (ob : Obj) : Drawing w0 lo g N o xs (w.alloc ob) := h.step ((Below.refl _ _).alloc (Nat.le_refl _) _)
theorem Drawing.set {w0 w : World} {lo g N : Nat} {q cap a : Nat} {xs : List Int} {x : Int} (h : Drawing w0 lo g N (.slice (some ⟨q, 0, none⟩) xs.length cap) xs w) : Drawing w0 lo g N (.slice (some ⟨q, 0, none⟩) xs.length cap) (xs.set a x) (w.setCell ⟨q, a, none⟩ (.int .i64 x)) := by
 obtain ⟨h1, h2, h3, h4, h5, h6⟩ := h
 have hq := (h6.lt q rfl).1
 have S := World.ownsRow.stored h6 a (.int .i64 x)
 have hb : Below lo w (w.setCell ⟨q, a, none⟩ (.int .i64 x)) := (Below.refl _ _).setCell hq _
 exact ⟨h1, Nat.le_trans h2 hb.size, h3, h4.kept rfl h1 hb, h5.trans (hb.mono h3), own_set S.1⟩
theorem Drawing.mono {w0 w : World} {lo g N M : Nat} {o : Value} {xs : List Int} (h : Drawing w0 lo g N o xs w) (hm : N ≤ M) : Drawing w0 lo g M o xs w := by
 obtain ⟨h1, h2, h3, h4, h5, h6⟩ := h
 exact ⟨h1, h2, h3, h4.mono hm, h5, h6⟩
end Go.Proofs.YtjacdlekgdnndaaGreatDoor
namespace Go.Proofs.YtjacdlekgdnndaaGreatDoor
open Go.RowKit
def flat {α : Type} (cs : α → List Value) (xs : List α) : List Value := xs.flatMap cs
theorem flat_cons {α : Type} (cs : α → List Value) (x : α) (xs : List α) : flat cs (x :: xs) = cs x ++ flat cs xs := rfl
theorem flat_append {α : Type} (cs : α → List Value) (xs ys : List α) : flat cs (xs ++ ys) = flat cs xs ++ flat cs ys := List.flatMap_append
theorem flat_one {α : Type} (cs : α → List Value) (x : α) : flat cs [x] = cs x := by simp [flat]
theorem flat_len {α : Type} {cs : α → List Value} {sz : Nat} (hs : ∀ x, (cs x).length = sz) (xs : List α) : (flat cs xs).length = xs.length * sz := by
 induction xs with
 | nil => simp [flat]
 | cons x xs ih => rw [flat_cons, List.length_append, hs, ih, List.length_cons, Nat.succ_mul]; omega
theorem flat_at {α : Type} {cs : α → List Value} {sz : Nat} (hs : ∀ x, (cs x).length = sz) {xs : List α} {k : Nat} {x : α} (h : xs[k]? = some x) {j : Nat} (hj : j < sz) : (flat cs xs)[k * sz + j]? = (cs x)[j]? := by
 induction xs generalizing k with
 | nil => simp at h
 | cons y ys ih =>
  cases k with
  | zero =>
   simp only [List.getElem?_cons_zero, Option.some.injEq] at h
   subst h
   rw [flat_cons, List.getElem?_append_left (by rw [hs]; omega)]
   simp
  | succ k =>
   rw [List.getElem?_cons_succ] at h
   rw [flat_cons, List.getElem?_append_right (by rw [hs, Nat.succ_mul]; omega), hs, ← ih h]
   congr 1
   rw [Nat.succ_mul]
   omega
def AtF {α : Type} (sz : Nat) (cs : α → List Value) (w : World) (a : Option Addr) (xs : List α) : Prop :=
 ∀ (k : Nat) x, xs[k]? = some x → ∃ b off, a = some ⟨b, off, none⟩ ∧ b < w.heap.size ∧ ∀ (j : Nat) u, (cs x)[j]? = some u → w.cell? ⟨b, off + k * sz + j, none⟩ = some u
theorem AtF.below {α : Type} {sz : Nat} {cs : α → List Value} {w w' : World} {a : Option Addr} {xs : List α} (h : AtF sz cs w a xs) (hb : Below w.heap.size w w') : AtF sz cs w' a xs := by
 intro k x hk
 obtain ⟨b, off, rfl, hlt, hc⟩ := h k x hk
 exact ⟨b, off, rfl, Nat.lt_of_lt_of_le hlt hb.size, fun j u hu => (hb.cell (p := ⟨b, off + k * sz + j, none⟩) hlt).trans (hc j u hu)⟩
theorem AtF.of {α : Type} {sz : Nat} {cs : α → List Value} (hs : ∀ x, (cs x).length = sz) (hsz : 0 < sz) {w : World} {a : Option Addr} {n c : Nat} {xs : List α} (h : Rd w (.slice a n c) sz xs.length (flat cs xs)) : AtF sz cs w a xs := by
 obtain ⟨a', cap, hv, hnc, hcm, hl, _, hc⟩ := h
 simp only [Value.slice.injEq] at hv
 obtain ⟨rfl, rfl, rfl⟩ := hv
 intro k x hk
 have hlt := (List.getElem?_eq_some_iff.1 hk).1
 obtain ⟨b, off, rfl, hcell⟩ := hc (by omega)
 have key : ∀ (j : Nat) u, (cs x)[j]? = some u → w.cell? ⟨b, off + k * sz + j, none⟩ = some u := by
  intro j u hu
  have hj : j < sz := by rw [← hs x]; exact (List.getElem?_eq_some_iff.1 hu).1
  have hm : k * sz + sz ≤ xs.length * sz := by rw [← Nat.succ_mul]; exact Nat.mul_le_mul_right _ hlt
  rw [Nat.add_assoc, hcell (k * sz + j) (by omega), flat_at hs hk hj, hu]
 refine ⟨b, off, rfl, ?_, key⟩
 have h0 : (cs x)[0]? = some ((cs x)[0]'(by rw [hs]; omega)) := List.getElem?_eq_getElem _
 exact World.block_lt_of_cell? w _ (key 0 _ h0)
theorem Rd.shape {w : World} {v : Value} {sz n : Nat} {xs : List Value} (h : Rd w v sz n xs) : ∃ a cap, v = .slice a n cap ∧ n ≤ cap ∧ cap ≤ maxLen := by
 obtain ⟨a, cap, rfl, hnc, hcm, _⟩ := h
 exact ⟨a, cap, rfl, hnc, hcm⟩
theorem wp_makeN {w : World} {ops : Array Oper} {rest : List Oper} {o : Oper} {a : Act} {Q : Exit → Act → World → Prop} {l : Operand} {t : TypeId} {n : Nat}
 (hg : o.guard = none) (hop : o.op = Op.makeSlice t l l) (e : TypeId) (z : Value) (sz bytes : Nat) (h1 : Tryz.prog.underlying t = some (.slice e))
 (h2 : (Tryz.prog.info? e).map (fun i => (i.zero, i.size, i.bytes)) = some (some z, sz, bytes))
 (hl : a.eval l = .int .i64 n) (b2 : bytes * n ≤ 281474976710656) (b3 : n ≤ maxLen)
 (hK : ∀ w', w'.ownsRow w.heap.size e sz (.slice (some ⟨w.heap.size, 0, none⟩) n n) n (madeCells z.cells (n * sz)).toList → Below w.heap.size w w' → w.heap.size < w'.heap.size →
  wpList Tryz.prog ops Q rest (a.put o.dst (.slice (some ⟨w.heap.size, 0, none⟩) n n)) w') : wpList Tryz.prog ops Q (o :: rest) a w := by
 obtain ⟨i0, hi, hz0, hz1, hz2⟩ := info_parts h2
 refine wpList_make_full w hg l l t hop w.heap.size e i0 z sz h1 hi hz0 hz1 .i64 .i64 n n n hl hl rfl rfl (by rw [hz2]; exact b2) b3 (Nat.le_refl _) fun w' h h' => ?_
 exact hK w' h (Below.of_grown h') (h.lt _ rfl).2
def setMany (w : World) (g o : Nat) : Nat → List Value → World
 | _, [] => w
 | j, u :: us => setMany (w.setCell ⟨g, o + j, none⟩ u) g o (j + 1) us
def setList (xs : List Value) (o : Nat) : Nat → List Value → List Value
 | _, [] => xs
 | j, u :: us => setList (xs.set (o + j) u) o (j + 1) us
theorem setList_mid (A B C us : List Value) (j : Nat) (hB : B.length = us.length) (o : Nat) (ho : A.length = o + j) : setList (A ++ B ++ C) o j us = A ++ us ++ C := by
 induction us generalizing A B j with
 | nil => simp at hB; subst hB; simp [setList]
 | cons u us ih =>
  cases B with
  | nil => simp at hB
  | cons b B =>
   rw [setList, ← ho]
   have e : (A ++ b :: B ++ C).set A.length u = (A ++ [u]) ++ B ++ C := by simp [List.set_append_right]
   rw [e, ih (A ++ [u]) B (j + 1) (by simpa using hB) (by simp; omega)]
   simp
theorem setMany_own {w : World} {lo e sz g n cap : Nat} {xs : List Value} (h : w.ownsRow lo e sz (.slice (some ⟨g, 0, none⟩) n cap) n xs) (o j : Nat) (us : List Value) :
 (setMany w g o j us).ownsRow lo e sz (.slice (some ⟨g, 0, none⟩) n cap) n (setList xs o j us) ∧ w.grownBy (setMany w g o j us) (some g) := by
 induction us generalizing w xs j with
 | nil => exact ⟨h, ⟨rfl, rfl, rfl, Nat.le_refl _, fun _ _ _ => rfl⟩⟩
 | cons u us ih =>
  obtain ⟨s1, s2⟩ := World.ownsRow.stored h (o + j) u
  obtain ⟨t1, t2⟩ := ih s1 (j + 1)
  exact ⟨t1, ⟨t2.os.trans s2.os, t2.tape.trans s2.tape, t2.output.trans s2.output, Nat.le_trans s2.size t2.size, fun b hb hne => (t2.block b (Nat.lt_of_lt_of_le hb s2.size) hne).trans (s2.block b hb hne)⟩⟩
theorem take_one {α : Type} {xs : List α} {k : Nat} {x : α} (h : xs[k]? = some x) : xs.take (k + 1) = xs.take k ++ [x] := by
 obtain ⟨hlt, rfl⟩ := List.getElem?_eq_some_iff.1 h
 exact List.take_succ_eq_append_getElem hlt
theorem flat_set {α : Type} {cs : α → List Value} {sz : Nat} (hs : ∀ x, (cs x).length = sz) {xs : List α} {k : Nat} (hk : k < xs.length) (y : α) : setList (flat cs xs) (k * sz) 0 (cs y) = flat cs (xs.set k y) := by
 have e1 : xs = xs.take k ++ [xs[k]] ++ xs.drop (k + 1) := by simp
 have e2 : xs.set k y = xs.take k ++ [y] ++ xs.drop (k + 1) := by
  rw [List.set_eq_take_append_cons_drop, if_pos hk]; simp
 rw [e2]
 conv => lhs; rw [e1]
 rw [flat_append, flat_append, flat_append, flat_append, flat_one, flat_one]
 exact setList_mid _ _ _ _ 0 (by rw [hs, hs]) _ (by rw [flat_len hs, List.length_take]; congr 1; omega)
def OwnSome (w : World) (lo e sz g n cap : Nat) (wr : World) : Prop := ∃ cs : List Value, wr.ownsRow lo e sz (.slice (some ⟨g, 0, none⟩) n cap) n cs ∧ w.grownBy wr (some g)
theorem OwnSome.set {w wr : World} {lo e sz g n cap : Nat} (h : OwnSome w lo e sz g n cap wr) (j : Nat) (u : Value) : OwnSome w lo e sz g n cap (wr.setCell ⟨g, j, none⟩ u) := by
 obtain ⟨cs, h1, h2⟩ := h
 obtain ⟨s1, s2⟩ := World.ownsRow.stored h1 j u
 exact ⟨_, s1, s2.os.trans h2.os, s2.tape.trans h2.tape, s2.output.trans h2.output, Nat.le_trans h2.size s2.size, fun b hb hne => (s2.block b (Nat.lt_of_lt_of_le hb h2.size) hne).trans (h2.block b hb hne)⟩
theorem OwnSome.below {w wr w1 : World} {lo e sz g n cap : Nat} (h : OwnSome w lo e sz g n cap wr) (hb : Below wr.heap.size wr w1) : OwnSome w lo e sz g n cap w1 := by
 obtain ⟨cs, h1, h2⟩ := h
 exact ⟨_, ownsRow_below h1 hb, hb.os.trans h2.os, hb.tape.trans h2.tape, hb.output.trans h2.output, Nat.le_trans h2.size hb.size, fun b hb' hne => (hb.block b (Nat.lt_of_lt_of_le hb' h2.size)).trans (h2.block b hb' hne)⟩
theorem OwnSome.cell {w wr : World} {lo e sz g n cap : Nat} (h : OwnSome w lo e sz g n cap wr) (j : Nat) (hj : j < n * sz) : ∃ u, wr.cell? ⟨g, j, none⟩ = some u := by
 obtain ⟨cs, h1, h2⟩ := h
 have hl := h1.1
 exact ⟨_, (h1.cellAt j hj).trans (List.getElem?_eq_getElem (by omega))⟩
theorem OwnSome.frozen {w wr : World} {lo e sz g n cap : Nat} (h : OwnSome w lo e sz g n cap wr) (j : Nat) : wr.frozen? ⟨g, j, none⟩ = false := h.choose_spec.1.frozenAt j
theorem below1 (w : World) (a : Obj) : Below w.heap.size w (w.alloc a) := (Below.refl _ _).alloc (Nat.le_refl _) _
theorem below2 (w : World) (a b : Obj) : Below w.heap.size w ((w.alloc a).alloc b) := (below1 w a).alloc (by simp) _
theorem below3 (w : World) (a b c : Obj) : Below w.heap.size w (((w.alloc a).alloc b).alloc c) := (below2 w a b).alloc (by simp; omega) _
theorem below4 (w : World) (a b c d : Obj) : Below w.heap.size w ((((w.alloc a).alloc b).alloc c).alloc d) := (below3 w a b c).alloc (by simp; omega) _
theorem bcell {W w1 : World} (hb : Below W.heap.size W w1) : (∀ b o, b < W.heap.size → w1.cell? ⟨b, o, none⟩ = W.cell? ⟨b, o, none⟩) ∧ (∀ b o, b < W.heap.size → w1.frozen? ⟨b, o, none⟩ = W.frozen? ⟨b, o, none⟩) :=
 ⟨fun b o h => hb.cell (p := ⟨b, o, none⟩) h, fun b o h => hb.frozen (p := ⟨b, o, none⟩) h⟩
end Go.Proofs.YtjacdlekgdnndaaGreatDoor
namespace Go.Proofs.YtjacdlekgdnndaaGreatDoor
open Go.RowKit
theorem wp_appendL {lo : Nat} {w : World} {ops : Array Oper} {rest : List Oper} {o : Oper} {a : Act} {Q : Exit → Act → World → Prop} {s x : Operand} {t : TypeId}
 (hgd : o.guard = none) (ho : o.op = .call { callee := .builtin .append, args := #[s, x], argTypes := #[t, t] })
 (e : TypeId) (z : Value) (sz bytes : Nat) (ht : Tryz.prog.underlying t = some (.slice e)) (hi : (Tryz.prog.info? e).map (fun i => (i.zero, i.size, i.bytes)) = some (some z, sz, bytes))
 (hzs : z.cells.size = sz) (hsz : 0 < sz) {v u : Value} {n m : Nat} {xs news : List Value} (hs : a.eval s = v) (hown : w.ownsRow lo e sz v n xs)
 (hx : a.eval x = u) (hr : Rd w u sz m news) (h1 : ∀ u ∈ news, u.oneCell' = true) (h63 : n + m ≤ maxLen) (hbytes : (n + m) * bytes ≤ 140737488355328) (hlo : lo ≤ w.heap.size)
 (hK : ∀ v' w', w'.ownsRow lo e sz v' (n + m) (xs ++ news) → w.grownBy w' v.ownBlock → (v'.ownBlock = v.ownBlock ∨ v'.ownBlock = some w.heap.size) → Below lo w w' → wpList Tryz.prog ops Q rest (a.put o.dst v') w') : wpList Tryz.prog ops Q (o :: rest) a w := by
 obtain ⟨i0, hi0, hz0, hz1, hz2⟩ := info_parts hi
 obtain ⟨ao, c, rfl, hmc, hcm, hl, hnil, hc⟩ := hr
 have hbel : ∀ w', w.grownBy w' v.ownBlock → Below lo w w' := fun w' hg => (Below.refl lo w).grown hg hlo (fun k hk => (hown.lt k hk).1)
 cases ao with
 | none =>
  have hc0 := hnil rfl
  subst hc0
  obtain rfl : m = 0 := by omega
  have hnews : news = [] := List.eq_nil_of_length_eq_zero (by simpa using hl)
  subst hnews
  refine wpList_append_own_none hgd s x t ho lo e i0 sz ht hi0 v n xs hs hown hx ?_
  exact hK v w (by simpa using hown) ⟨rfl, rfl, rfl, Nat.le_refl _, fun _ _ _ => rfl⟩ (.inl rfl) (Below.refl _ _)
 | some ad =>
  refine wpList_append_own_at w hgd s x t ho lo e i0 z sz bytes ht hi0 hz0 hz1 hz2 hzs hsz v n xs hs hown ad m c news hx hl ?_ h1 h63 hbytes hlo (fun v' w' h2 h3 _ h5 => hK v' w' h2 h3 h5 (hbel w' h3))
  intro j u hu
  rcases Nat.eq_zero_or_pos m with rfl | hm
  ·simp at hl
   simp [hl] at hu
  ·obtain ⟨b, off, had, hcell⟩ := hc hm
   obtain rfl : ad = ⟨b, off, none⟩ := by simpa using had
   have hj : j < news.length := (List.getElem?_eq_some_iff.1 hu).1
   have hadd : (⟨b, off, none⟩ : Addr).add j = ⟨b, off + j, none⟩ := by unfold Addr.add; split <;> simp_all
   rw [hadd, hcell j (by omega), hu]
theorem Rd.newsAt (w : World) (cs : Array Value) (e : TypeId) (sz n g : Nat) (hg : g = w.heap.size) (hs : cs.size = n * sz) (hn : n ≤ maxLen) : Rd (w.alloc (.cells cs e)) (.slice (some ⟨g, 0, none⟩) n n) sz n cs.toList := by
 subst hg; exact Rd.news w cs e sz n hs hn
theorem own_grown {lo e sz n : Nat} {w w' : World} {v : Value} {xs : List Value} {row : Option Nat} (h : w.ownsRow lo e sz v n xs) (hg : w.grownBy w' row) (hne : v.ownBlock = none ∨ v.ownBlock ≠ row) : w'.ownsRow lo e sz v n xs := World.ownsRow.kept h hg hne
theorem own_loV {lo lo' e sz n : Nat} {w : World} {v : Value} {xs : List Value} (h : w.ownsRow lo e sz v n xs) (hl : lo' ≤ lo) : w.ownsRow lo' e sz v n xs := by
 refine ⟨h.1, ?_⟩
 rcases h.2 with h' | ⟨g, cap, cur, rfl, hb, rest⟩
 ·exact .inl h'
 ·exact .inr ⟨g, cap, cur, rfl, Nat.le_trans hl hb, rest⟩
theorem grown_trans {w w' w'' : World} {row : Option Nat} (h : w.grownBy w' row) (h' : w'.grownBy w'' row) : w.grownBy w'' row :=
 ⟨h'.os.trans h.os, h'.tape.trans h.tape, h'.output.trans h.output, Nat.le_trans h.size h'.size, fun b hb hne => (h'.block b (Nat.lt_of_lt_of_le hb h.size) hne).trans (h.block b hb hne)⟩
theorem grown_below {w w' : World} (h : Below w.heap.size w w') (row : Option Nat) : w.grownBy w' row := ⟨h.os, h.tape, h.output, h.size, fun b hb _ => h.block b hb⟩
def Apart (v1 v2 : Value) : Prop := ∀ k, v1.ownBlock = some k → v2.ownBlock ≠ some k
theorem Apart.symm {v1 v2 : Value} (h : Apart v1 v2) : Apart v2 v1 := fun k h1 h2 => h k h2 h1
theorem Apart.ne {v1 v2 : Value} (h : Apart v1 v2) : v1.ownBlock = none ∨ v1.ownBlock ≠ v2.ownBlock := by
 cases hv : v1.ownBlock with
 | none => exact .inl rfl
 | some k => exact .inr fun e => h k hv e.symm
theorem Apart.grown {v v' u : Value} {B : Nat} (h : Apart v u) (hv : v'.ownBlock = v.ownBlock ∨ v'.ownBlock = some B) (hu : ∀ k, u.ownBlock = some k → k < B) : Apart v' u := by
 intro k hk hu'
 rcases hv with e | e
 ·exact h k (e ▸ hk) hu'
 ·rw [e] at hk
  cases hk
  exact absurd (hu _ hu') (Nat.lt_irrefl _)
end Go.Proofs.YtjacdlekgdnndaaGreatDoor
set_option linter.unusedVariables false
namespace Go.Proofs.YtjacdlekgdnndaaGreatDoor
open Go.RowKit
theorem Tryz.mixed : Tryz.prog.follows .mixedOrders = true := by kernel_rfl
section
variable {P : Program}
def dstOf (l : List Oper) (i : Nat) : Nat := ((l[i]?).bind (·.dst)).getD 0
def fillAt (l : List Oper) (is : List Nat) (vs : Nat → Value) (b : Array Value) : Array Value := is.foldl (fun b i => b.setIfInBounds (dstOf l i) (vs i)) b
def postsB (l : List Oper) (n : Nat) : Bool :=
 decide (n < l.length) && Region.sinkB .any l.toArray n && Region.chainB .any l.toArray n &&
 ((List.range n).all fun i => match l[i]? with | some o => o.dst.isSome | none => false) &&
 ((List.range n).all fun i => (List.range n).all fun j => i == j || dstOf l i != dstOf l j) &&
 Region.seqB .any l.toArray (l.length - n) n (Array.ofFn (n := l.length) fun i => decide (i.val < n)) &&
 ((List.range l.length).all fun j => match l[j]? with | some o => o.after.all fun e => !Region.binds .any e || decide (e.on < j) | none => false)
def upd (L : Nat → Bool) (i : Nat) : Nat → Bool := fun j => if j = i then true else L j
theorem upd_no {L : Nat → Bool} {i j : Nat} (h : upd L i j = false) : L j = false := by
 unfold upd at h
 split at h
 ·cases h
 ·exact h
def Does (P : Program) (l : List Oper) (o : Oper) (a : Act) (w : World) (K : Act → World → Prop) (Q : Exit → Act → World → Prop) : Prop :=
 (Region.wanted o (yielded l.toArray a.tmps) = true → Oper.wp P o a w K Q) ∧ (Region.wanted o (yielded l.toArray a.tmps) = false → K (a.put o.dst undef) w)
theorem Does.of {P : Program} {l : List Oper} {o : Oper} {a : Act} {w : World} {K : Act → World → Prop} {Q : Exit → Act → World → Prop} (hg : o.guard = none) (h : Oper.wp P o a w K Q) : Does P l o a w K Q :=
 ⟨fun _ => h, fun hw => by simp [Region.wanted, hg] at hw⟩
theorem yield_at {l : List Oper} {tmps : Array Value} {g d : Nat} {b : Bool} (hd : (l[g]?).bind (·.dst) = some d) (hv : tmps[d]?.getD undef = .bool b) : yielded l.toArray tmps g = some b := by
 have h : (l.toArray[g]?).bind (·.dst) = some d := by simpa using hd
 cases hx : tmps[d]? with
 | none => rw [hx] at hv; simp [undef] at hv
 | some x =>
  rw [hx] at hv
  simp at hv
  subst hv
  unfold yielded
  rw [h, Option.bind_some, hx]
theorem Does.yes {P : Program} {l : List Oper} {o : Oper} {a : Act} {w : World} {K : Act → World → Prop} {Q : Exit → Act → World → Prop} {g d : Nat} {b : Bool} (hg : o.guard = some (g, b)) (hd : (l[g]?).bind (·.dst) = some d) (hv : a.tmps[d]?.getD undef = .bool b) (h : Oper.wp P o a w K Q) : Does P l o a w K Q :=
 ⟨fun _ => h, fun hw => by simp [Region.wanted, hg, yield_at hd hv] at hw⟩
theorem Does.no {P : Program} {l : List Oper} {o : Oper} {a : Act} {w : World} {K : Act → World → Prop} {Q : Exit → Act → World → Prop} {g d : Nat} {b : Bool} (hg : o.guard = some (g, b)) (hd : (l[g]?).bind (·.dst) = some d) (hv : a.tmps[d]?.getD undef = .bool (!b)) (h : K (a.put o.dst undef) w) : Does P l o a w K Q :=
 ⟨fun hw => by rw [Region.wanted, hg] at hw; simp only [yield_at hd hv] at hw; cases b <;> simp at hw, fun _ => h⟩
theorem eval_tmp {a : Act} {t : Nat} {v : Value} (h : a.tmps[t]?.getD undef = v) : a.eval (.tmp t) = v := by
 show a.tmps.getD t undef = v
 rw [Array.getD_eq_getD_getElem?]
 exact h
theorem wp_append_run {P : Program} {o : Oper} {a : Act} {w w' : World} {K : Act → World → Prop} {Q : Exit → Act → World → Prop} {s x : Operand} {t : TypeId} (ho : o.op = .call { callee := .builtin .append, args := #[s, x], argTypes := #[t, t] })
 {v u v' : Value} (hs : a.eval s = v) (hx : a.eval x = u) (hrun : (Builtin.append_ #[t, t] o.type #[v, u]).run P w = .ok v' w') (h : K (a.put o.dst v') w') : Oper.wp P o a w K Q := by
 unfold Oper.wp execOp
 simp only [ho, resolve, invoke, builtin, Sem.run_bind, Sem.run_pure, Result.andThen_ok, List.map_toArray, List.map_cons, List.map_nil, hs, hx, hrun]
 exact h
structure PostInv (l : List Oper) (n : Nat) (a0 : Act) (R : Nat → Value → World → Prop) (G : (Nat → Bool) → World → Prop) (listed : Array Bool) (a : Act) (w : World) : Prop where
 head : HeadInv .any l.toArray n listed
 defers : a.defers = a0.defers
 size : a.tmps.size = a0.tmps.size
 base : ∀ t, (∀ i, i < n → dstOf l i ≠ t) → a.tmps[t]? = a0.tmps[t]?
 post : ∀ i, i < n → listed.getD i false = true → R i (a.tmps.getD (dstOf l i) undef) w
 glob : G (fun j => listed.getD j false) w
theorem getD_set_self {listed : Array Bool} {i : Nat} (h : i < listed.size) (d : Bool) : (listed.setIfInBounds i true).getD i d = true := by
 simp [h]
theorem PostInv.wpAny {l : List Oper} {n : Nat} {a0 : Act} {R : Nat → Value → World → Prop} {G : (Nat → Bool) → World → Prop} {Q : Exit → Act → World → Prop}
 (hB : postsB l n = true) (hdst : ∀ i, i < n → dstOf l i < a0.tmps.size)
 (hstep : ∀ i, i < n → ∀ o, l[i]? = some o → ∀ a w, a.defers = a0.defers → a.tmps.size = a0.tmps.size → (∀ t, (∀ i, i < n → dstOf l i ≠ t) → a.tmps[t]? = a0.tmps[t]?) →
  (∀ j, Region.waitsFor .any l.toArray i j = true → R j (a.tmps.getD (dstOf l j) undef) w) → ∀ L : Nat → Bool, L i = false → (∀ j, Region.waitsFor .any l.toArray i j = true → L j = true) → (∀ j j', L j = true → Region.waitsFor .any l.toArray j j' = true → L j' = true) → G L w →
  ∀ K : Act → World → Prop, (∀ v w', R i v w' → G (upd L i) w' → (∀ j u, j ≠ i → j < n → L j = true → R j u w → R j u w') → K (a.put o.dst v) w') → Does P l o a w K Q)
 (htail : ∀ a w, a.defers = a0.defers → a.tmps.size = a0.tmps.size → (∀ t, (∀ i, i < n → dstOf l i ≠ t) → a.tmps[t]? = a0.tmps[t]?) →
  (∀ i, i < n → R i (a.tmps.getD (dstOf l i) undef) w) → ∀ L : Nat → Bool, (∀ i, i < n → L i = true) → G L w → wpList P l.toArray Q (l.drop n) a w) :
 ∀ (f : Nat) (listed : Array Bool) (a : Act) (w : World), f = (l.length - n) + ((List.range n).filter fun i => !listed.getD i false).length → PostInv l n a0 R G listed a w → Go.wpAny P .any l.toArray Q f listed a w := by
 simp only [postsB, Bool.and_eq_true, decide_eq_true_eq] at hB
 obtain ⟨⟨⟨⟨⟨⟨hn, hs⟩, hc⟩, hg⟩, hdis⟩, hseq⟩, hback⟩ := hB
 have hgd : ∀ i, i < n → ∃ o d, l[i]? = some o ∧ o.dst = some d ∧ dstOf l i = d := by
  intro i hi
  have := List.all_eq_true.1 hg i (List.mem_range.2 hi)
  cases ho : l[i]? with
  | none => rw [ho] at this; cases this
  | some o =>
   rw [ho] at this
   simp only [Option.isSome_iff_exists] at this
   obtain ⟨d, h2⟩ := this
   exact ⟨o, d, rfl, h2, by simp [dstOf, ho, h2]⟩
 have hne : ∀ i j, i < n → j < n → i ≠ j → dstOf l i ≠ dstOf l j := by
  intro i j hi hj hij
  have := List.all_eq_true.1 (List.all_eq_true.1 hdis i (List.mem_range.2 hi)) j (List.mem_range.2 hj)
  simpa [hij] using this
 have hn' : n < l.toArray.size := by simpa using hn
 intro f
 induction f with
 | zero => intro listed a w hf _; omega
 | succ f ih =>
  intro listed a w hf inv
  by_cases hall : ∀ i, i < n → listed.getD i false = true
  ·have hlisted : listed = Array.ofFn (n := l.length) fun i => decide (i.val < n) := by
    have hsz : listed.size = l.length := by have := inv.head.size; simpa using this
    apply Array.ext
    ·simp [hsz]
    ·intro i h1 h2
     simp only [Array.getElem_ofFn]
     by_cases hi : i < n
     ·have := hall i hi
      simp [h1] at this
      simp [hi, this]
     ·have := inv.head.tail i (by omega) (by simpa [hsz] using h1)
      simp [h1] at this
      simp [hi, this]
   have h0 : ((List.range n).filter fun i => !listed.getD i false) = [] := by
    rw [List.filter_eq_nil_iff]
    intro i hi
    simp [hall i (List.mem_range.1 hi)]
   have hT := htail a w inv.defers inv.size inv.base (fun i hi => inv.post i hi (hall i hi)) _ hall inv.glob
   have hW := wpAny_of_seq (P := P) (md := .any) (ops := l.toArray) (Q' := Q) (l.drop n) n listed a w (fun j => by simp [List.getElem?_drop]) (by rw [hlisted]; simpa using hseq) hT
   have e : (l.drop n).length = f + 1 := by rw [h0] at hf; simp at hf ⊢; omega
   rw [e] at hW
   exact hW
  ·obtain ⟨i0, hi0⟩ := Classical.not_forall.1 hall
   obtain ⟨hi0n, hi0l⟩ := Classical.not_imp.1 hi0
   have hi0f : listed.getD i0 false = false := by simpa using hi0l
   have hsz : listed.size = l.length := by have := inv.head.size; simpa using this
   have hi0t : listed.getD i0 true = false := getD_in (by omega) hi0f
   refine ⟨fun hr => ?_, fun i hi => ?_⟩
   ·exfalso
    have : ∀ k, k ≤ l.length → ∀ i, i < k → i < n → listed.getD i true = false → False := by
     intro k
     induction k with
     | zero => intro _ i hi; omega
     | succ k ihk =>
      intro hk i hik hin hun
      have hnr : i ∉ Region.ready .any l.toArray listed := by rw [hr]; simp
      obtain ⟨o, d, ho, _, _⟩ := hgd i hin
      apply hnr
      rw [mem_ready]
      refine ⟨hun, o, by simpa using ho, fun e he hb => ?_⟩
      have hlt : e.on < i := by
       have := List.all_eq_true.1 hback i (List.mem_range.2 (by omega))
       rw [ho] at this
       simpa [hb] using Array.all_eq_true'.1 this e he
      cases hx : listed.getD e.on false with
      | true => rfl
      | false => exact (ihk (by omega) e.on (by omega) (by omega) (getD_in (by omega) hx)).elim
    exact this l.length (Nat.le_refl _) i0 (by omega) hi0n hi0t
   ·have hin : i < n := by
     rcases Nat.lt_or_ge i n with h | h
     ·exact h
     ·exact absurd hi (tail_waits hs hc hn' inv.head _ i0 rfl hi0n hi0t i h)
    obtain ⟨o, d, ho, hod, hdo⟩ := hgd i hin
    obtain ⟨hun, o', ho', hdep⟩ := mem_ready.1 hi
    obtain rfl : o' = o := by
     have : l[i]? = some o' := by simpa using ho'
     rw [ho] at this
     exact (Option.some.inj this).symm
    have hdeps : ∀ j, Region.waitsFor .any l.toArray i j = true → R j (a.tmps.getD (dstOf l j) undef) w := by
     intro j hj
     obtain ⟨oj, hoj, e, he, hb, rfl⟩ := Region.waitsFor_spec hj
     obtain rfl : oj = o' := Option.some.inj (hoj.symm.trans ho')
     have hlt : e.on < i := by
      have := List.all_eq_true.1 hback i (List.mem_range.2 (by omega))
      rw [ho] at this
      simpa [hb] using Array.all_eq_true'.1 this e he
     exact inv.post e.on (by omega) (hdep e he hb)
    unfold Go.wpOp
    rw [ho']
    have hlis : ∀ j, Region.waitsFor .any l.toArray i j = true → listed.getD j false = true := by
     intro j hj
     obtain ⟨oj, hoj, e, he, hb, rfl⟩ := Region.waitsFor_spec hj
     obtain rfl : oj = o' := Option.some.inj (hoj.symm.trans ho')
     exact hdep e he hb
    suffices H : ∀ K : Act → World → Prop, (∀ v w', R i v w' → G (upd (fun j => listed.getD j false) i) w' → (∀ j u, j ≠ i → j < n → listed.getD j false = true → R j u w → R j u w') → K (a.put o'.dst v) w') → Does P l o' a w K Q by
     have hK := H (Go.wpAny P .any l.toArray Q f (listed.setIfInBounds i true)) ?_
     ·cases hwt : Region.wanted o' (yielded l.toArray a.tmps) with
      | true => dsimp only; rw [hwt, if_pos rfl]; exact .inl (hK.1 hwt)
      | false => dsimp only; rw [hwt, if_neg Bool.false_ne_true]; exact hK.2 hwt
     ·intro v w' hR hG' hkeep
      have hcount : f = (l.length - n) + ((List.range n).filter fun k => !(listed.setIfInBounds i true).getD k false).length := by
       have hone : ((List.range n).filter fun k => !listed.getD k false).length = ((List.range n).filter fun k => !(listed.setIfInBounds i true).getD k false).length + 1 := by
        have hmem : i ∈ (List.range n).filter fun k => !listed.getD k false := by
         rw [List.mem_filter]
         exact ⟨List.mem_range.2 hin, by simp [getD_both hun]⟩
        have hnd : ((List.range n).filter fun k => !listed.getD k false).Nodup := List.nodup_range.filter _
        have he : ((List.range n).filter fun k => !(listed.setIfInBounds i true).getD k false) = ((List.range n).filter fun k => !listed.getD k false).erase i := by
         rw [hnd.erase_eq_filter, List.filter_filter]
         refine List.filter_congr fun k hk => ?_
         by_cases hki : k = i
         ·subst hki
          simp [getD_set_self (show k < listed.size by omega)]
         ·rw [getD_set_ne false (Ne.symm hki)]
          simp [hki]
        rw [he, List.length_erase_of_mem hmem]
        have := List.length_pos_of_mem hmem
        omega
       omega
      refine ih _ _ _ hcount ⟨inv.head.set hi hin, ?_, ?_, ?_, ?_, ?_⟩
      ·rw [hod]; exact inv.defers
      ·rw [hod]; simpa [Act.put] using inv.size
      ·intro t ht
       rw [hod]
       simp only [Act.put]
       rw [Array.getElem?_setIfInBounds_ne (by rw [← hdo]; exact ht i hin)]
       exact inv.base t ht
      ·intro j hj hjl
       rw [hod]
       simp only [Act.put]
       by_cases hji : j = i
       ·subst hji
        rw [hdo]
        have : d < a.tmps.size := by rw [← hdo, inv.size]; exact hdst j hj
        simpa [this] using hR
       ·have hjl' : listed.getD j false = true := by rwa [getD_set_ne false (Ne.symm hji)] at hjl
        have h1 := hkeep j _ hji hj hjl' (inv.post j hj hjl')
        have e : (a.tmps.setIfInBounds d v).getD (dstOf l j) undef = a.tmps.getD (dstOf l j) undef := by
         have : d ≠ dstOf l j := by rw [← hdo]; exact hne i j hin hj (Ne.symm hji)
         simp only [Array.getD_eq_getD_getElem?]
         rw [Array.getElem?_setIfInBounds_ne this]
        rw [e]
        exact h1
      ·have eL : (fun j => (listed.setIfInBounds i true).getD j false) = upd (fun j => listed.getD j false) i := by
        funext j
        unfold upd
        by_cases hji : j = i
        ·subst hji
         rw [if_pos rfl, getD_set_self (by omega)]
        ·rw [if_neg hji, getD_set_ne false (Ne.symm hji)]
       rw [eL]
       exact hG'
    have hclo : ∀ j j', listed.getD j false = true → Region.waitsFor .any l.toArray j j' = true → listed.getD j' false = true := by
     intro j j' hj hw
     obtain ⟨oj, hoj, e, he, hb, rfl⟩ := Region.waitsFor_spec hw
     exact inv.head.closed j oj hoj hj e he hb
    exact fun K hK => hstep i hin o' ho a w inv.defers inv.size inv.base hdeps _ (getD_both hun) hlis hclo inv.glob K hK
theorem fillAt_eq (l : List Oper) : ∀ (is : List Nat) (b c : Array Value), c.size = b.size → (∀ t, (∀ i, i ∈ is → dstOf l i ≠ t) → c[t]? = b[t]?) →
 c = fillAt l is (fun i => c.getD (dstOf l i) undef) b := by
 intro is
 induction is with
 | nil =>
  intro b c hs h
  exact Array.ext_getElem? fun t => h t (fun i hi => by cases hi)
 | cons i is ih =>
  intro b c hs h
  show c = fillAt l is _ (b.setIfInBounds (dstOf l i) (c.getD (dstOf l i) undef))
  refine ih _ c (by simpa using hs) fun t ht => ?_
  by_cases hti : dstOf l i = t
  ·subst hti
   rcases Nat.lt_or_ge (dstOf l i) c.size with h' | h'
   ·have : dstOf l i < b.size := by omega
    simp [h', this]
   ·have : b.size ≤ dstOf l i := by omega
    simp [h', this]
  ·rw [Array.getElem?_setIfInBounds_ne hti]
   exact h t fun j hj => by
    rcases List.mem_cons.1 hj with rfl | hj
    ·exact hti
    ·exact ht j hj
def dstB (l : List Oper) (n N : Nat) : Bool := (List.range n).all fun i => decide (dstOf l i < N)
theorem wp_region_posts {id : Nat} {Q : Exit → Act → World → Prop} {a0 : Act} {w0 : World} {l : List Oper} (n : Nat) (hm : P.follows .mixedOrders = true) (hB : postsB l n = true)
 (N : Nat) (hN : a0.tmps.size = N) (hD : dstB l n N = true) (R : Nat → Value → World → Prop) (G : (Nat → Bool) → World → Prop) (hG : G (fun _ => false) { w0 with drawn := w0.drawn + 1 })
 (hstep : ∀ i, i < n → ∀ o, l[i]? = some o → ∀ a w, Hid (a.defers = a0.defers ∧ a.tmps.size = a0.tmps.size ∧ ∀ t, (∀ i, i < n → dstOf l i ≠ t) → a.tmps[t]? = a0.tmps[t]?) →
  Hid (∀ j, Region.waitsFor .any l.toArray i j = true → R j (a.tmps[dstOf l j]?.getD undef) w) → ∀ L : Nat → Bool, Hid (L i = false ∧ (∀ j, Region.waitsFor .any l.toArray i j = true → L j = true) ∧ ∀ j j', L j = true → Region.waitsFor .any l.toArray j j' = true → L j' = true) → G L w →
  ∀ K : Act → World → Prop, Hid (∀ v w', R i v w' → G (upd L i) w' → (∀ j u, j ≠ i → j < n → L j = true → R j u w → R j u w') → K (a.put o.dst v) w') → Does P l o a w K Q)
 (htail : ∀ (vs : Nat → Value) w, (∀ i, i < n → R i (vs i) w) → ∀ L : Nat → Bool, (∀ i, i < n → L i = true) → G L w → wpList P l.toArray Q (l.drop n) { a0 with tmps := fillAt l (List.range n) vs a0.tmps } w) :
 (Code.region id l.toArray true).wp P Q a0 w0 := by
 have hdst : ∀ i, i < n → dstOf l i < a0.tmps.size := fun i hi => by
  have := List.all_eq_true.1 hD i (List.mem_range.2 hi)
  rw [hN]
  simpa using this
 refine wp_region_any hm ?_
 refine PostInv.wpAny (a0 := a0) (R := R) (G := G) hB hdst (fun i hi o ho a w h1 h2 h3 h4 L h6 h7 h8 h5 K hK => hstep i hi o ho a w (Lib.hid ⟨h1, h2, h3⟩) (Lib.hid fun j hj => by have := h4 j hj; rwa [Array.getD_eq_getD_getElem?] at this) L (Lib.hid ⟨h6, h7, h8⟩) h5 K (Lib.hid hK)) (fun a w h1 h2 h3 h4 L h6 h5 => ?_) _ _ _ _ ?_ ⟨⟨by simp, fun j oj _ hl => (by rw [getD_replicate_false] at hl; cases hl), fun t _ ht => getD_in (by simpa using ht) (getD_replicate_false _ _)⟩, rfl, rfl, fun _ _ => rfl, fun i _ hl => (by rw [getD_replicate_false] at hl; cases hl), (show G (fun j => (Array.replicate l.toArray.size false).getD j false) _ from (funext fun j => getD_replicate_false _ _ : (fun j => (Array.replicate l.toArray.size false).getD j false) = fun _ => false) ▸ hG)⟩
 ·have e := fillAt_eq l (List.range n) a0.tmps a.tmps h2 (fun t ht => h3 t fun i hi => ht i (List.mem_range.2 hi))
  have := htail (fun i => a.tmps.getD (dstOf l i) undef) w h4 L h6 h5
  rw [← e] at this
  obtain ⟨tm, df⟩ := a
  dsimp only at h1 this
  subst h1
  exact this
 ·have hn : n < l.length := by
   simp only [postsB, Bool.and_eq_true, decide_eq_true_eq] at hB
   exact hB.1.1.1.1.1.1
  have : ((List.range n).filter fun i => !(Array.replicate l.toArray.size false).getD i false) = List.range n := by
   rw [List.filter_eq_self]
   intro i _
   rw [getD_replicate_false]
   rfl
  rw [this]
  simp
  omega
end
end Go.Proofs.YtjacdlekgdnndaaGreatDoor
set_option linter.unusedVariables false
namespace Go.Proofs.YtjacdlekgdnndaaGreatDoor
open Go.RowKit
section
variable {P : Program}
theorem wp_region_grow {id : Nat} {Q : Exit → Act → World → Prop} {a0 : Act} {w0 : World} {l : List Oper} (n : Nat) (hm : P.follows .mixedOrders = true) (hB : postsB l n = true)
 (N : Nat) (hN : a0.tmps.size = N) (hD : dstB l n N = true) (R : Nat → Value → World → Prop) (hmono : ∀ i, i < n → ∀ v w w', Below w.heap.size w w' → R i v w → R i v w')
 (hstep : ∀ i, i < n → ∀ o, l[i]? = some o → ∀ a w, Hid (a.defers = a0.defers ∧ a.tmps.size = a0.tmps.size ∧ ∀ t, (∀ i, i < n → dstOf l i ≠ t) → a.tmps[t]? = a0.tmps[t]?) →
  Hid (∀ j, Region.waitsFor .any l.toArray i j = true → R j (a.tmps[dstOf l j]?.getD undef) w) → Below w0.heap.size w0 w →
  ∀ K : Act → World → Prop, Hid (∀ v w', R i v w' → Below w.heap.size w w' → K (a.put o.dst v) w') → Does P l o a w K Q)
 (htail : ∀ (vs : Nat → Value) w, (∀ i, i < n → R i (vs i) w) → Below w0.heap.size w0 w → wpList P l.toArray Q (l.drop n) { a0 with tmps := fillAt l (List.range n) vs a0.tmps } w) :
 (Code.region id l.toArray true).wp P Q a0 w0 := by
 refine wp_region_posts n hm hB N hN hD R (fun _ w => Below w0.heap.size w0 w) ⟨rfl, rfl, rfl, Nat.le_refl _, fun _ _ => rfl⟩ ?_ (fun vs w h1 _ _ h2 => htail vs w h1 h2)
 intro i hi o ho a w Hb Hd L HL hG K HK
 exact hstep i hi o ho a w Hb Hd hG K (Lib.hid fun v w' h1 h2 => HK.out v w' h1 (hG.trans ⟨h2.os, h2.tape, h2.output, h2.size, fun k hk => h2.block k (Nat.lt_of_lt_of_le hk hG.size)⟩) (fun j u _ hj _ h => hmono j hj u w w' h2 h))
end
end Go.Proofs.YtjacdlekgdnndaaGreatDoor
set_option linter.unusedVariables false
namespace Go.Proofs.YtjacdlekgdnndaaGreatDoor
def cutL (a : UInt8) : List UInt8 → List (List UInt8)
 | [] => [[]]
 | b :: l => if b = a then [] :: cutL a l else match cutL a l with
  | [] => [[b]]
  | x :: xs => (b :: x) :: xs
theorem cutL_ne (a : UInt8) (l : List UInt8) : cutL a l ≠ [] := by
 cases l with
 | nil => simp [cutL]
 | cons b l =>
  unfold cutL
  split
  ·simp
  ·split <;> simp
theorem cutL_hit (a : UInt8) (l : List UInt8) : cutL a (a :: l) = [] :: cutL a l := by rw [cutL, if_pos rfl]
theorem cutL_miss {a b : UInt8} (h : b ≠ a) {l x : List UInt8} {xs : List (List UInt8)} (hc : cutL a l = x :: xs) : cutL a (b :: l) = (b :: x) :: xs := by rw [cutL, if_neg h, hc]
theorem cutL_free {a : UInt8} {x : List UInt8} (h : ∀ b ∈ x, b ≠ a) : cutL a x = [x] := by
 induction x with
 | nil => rfl
 | cons b x ih => rw [cutL_miss (h b (by simp)) (ih fun c hc => h c (List.mem_cons_of_mem _ hc))]
theorem cutL_app {a : UInt8} {x : List UInt8} (h : ∀ b ∈ x, b ≠ a) (y : List UInt8) : cutL a (x ++ a :: y) = x :: cutL a y := by
 induction x with
 | nil => exact cutL_hit a y
 | cons b x ih => rw [List.cons_append, cutL_miss (h b (by simp)) (ih fun c hc => h c (List.mem_cons_of_mem _ hc))]
theorem join_two (x y : List UInt8) (r : List (List UInt8)) (a : UInt8) : Lib.join (x :: y :: r) [a] = x ++ a :: Lib.join (y :: r) [a] := by
 rw [Lib.join_cons, Lib.join_cons]
 simp [Lib.joinTail]
theorem cutL_join {a : UInt8} : ∀ {ws : List (List UInt8)}, ws ≠ [] → (∀ w ∈ ws, ∀ b ∈ w, b ≠ a) → cutL a (Lib.join ws [a]) = ws
 | [], h, _ => absurd rfl h
 | [x], _, h => by rw [Lib.join_one]; exact cutL_free (h x (by simp))
 | x :: y :: r, _, h => by rw [join_two, cutL_app (h x (by simp)), cutL_join (by simp) fun w hw => h w (List.mem_cons_of_mem _ hw)]
theorem join_cutL (a : UInt8) (l : List UInt8) : Lib.join (cutL a l) [a] = l := by
 induction l with
 | nil => simp [cutL, Lib.join_one]
 | cons b l ih =>
  by_cases h : b = a
  ·subst h
   rw [cutL_hit]
   cases hc : cutL b l with
   | nil => exact absurd hc (cutL_ne b l)
   | cons x xs => rw [join_two, ← hc, ih]; rfl
  ·cases hc : cutL a l with
   | nil => exact absurd hc (cutL_ne a l)
   | cons x xs =>
    rw [cutL_miss h hc]
    rw [hc] at ih
    rw [Lib.join_cons] at ih ⊢
    rw [← ih]
    rfl
theorem cutL_len_le (a : UInt8) (l : List UInt8) : (cutL a l).length ≤ l.length + 1 := by
 induction l with
 | nil => simp [cutL]
 | cons b l ih =>
  by_cases h : b = a
  ·subst h; rw [cutL_hit]; simp; exact ih
  ·cases hc : cutL a l with
   | nil => exact absurd hc (cutL_ne a l)
   | cons x xs => rw [cutL_miss h hc]; rw [hc] at ih; simp at ih ⊢; omega
theorem cutL_mem (a : UInt8) (l : List UInt8) : ∀ x ∈ cutL a l, x.length ≤ l.length ∧ ∀ b ∈ x, b ∈ l := by
 induction l with
 | nil => intro x hx; simp [cutL] at hx; subst hx; simp
 | cons b l ih =>
  intro x hx
  by_cases h : b = a
  ·subst h
   rw [cutL_hit] at hx
   rcases List.mem_cons.1 hx with rfl | hx
   ·simp
   ·have := ih x hx
    exact ⟨by simp; omega, fun c hc => List.mem_cons_of_mem _ (this.2 c hc)⟩
  ·cases hc : cutL a l with
   | nil => exact absurd hc (cutL_ne a l)
   | cons y ys =>
    rw [cutL_miss h hc] at hx
    rw [hc] at ih
    rcases List.mem_cons.1 hx with rfl | hx
    ·have := ih y (by simp)
     refine ⟨by simp; omega, fun c hc' => ?_⟩
     rcases List.mem_cons.1 hc' with rfl | hc'
     ·simp
     ·exact List.mem_cons_of_mem _ (this.2 c hc')
    ·have := ih x (List.mem_cons_of_mem _ hx)
     exact ⟨by simp; omega, fun c hc' => List.mem_cons_of_mem _ (this.2 c hc')⟩
theorem splitK_cutL (a : UInt8) : ∀ (s : List UInt8) (k : Nat), s.count a = k → Lib.splitK [a] 0 k s = cutL a s := by
 intro s
 induction s with
 | nil => intro k h; simp at h; subst h; rfl
 | cons b l ih =>
  intro k h
  by_cases hb : b = a
  ·subst hb
   rw [List.count_cons_self] at h
   subst h
   have hi : Lib.index (b :: l) [b] = 0 := by rw [Lib.index]; simp [List.isPrefixOf]
   rw [Lib.splitK, hi, cutL_hit, ← ih _ rfl]
   simp
  ·rw [List.count_cons_of_ne (by simpa using hb)] at h
   have hp : ([a] : List UInt8).isPrefixOf (b :: l) = false := by simp [List.isPrefixOf, Ne.symm hb]
   have hix : Lib.index (b :: l) [a] = if Lib.index l [a] == -1 then -1 else Lib.index l [a] + 1 := by rw [Lib.index, hp]; simp
   have hl := ih k h
   cases k with
   | zero =>
    rw [Lib.splitK] at hl ⊢
    rw [cutL_miss hb hl.symm]
   | succ k =>
    rw [Lib.splitK] at hl ⊢
    by_cases hm : Lib.index l [a] = -1
    ·rw [hix, if_pos (beq_iff_eq.2 hm)]
     rw [if_pos (beq_iff_eq.2 hm)] at hl
     rw [if_pos (by rfl), cutL_miss hb hl.symm]
    ·have hge := Lib.index_ge l [a]
     obtain ⟨j, hj⟩ : ∃ j : Nat, Lib.index l [a] = j := ⟨(Lib.index l [a]).toNat, by omega⟩
     rw [if_neg (fun e => hm (beq_iff_eq.1 e))] at hl
     rw [hix, if_neg (fun e => hm (beq_iff_eq.1 e)), if_neg (by rw [beq_iff_eq]; omega), hj]
     rw [hj] at hl
     have e1 : ((j : Int) + 1).toNat = j + 1 := by omega
     rw [cutL_miss hb hl.symm, e1]
     simp
theorem dec_big {n : Nat} (h : ¬ n < 10) : Lib.decDigits n = Lib.decDigits (n / 10) ++ [UInt8.ofNat (48 + n % 10)] := by rw [Lib.decDigits, dif_neg h]
theorem dec_small {n : Nat} (h : n < 10) : Lib.decDigits n = [UInt8.ofNat (48 + n)] := Lib.decDigits_one h
theorem dig_nat {d : Nat} (h : d < 10) : (UInt8.ofNat (48 + d)).toNat = 48 + d := by simp; omega
theorem decFrom_snoc : ∀ (l : List UInt8) (acc : Nat) (d : Nat), d < 10 → Lib.decFrom acc (l ++ [UInt8.ofNat (48 + d)]) = (Lib.decFrom acc l).map fun m => m * 10 + d := by
 intro l
 induction l with
 | nil =>
  intro acc d h
  have e : Lib.digitVal (UInt8.ofNat (48 + d)) = some d := by
   unfold Lib.digitVal
   rw [dig_nat h, if_pos (by omega)]
   congr 1
   omega
  simp only [List.nil_append, Lib.decFrom]
  rw [e]
  rfl
 | cons b l ih =>
  intro acc d h
  rw [List.cons_append, Lib.decFrom, Lib.decFrom]
  cases Lib.digitVal b with
  | none => rfl
  | some k => exact ih _ d h
theorem decFrom_dec (n : Nat) : Lib.decFrom 0 (Lib.decDigits n) = some n := by
 induction n using Nat.strongRecOn with
 | _ n ih =>
  by_cases h : n < 10
  ·rw [dec_small h]
   have := decFrom_snoc [] 0 n h
   simpa [Lib.decFrom] using this
  ·rw [dec_big h, decFrom_snoc _ _ _ (Nat.mod_lt _ (by decide)), ih _ (by omega)]
   simp
   omega
theorem dec_inj {m n : Nat} (h : Lib.decDigits m = Lib.decDigits n) : m = n := by
 have h1 := decFrom_dec m
 rw [h, decFrom_dec n] at h1
 simpa using h1.symm
theorem dec_digit (n : Nat) : ∀ c ∈ Lib.decDigits n, 48 ≤ c.toNat ∧ c.toNat ≤ 57 := by
 induction n using Nat.strongRecOn with
 | _ n ih =>
  intro c hc
  by_cases h : n < 10
  ·rw [dec_small h] at hc
   simp only [List.mem_singleton] at hc
   subst hc
   rw [dig_nat h]
   omega
  ·rw [dec_big h] at hc
   rcases List.mem_append.1 hc with hc | hc
   ·exact ih _ (by omega) c hc
   ·simp only [List.mem_singleton] at hc
    subst hc
    have := Nat.mod_lt n (show 10 > 0 by decide)
    rw [dig_nat this]
    omega
theorem dec_pos (n : Nat) : 0 < (Lib.decDigits n).length := by
 rw [Lib.decDigits_length]
 exact Lib.nDigits_pos n
theorem dec_len4 {n : Nat} (h : n ≤ 9999) : (Lib.decDigits n).length ≤ 4 := by
 by_cases h1 : n < 10
 ·rw [dec_small h1]; simp
 rw [dec_big h1]
 by_cases h2 : n / 10 < 10
 ·rw [dec_small h2]; simp
 rw [dec_big h2]
 by_cases h3 : n / 10 / 10 < 10
 ·rw [dec_small h3]; simp
 rw [dec_big h3, dec_small (by omega)]
 simp
theorem dec_head (n : Nat) : 1 < (Lib.decDigits n).length → ∃ b l, Lib.decDigits n = b :: l ∧ 49 ≤ b.toNat := by
 induction n using Nat.strongRecOn with
 | _ n ih =>
  intro hl
  by_cases h : n < 10
  ·rw [dec_small h] at hl; simp at hl
  ·rw [dec_big h]
   by_cases h1 : n / 10 < 10
   ·rw [dec_small h1]
    exact ⟨_, _, rfl, by rw [dig_nat h1]; omega⟩
   ·have h2 : 1 < (Lib.decDigits (n / 10)).length := by
     rw [dec_big h1]
     have := dec_pos (n / 10 / 10)
     simp
     exact this
    obtain ⟨b, l, e, hb⟩ := ih (n / 10) (by omega) h2
    rw [e]
    exact ⟨b, _, rfl, hb⟩
theorem atoi_dec (n : Nat) : Lib.atoi (Lib.decDigits n) = some (n : Int) := by
 have hd := dec_digit n
 have hf := decFrom_dec n
 have hp := dec_pos n
 generalize Lib.decDigits n = l at hd hf hp
 cases l with
 | nil => simp at hp
 | cons b r =>
  have hb := hd b (by simp)
  have h1 : (b == 45) = false := by
   rw [beq_eq_false_iff_ne]
   rintro rfl
   simp at hb
  have h2 : (b == 43) = false := by
   rw [beq_eq_false_iff_ne]
   rintro rfl
   simp at hb
  simp [Lib.atoi, h1, h2, Lib.decNat, hf]
theorem atoiAll_dec {n : Nat} (h : n ≤ 9999) : Lib.atoiAll (Lib.decDigits n) = .ok (n : Int) := by
 rw [Lib.atoiAll_short _ (by have := dec_len4 h; omega), atoi_dec]
 rfl
def kindWs : List (List UInt8) := [[116, 97, 107, 101], [103, 105, 118, 101], [112, 111, 107, 101], [112, 105, 110], [117, 110, 112, 105, 110], [115, 101, 116], [114, 111, 111, 116], [103, 114, 97, 110, 116], [114, 101, 118, 111, 107, 101], [108, 111, 97, 100], [115, 116, 111, 114, 101]]
def kindL (k : Nat) : List UInt8 := kindWs.getD (k - 1) []
theorem kind_letters : ∀ k : Fin 12, ∀ b ∈ kindL k.val, 97 ≤ b.toNat := by decide +kernel
theorem kind_inj : ∀ k j : Fin 12, 1 ≤ k.val → 1 ≤ j.val → kindL k.val = kindL j.val → k = j := by decide +kernel
theorem kind_len : ∀ k : Fin 12, (kindL k.val).length ≤ 6 := by decide +kernel
def callWs (k e a b c : Nat) (nm : List UInt8) : List (List UInt8) := [kindL k, Lib.decDigits e, Lib.decDigits a, Lib.decDigits b, Lib.decDigits c, 47 :: nm]
def txtL (k e a b c : Nat) (nm : List UInt8) : List UInt8 := Lib.join (callWs k e a b c nm) [32]
theorem callWs_free {k e a b c : Nat} {nm : List UInt8} (hk : k ≤ 11) (hn : ∀ x ∈ nm, 97 ≤ x.toNat) (d : UInt8) (hd : d.toNat ≤ 46 ∨ 58 ≤ d.toNat ∧ d.toNat ≤ 96) : ∀ w ∈ callWs k e a b c nm, ∀ x ∈ w, x ≠ d := by
 intro w hw x hx
 have hdec : ∀ n, x ∈ Lib.decDigits n → x ≠ d := by
  rintro n h rfl
  have := dec_digit n x h
  omega
 simp only [callWs, List.mem_cons, List.not_mem_nil, or_false] at hw
 rcases hw with rfl | rfl | rfl | rfl | rfl | rfl
 ·rintro rfl
  have := kind_letters ⟨k, by omega⟩ x hx
  omega
 ·exact hdec _ hx
 ·exact hdec _ hx
 ·exact hdec _ hx
 ·exact hdec _ hx
 ·rintro rfl
  rcases List.mem_cons.1 hx with rfl | hx
  ·simp at hd
  ·have := hn x hx
   omega
theorem txt_cut {k e a b c : Nat} {nm : List UInt8} (hk : k ≤ 11) (hn : ∀ x ∈ nm, 97 ≤ x.toNat) : cutL 32 (txtL k e a b c nm) = callWs k e a b c nm :=
 cutL_join (by simp [callWs]) (callWs_free hk hn 32 (by decide))
theorem txt_inj {k e a b c k' e' a' b' c' : Nat} {nm nm' : List UInt8} (hk : k ≤ 11) (hn : ∀ x ∈ nm, 97 ≤ x.toNat) (hk' : k' ≤ 11) (hn' : ∀ x ∈ nm', 97 ≤ x.toNat) (h1 : 1 ≤ k) (h1' : 1 ≤ k')
 (h : txtL k e a b c nm = txtL k' e' a' b' c' nm') : k = k' ∧ e = e' ∧ a = a' ∧ b = b' ∧ c = c' ∧ nm = nm' := by
 have := (txt_cut (e := e) (a := a) (b := b) (c := c) hk hn).symm.trans ((congrArg (cutL 32) h).trans (txt_cut hk' hn'))
 simp only [callWs, List.cons.injEq, and_true, true_and] at this
 obtain ⟨e0, e1, e2, e3, e4, e5⟩ := this
 have := kind_inj ⟨k, by omega⟩ ⟨k', by omega⟩ h1 h1' e0
 exact ⟨by simpa using this, dec_inj e1, dec_inj e2, dec_inj e3, dec_inj e4, e5⟩
theorem free_join {d a : UInt8} (hda : d ≠ a) : ∀ {ws : List (List UInt8)}, (∀ w ∈ ws, ∀ x ∈ w, x ≠ d) → ∀ x ∈ Lib.join ws [a], x ≠ d
 | [], _ => by simp [Lib.join_nil]
 | [x], h => by rw [Lib.join_one]; exact h x (by simp)
 | x :: y :: r, h => by
  rw [join_two]
  intro z hz
  rcases List.mem_append.1 hz with hz | hz
  ·exact h x (by simp) z hz
  ·rcases List.mem_cons.1 hz with rfl | hz
   ·exact Ne.symm hda
   ·exact free_join hda (fun w hw => h w (List.mem_cons_of_mem _ hw)) z hz
theorem txt_free {k e a b c : Nat} {nm : List UInt8} (hk : k ≤ 11) (hn : ∀ x ∈ nm, 97 ≤ x.toNat) : ∀ x ∈ txtL k e a b c nm, x ≠ 59 :=
 free_join (by decide) (callWs_free hk hn 59 (by decide))
theorem txt_ne {k e a b c : Nat} {nm : List UInt8} : txtL k e a b c nm ≠ [] := by
 unfold txtL callWs
 rw [join_two]
 simp
theorem txt_long {k e a b c : Nat} {nm : List UInt8} (hk : k ≤ 11) (he : e ≤ 9999) (ha : a ≤ 9999) (hb : b ≤ 9999) (hc : c ≤ 9999) (hn : nm.length ≤ 4) : (txtL k e a b c nm).length ≤ 40 := by
 have := kind_len ⟨k, by omega⟩
 have := dec_len4 he
 have := dec_len4 ha
 have := dec_len4 hb
 have := dec_len4 hc
 unfold txtL callWs
 rw [join_two, join_two, join_two, join_two, join_two, Lib.join_one]
 simp only [List.length_append, List.length_cons] at *
 omega
theorem txt_eq (k e a b c : Nat) (nm : List UInt8) : txtL k e a b c nm = kindL k ++ 32 :: (Lib.decDigits e ++ 32 :: (Lib.decDigits a ++ 32 :: (Lib.decDigits b ++ 32 :: (Lib.decDigits c ++ 32 :: 47 :: nm)))) := by
 unfold txtL callWs
 rw [join_two, join_two, join_two, join_two, join_two, Lib.join_one]
end Go.Proofs.YtjacdlekgdnndaaGreatDoor
namespace Go.Proofs.YtjacdlekgdnndaaGreatDoor
open Go.RowKit
def byte1 (d : Int) : ByteArray := ⟨#[UInt8.ofNat d.toNat]⟩
theorem byte1_size (d : Int) : (byte1 d).size = 1 := rfl
theorem conv_one (W : World) (d : Int) (h0 : 0 ≤ d) (h1 : d < 256) :
 (convert 22 9 (.slice (some ⟨W.heap.size, 0, none⟩) 1 1)).run Tryz.prog (W.alloc (.cells #[.int .u8 d] 5)) = .ok (.string (byte1 d)) (W.alloc (.cells #[.int .u8 d] 5)) := by
 refine run_convert_bytes_back (P := Tryz.prog) _ 22 9 5 ⟨W.heap.size, 0, none⟩ 1 [UInt8.ofNat d.toNat] Tryz.underlying22 Tryz.underlying5 Tryz.underlying9 ?_
 intro j hj
 obtain rfl : j = 0 := by simpa using hj
 have e : ((UInt8.ofNat d.toNat).toNat : Int) = d := by simp; omega
 have hadd : (⟨W.heap.size, 0, none⟩ : Addr).add 0 = ⟨W.heap.size, 0, none⟩ := rfl
 rw [hadd, World.cell?_alloc_new]
 show some (Value.int .u8 d) = some (.int .u8 ((UInt8.ofNat d.toNat).toNat : Int))
 rw [e]
end Go.Proofs.YtjacdlekgdnndaaGreatDoor
set_option linter.unusedVariables false
namespace Go.Proofs.YtjacdlekgdnndaaGreatDoor
open Go.RowKit
def decB (n : Nat) : ByteArray := ⟨(Lib.decDigits n).toArray⟩
theorem decB_size (n : Nat) : (decB n).size = (Lib.decDigits n).length := by simp [decB, ByteArray.size]
theorem blk_under {w w' : World} {g : Nat} {o : Obj} (h : w.heap[g]? = some o) (hb : Below w.heap.size w w') : w'.heap[g]? = some o := (hb.block g (Array.getElem?_eq_some_iff.1 h).1).trans h
theorem conv_cell (W : World) (g : Nat) (d : Int) (h0 : 0 ≤ d) (h1 : d < 256) (hg : W.heap[g]? = some (.cells #[.int .u8 d] 5 (0, 0))) :
 (convert 22 9 (.slice (some ⟨g, 0, none⟩) 1 1)).run Tryz.prog W = .ok (.string (byte1 d)) W := by
 refine run_convert_bytes_back (P := Tryz.prog) _ 22 9 5 ⟨g, 0, none⟩ 1 [UInt8.ofNat d.toNat] Tryz.underlying22 Tryz.underlying5 Tryz.underlying9 ?_
 intro j hj
 obtain rfl : j = 0 := by simpa using hj
 have e : ((UInt8.ofNat d.toNat).toNat : Int) = d := by simp; omega
 have hadd : (⟨g, 0, none⟩ : Addr).add 0 = ⟨g, 0, none⟩ := rfl
 rw [hadd, cell_of_row W g 0 _ _ _ hg]
 show some (Value.int .u8 d) = some (.int .u8 ((UInt8.ofNat d.toNat).toNat : Int))
 rw [e]
theorem dec_len (n : Nat) : (Lib.decDigits n).length ≤ n + 1 := by
 induction n using Nat.strongRecOn with
 | _ n ih =>
  by_cases h : n < 10
  ·rw [dec_small h]; simp
  ·rw [dec_big h]
   have := ih (n / 10) (by omega)
   simp
   omega
theorem byte1_dig {d : Nat} : byte1 (48 + (d : Int)) = ⟨#[UInt8.ofNat (48 + d)]⟩ := by
 unfold byte1
 rw [show (48 + (d : Int)).toNat = 48 + d by omega]
def decR (n : Nat) (B : Nat) (ix : Nat) (vv : Value) (ww : World) : Prop := match ix with
 | 0 => vv = .int .i64 n
 | 1 => vv = .int .i64 ((n / 10 : Nat) : Int)
 | 2 => vv = .string (decB (n / 10))
 | 3 => vv = .int .i64 n
 | 4 => vv = .int .i64 ((n : Int) % 10)
 | 5 => vv = .int .i64 (48 + (n : Int) % 10)
 | 6 => vv = .int .u8 (48 + (n : Int) % 10)
 | 7 => ∃ g : Nat, vv = .slice (some ⟨g, 0, none⟩) 1 1 ∧ ww.heap[g]? = some (.cells #[.int .u8 (48 + (n : Int) % 10)] 5 (0, 0))
 | 8 => vv = .string (byte1 (48 + (n : Int) % 10))
 | _ => True
theorem decR_mono (n : Nat) (B : Nat) : ∀ i, i < 9 → ∀ vv ww ww', Below ww.heap.size ww ww' → decR n B i vv ww → decR n B i vv ww' := by
 intro i hi vv ww ww' hb h
 match i, hi with
 | 0, _ => exact h
 | 1, _ => exact h
 | 2, _ => exact h
 | 3, _ => exact h
 | 4, _ => exact h
 | 5, _ => exact h
 | 6, _ => exact h
 | 7, _ => exact (let ⟨g, e, h⟩ := h; ⟨g, e, blk_under h hb⟩)
 | 8, _ => exact h
set_option maxRecDepth 100000 in
set_option maxHeartbeats 2000000 in
theorem l6Dec_any (n : Nat) (w : World) (hn : n ≤ 1000000) :
 Calls Tryz.prog 162 #[.int .i64 n] w fun e w' => e = .returned (.string (decB n)) ∧ Below w.heap.size w w' := by
 induction n using Nat.strongRecOn generalizing w with
 | _ n ih =>
 by_cases h : n < 10
 ·have S := Lib.hid (show byte1 (48 + (n : Int)) = decB n by rw [byte1_dig, decB, dec_small h])
  have hcv := fun W => conv_one W (48 + (n : Int)) (by omega) (by omega)
  go_enter Tryz.func162, Tryz.ntmps162
  go_wp2_with fail
  go_ret
  exact ⟨by rw [← S.out]; rfl, below1 _ _⟩
 ·have IH := Lib.hid (fun w => ih (n / 10) (by omega) w (by omega))
  have S := Lib.hid (show decB (n / 10) ++ byte1 (48 + (n : Int) % 10) = decB n by
   rw [show (n : Int) % 10 = ((n % 10 : Nat) : Int) by omega, byte1_dig, decB, decB, dec_big h, ByteArray.mk_append_mk])
  have hsz : (decB (n / 10)).size ≤ 1000001 := by
   rw [decB_size]
   have h1 := dec_len (n / 10)
   omega
  have sd : IntKind.i64.wrap ((n : Int) / 10) = ((n / 10 : Nat) : Int) := by rw [IntWalk.i64_in _ (by omega)]; omega
  clear ih
  go_enter Tryz.func162, Tryz.ntmps162
  go_wp2_with fail
  refine wp_region_grow 9 Tryz.mixed (by kernel_rfl) 28 rfl (by kernel_rfl) (decR n w.heap.size) (decR_mono n w.heap.size) ?_ ?_
  ·intro i hi o ho a wx Hb Hd hG K HK
   match i, hi with
   | 0, _ =>
    obtain rfl := Option.some.inj ho
    have e0 : a.tmps[0]?.getD undef = .int .i64 n := by rw [Hb.out.2.2 0 (by decide)]; rfl
    clear Hd Hb
    refine Does.of rfl ?_
    go_simp
    exact HK.out _ _ rfl (Below.refl _ _)
   | 1, _ =>
    obtain rfl := Option.some.inj ho
    have d0 := Hd.out 0 (by kernel_rfl)
    change a.tmps[18]?.getD undef = .int .i64 n at d0
    clear Hd Hb
    refine Does.of rfl ?_
    go_simp
    exact HK.out _ _ rfl (Below.refl _ _)
   | 2, _ =>
    obtain rfl := Option.some.inj ho
    have d1 := Hd.out 1 (by kernel_rfl)
    change a.tmps[19]?.getD undef = .int .i64 ((n / 10 : Nat) : Int) at d1
    clear Hd Hb
    refine Does.of rfl ?_
    go_simp
    refine (IH.out _).mono ?_; rintro e w1 ⟨rfl, b1⟩
    exact HK.out _ _ rfl b1
   | 3, _ =>
    obtain rfl := Option.some.inj ho
    have e0 : a.tmps[0]?.getD undef = .int .i64 n := by rw [Hb.out.2.2 0 (by decide)]; rfl
    clear Hd Hb
    refine Does.of rfl ?_
    go_simp
    exact HK.out _ _ rfl (Below.refl _ _)
   | 4, _ =>
    obtain rfl := Option.some.inj ho
    have d3 := Hd.out 3 (by kernel_rfl)
    change a.tmps[21]?.getD undef = .int .i64 n at d3
    clear Hd Hb
    refine Does.of rfl ?_
    go_simp
    exact HK.out _ _ rfl (Below.refl _ _)
   | 5, _ =>
    obtain rfl := Option.some.inj ho
    have d4 := Hd.out 4 (by kernel_rfl)
    change a.tmps[22]?.getD undef = .int .i64 ((n : Int) % 10) at d4
    clear Hd Hb
    have s1 : IntKind.i64.wrap (48 + (n : Int) % 10) = (48 + (n : Int) % 10) := IntWalk.i64_in _ (by omega)
    refine Does.of rfl ?_
    go_simp
    exact HK.out _ _ rfl (Below.refl _ _)
   | 6, _ =>
    obtain rfl := Option.some.inj ho
    have d5 := Hd.out 5 (by kernel_rfl)
    change a.tmps[23]?.getD undef = .int .i64 (48 + (n : Int) % 10) at d5
    clear Hd Hb
    have s1 : IntKind.u8.wrap (48 + (n : Int) % 10) = (48 + (n : Int) % 10) := IntWalk.u8_in _ (by omega)
    refine Does.of rfl ?_
    go_simp
    exact HK.out _ _ rfl (Below.refl _ _)
   | 7, _ =>
    obtain rfl := Option.some.inj ho
    have d6 := Hd.out 6 (by kernel_rfl)
    change a.tmps[24]?.getD undef = .int .u8 (48 + (n : Int) % 10) at d6
    clear Hd Hb
    refine Does.of rfl ?_
    go_simp
    exact HK.out _ _ ⟨_, rfl, heap_alloc_new _ _⟩ (below1 _ _)
   | 8, _ =>
    obtain rfl := Option.some.inj ho
    have d7 := Hd.out 7 (by kernel_rfl)
    change ∃ g : Nat, a.tmps[25]?.getD undef = .slice (some ⟨g, 0, none⟩) 1 1 ∧ wx.heap[g]? = some (.cells #[.int .u8 (48 + (n : Int) % 10)] 5 (0, 0)) at d7
    obtain ⟨g, d7, hg⟩ := d7
    clear Hd Hb
    have hcv := conv_cell wx g _ (by omega) (by omega) hg
    clear hg
    refine Does.of rfl ?_
    go_simp
    exact HK.out _ _ rfl (Below.refl _ _)
  ·intro vs wx hR hG
   have q2 := hR 2 (by decide)
   change vs 2 = .string (decB (n / 10)) at q2
   have q8 := hR 8 (by decide)
   change vs 8 = .string (byte1 (48 + (n : Int) % 10)) at q8
   clear hR
   simp only [fillAt, dstOf, List.range, List.range.loop, List.foldl_cons, List.foldl_nil, q2, q8]
   simp
   generalize vs 0 = z0
   generalize vs 1 = z1
   generalize vs 3 = z3
   generalize vs 4 = z4
   generalize vs 5 = z5
   generalize vs 6 = z6
   generalize vs 7 = z7
   clear q2 q8
   have hadd := fun W => run_string_add_sum (P := Tryz.prog) W (decB (n / 10)) (byte1 (48 + (n : Int) % 10)) (by rw [byte1_size]; omega)
   go_wp2_with fail
   go_ret
   exact ⟨by rw [← S.out]; rfl, hG⟩
end Go.Proofs.YtjacdlekgdnndaaGreatDoor
namespace Go.Proofs
open Go.Shelf
def Tryz.lays160_ren : Go.Shelf.Ren := ⟨fun | 160 => 172 | 232 => 215 | 231 => 214 | 227 => 216 | 234 => 218 | 233 => 217 | 236 => 220 | 235 => 219 | 228 => 269 | 271 => 271 | 151 => 270 | 197 => 205 | 120 => 321 | 152 => 320 | 260 => 260 | 137 => 343 | 119 => 344 | 224 => 263 | 225 => 262 | 217 => 261 | 266 => 312 | n => n, fun | 9 => 9 | 4 => 4 | 3 => 3 | 5 => 5 | 117 => 216 | 116 => 215 | 0 => 0 | 124 => 219 | 21 => 21 | 105 => 204 | 46 => 195 | 119 => 281 | 139 => 284 | 138 => 283 | n => n, fun | 3 => 3 | 4 => 4 | n => n⟩
theorem Tryz.lays160 : Go.Proofs.Lays.n160 Tryz.prog Tryz.lays160_ren := {
 mixed := by kernel_rfl
 f119 := Tryz.func344.trans (congrArg some (by kernel_rfl))
 f120 := Tryz.func321.trans (congrArg some (by kernel_rfl))
 f137 := Tryz.func343.trans (congrArg some (by kernel_rfl))
 f151 := Tryz.func270.trans (congrArg some (by kernel_rfl))
 f152 := Tryz.func320.trans (congrArg some (by kernel_rfl))
 f160 := Tryz.func172.trans (congrArg some (by kernel_rfl))
 f197 := Tryz.func205.trans (congrArg some (by kernel_rfl))
 f217 := Tryz.func261.trans (congrArg some (by kernel_rfl))
 f224 := Tryz.func263.trans (congrArg some (by kernel_rfl))
 f225 := Tryz.func262.trans (congrArg some (by kernel_rfl))
 f227 := Tryz.func216.trans (congrArg some (by kernel_rfl))
 f228 := Tryz.func269.trans (congrArg some (by kernel_rfl))
 f231 := Tryz.func214.trans (congrArg some (by kernel_rfl))
 f232 := Tryz.func215.trans (congrArg some (by kernel_rfl))
 f233 := Tryz.func217.trans (congrArg some (by kernel_rfl))
 f234 := Tryz.func218.trans (congrArg some (by kernel_rfl))
 f235 := Tryz.func219.trans (congrArg some (by kernel_rfl))
 f236 := Tryz.func220.trans (congrArg some (by kernel_rfl))
 f260 := Tryz.func260.trans (congrArg some (by kernel_rfl))
 f266 := Tryz.func312.trans (congrArg some (by kernel_rfl))
 f271 := Tryz.func271.trans (congrArg some (by kernel_rfl))
 t0 := Tryz.underlying0
 a0 := Tryz.isAgg0
 z0 := Tryz.sizeOf0
 v0 := Tryz.zeroValue0
 t3 := Tryz.underlying3
 a3 := Tryz.isAgg3
 z3 := Tryz.sizeOf3
 v3 := Tryz.zeroValue3
 t4 := Tryz.underlying4
 a4 := Tryz.isAgg4
 z4 := Tryz.sizeOf4
 v4 := Tryz.zeroValue4
 t5 := Tryz.underlying5
 a5 := Tryz.isAgg5
 z5 := Tryz.sizeOf5
 v5 := Tryz.zeroValue5
 t9 := Tryz.underlying9
 a9 := Tryz.isAgg9
 z9 := Tryz.sizeOf9
 v9 := Tryz.zeroValue9
 t21 := Tryz.underlying21
 a21 := Tryz.isAgg21
 z21 := Tryz.sizeOf21
 v21 := Tryz.zeroValue21
 t46 := Tryz.underlying195
 a46 := Tryz.isAgg195
 z46 := Tryz.sizeOf195
 v46 := Tryz.zeroValue195
 t105 := Tryz.underlying204
 a105 := Tryz.isAgg204
 z105 := Tryz.sizeOf204
 v105 := Tryz.zeroValue204
 t116 := Tryz.underlying215
 a116 := Tryz.isAgg215
 z116 := Tryz.sizeOf215
 t117 := Tryz.underlying216
 a117 := Tryz.isAgg216
 z117 := Tryz.sizeOf216
 v117 := Tryz.zeroValue216
 t119 := Tryz.underlying281
 a119 := Tryz.isAgg281
 z119 := Tryz.sizeOf281
 t124 := Tryz.underlying219
 a124 := Tryz.isAgg219
 z124 := Tryz.sizeOf219
 v124 := Tryz.zeroValue219
 t138 := Tryz.underlying283
 a138 := Tryz.isAgg283
 z138 := Tryz.sizeOf283
 v138 := Tryz.zeroValue283
 t139 := Tryz.underlying284
 a139 := Tryz.isAgg284
 z139 := Tryz.sizeOf284
 v139 := Tryz.zeroValue284
 g3 := by kernel_rfl
 g4 := by kernel_rfl }
def Tryz.laysM171_ren : Go.Shelf.Ren := ⟨fun | 171 => 169 | 243 => 213 | 246 => 268 | 283 => 316 | 284 => 317 | 285 => 318 | 286 => 319 | 129 => 243 | 317 => 339 | 318 => 340 | 319 => 341 | 320 => 342 | 337 => 351 | 338 => 352 | n => n, fun | 3 => 3 | 9 => 9 | 2 => 2 | 4 => 4 | 171 => 292 | 0 => 0 | 53 => 247 | 37 => 22 | 5 => 5 | 173 => 294 | 212 => 301 | 51 => 245 | 20 => 20 | 213 => 302 | 46 => 195 | 232 => 308 | 233 => 309 | n => n, fun | 17 => 5 | 18 => 6 | 19 => 7 | n => n⟩
theorem Tryz.laysM171 : Go.Proofs.LaysM.n171 Tryz.prog Tryz.laysM171_ren := {
 mixed := by kernel_rfl
 f129 := Tryz.func243.trans (congrArg some (by kernel_rfl))
 f171 := Tryz.func169.trans (congrArg some (by kernel_rfl))
 f243 := Tryz.func213.trans (congrArg some (by kernel_rfl))
 f246 := Tryz.func268.trans (congrArg some (by kernel_rfl))
 f283 := Tryz.func316.trans (congrArg some (by kernel_rfl))
 f284 := Tryz.func317.trans (congrArg some (by kernel_rfl))
 f285 := Tryz.func318.trans (congrArg some (by kernel_rfl))
 f286 := Tryz.func319.trans (congrArg some (by kernel_rfl))
 f317 := Tryz.func339.trans (congrArg some (by kernel_rfl))
 f318 := Tryz.func340.trans (congrArg some (by kernel_rfl))
 f319 := Tryz.func341.trans (congrArg some (by kernel_rfl))
 f320 := Tryz.func342.trans (congrArg some (by kernel_rfl))
 f337 := Tryz.func351.trans (congrArg some (by kernel_rfl))
 f338 := Tryz.func352.trans (congrArg some (by kernel_rfl))
 t0 := Tryz.underlying0
 a0 := Tryz.isAgg0
 z0 := Tryz.sizeOf0
 v0 := Tryz.zeroValue0
 t2 := Tryz.underlying2
 a2 := Tryz.isAgg2
 z2 := Tryz.sizeOf2
 v2 := Tryz.zeroValue2
 t3 := Tryz.underlying3
 a3 := Tryz.isAgg3
 z3 := Tryz.sizeOf3
 v3 := Tryz.zeroValue3
 t4 := Tryz.underlying4
 a4 := Tryz.isAgg4
 z4 := Tryz.sizeOf4
 v4 := Tryz.zeroValue4
 t5 := Tryz.underlying5
 a5 := Tryz.isAgg5
 z5 := Tryz.sizeOf5
 v5 := Tryz.zeroValue5
 t9 := Tryz.underlying9
 a9 := Tryz.isAgg9
 z9 := Tryz.sizeOf9
 v9 := Tryz.zeroValue9
 t20 := Tryz.underlying20
 a20 := Tryz.isAgg20
 z20 := Tryz.sizeOf20
 v20 := Tryz.zeroValue20
 t37 := Tryz.underlying22
 a37 := Tryz.isAgg22
 z37 := Tryz.sizeOf22
 v37 := Tryz.zeroValue22
 t46 := Tryz.underlying195
 a46 := Tryz.isAgg195
 z46 := Tryz.sizeOf195
 v46 := Tryz.zeroValue195
 t51 := Tryz.underlying245
 a51 := Tryz.isAgg245
 z51 := Tryz.sizeOf245
 v51 := Tryz.zeroValue245
 t53 := Tryz.underlying247
 a53 := Tryz.isAgg247
 z53 := Tryz.sizeOf247
 v53 := Tryz.zeroValue247
 t171 := Tryz.underlying292
 a171 := Tryz.isAgg292
 z171 := Tryz.sizeOf292
 v171 := Tryz.zeroValue292
 t173 := Tryz.underlying294
 a173 := Tryz.isAgg294
 z173 := Tryz.sizeOf294
 v173 := Tryz.zeroValue294
 t212 := Tryz.underlying301
 a212 := Tryz.isAgg301
 z212 := Tryz.sizeOf301
 v212 := Tryz.zeroValue301
 t213 := Tryz.underlying302
 a213 := Tryz.isAgg302
 z213 := Tryz.sizeOf302
 t232 := Tryz.underlying308
 a232 := Tryz.isAgg308
 z232 := Tryz.sizeOf308
 v232 := Tryz.zeroValue308
 t233 := Tryz.underlying309
 a233 := Tryz.isAgg309
 z233 := Tryz.sizeOf309
 v233 := Tryz.zeroValue309
 g17 := by kernel_rfl
 g18 := by kernel_rfl
 g19 := by kernel_rfl
 i0 := by kernel_rfl
 i2 := by kernel_rfl
 i3 := by kernel_rfl
 i4 := by kernel_rfl
 i5 := by kernel_rfl
 i9 := by kernel_rfl
 i20 := by kernel_rfl
 i37 := by kernel_rfl
 i46 := by kernel_rfl
 i51 := by kernel_rfl
 i53 := by kernel_rfl
 i171 := by kernel_rfl
 i173 := by kernel_rfl
 i212 := by kernel_rfl
 i232 := by kernel_rfl
 i233 := by kernel_rfl
 m17 := by kernel_rfl
 m18 := by kernel_rfl
 m19 := by kernel_rfl }
def Tryz.laysM146_ren : Go.Shelf.Ren := ⟨fun | 146 => 34 | 221 => 94 | 268 => 163 | 138 => 164 | 143 => 165 | 195 => 204 | 197 => 205 | 218 => 206 | 219 => 207 | 260 => 260 | 217 => 261 | 225 => 262 | 224 => 263 | 267 => 264 | 266 => 312 | 314 => 313 | n => n, fun | 9 => 9 | 31 => 36 | 3 => 3 | 4 => 4 | 0 => 0 | 105 => 204 | 21 => 21 | 5 => 5 | 46 => 195 | 119 => 281 | 139 => 284 | 138 => 283 | 146 => 285 | 51 => 245 | n => n, fun | 1 => 0 | 3 => 3 | 4 => 4 | n => n⟩
theorem Tryz.laysM146 : Go.Proofs.LaysM.n146 Tryz.prog Tryz.laysM146_ren := {
 mixed := by kernel_rfl
 f138 := Tryz.func164.trans (congrArg some (by kernel_rfl))
 f143 := Tryz.func165.trans (congrArg some (by kernel_rfl))
 f146 := Tryz.func34.trans (congrArg some (by kernel_rfl))
 f195 := Tryz.func204.trans (congrArg some (by kernel_rfl))
 f197 := Tryz.func205.trans (congrArg some (by kernel_rfl))
 f217 := Tryz.func261.trans (congrArg some (by kernel_rfl))
 f218 := Tryz.func206.trans (congrArg some (by kernel_rfl))
 f219 := Tryz.func207.trans (congrArg some (by kernel_rfl))
 f221 := Tryz.func94.trans (congrArg some (by kernel_rfl))
 f224 := Tryz.func263.trans (congrArg some (by kernel_rfl))
 f225 := Tryz.func262.trans (congrArg some (by kernel_rfl))
 f260 := Tryz.func260.trans (congrArg some (by kernel_rfl))
 f266 := Tryz.func312.trans (congrArg some (by kernel_rfl))
 f267 := Tryz.func264.trans (congrArg some (by kernel_rfl))
 f268 := Tryz.func163.trans (congrArg some (by kernel_rfl))
 f314 := Tryz.func313.trans (congrArg some (by kernel_rfl))
 t0 := Tryz.underlying0
 a0 := Tryz.isAgg0
 z0 := Tryz.sizeOf0
 v0 := Tryz.zeroValue0
 t3 := Tryz.underlying3
 a3 := Tryz.isAgg3
 z3 := Tryz.sizeOf3
 v3 := Tryz.zeroValue3
 t4 := Tryz.underlying4
 a4 := Tryz.isAgg4
 z4 := Tryz.sizeOf4
 v4 := Tryz.zeroValue4
 t5 := Tryz.underlying5
 a5 := Tryz.isAgg5
 z5 := Tryz.sizeOf5
 v5 := Tryz.zeroValue5
 t9 := Tryz.underlying9
 a9 := Tryz.isAgg9
 z9 := Tryz.sizeOf9
 v9 := Tryz.zeroValue9
 t21 := Tryz.underlying21
 a21 := Tryz.isAgg21
 z21 := Tryz.sizeOf21
 v21 := Tryz.zeroValue21
 t31 := Tryz.underlying36
 a31 := Tryz.isAgg36
 z31 := Tryz.sizeOf36
 v31 := Tryz.zeroValue36
 t46 := Tryz.underlying195
 a46 := Tryz.isAgg195
 z46 := Tryz.sizeOf195
 v46 := Tryz.zeroValue195
 t51 := Tryz.underlying245
 a51 := Tryz.isAgg245
 z51 := Tryz.sizeOf245
 v51 := Tryz.zeroValue245
 t105 := Tryz.underlying204
 a105 := Tryz.isAgg204
 z105 := Tryz.sizeOf204
 v105 := Tryz.zeroValue204
 t119 := Tryz.underlying281
 a119 := Tryz.isAgg281
 z119 := Tryz.sizeOf281
 t138 := Tryz.underlying283
 a138 := Tryz.isAgg283
 z138 := Tryz.sizeOf283
 v138 := Tryz.zeroValue283
 t139 := Tryz.underlying284
 a139 := Tryz.isAgg284
 z139 := Tryz.sizeOf284
 v139 := Tryz.zeroValue284
 t146 := Tryz.underlying285
 a146 := Tryz.isAgg285
 z146 := Tryz.sizeOf285
 v146 := Tryz.zeroValue285
 g1 := by kernel_rfl
 g3 := by kernel_rfl
 g4 := by kernel_rfl
 i0 := by kernel_rfl
 i3 := by kernel_rfl
 i4 := by kernel_rfl
 i5 := by kernel_rfl
 i9 := by kernel_rfl
 i21 := by kernel_rfl
 i31 := by kernel_rfl
 i46 := by kernel_rfl
 i51 := by kernel_rfl
 i105 := by kernel_rfl
 i138 := by kernel_rfl
 i139 := by kernel_rfl
 i146 := by kernel_rfl
 m1 := by kernel_rfl
 s1_3 := fun w h => Go.Proofs.cell_of_shapedOpen_int (zero := #[.int .i64 0]) (t := 3) h (of_decide_eq_true (by kernel_rfl)) (by kernel_rfl) rfl (by kernel_rfl) (by kernel_rfl) Tryz.underlying3
 m3 := by kernel_rfl
 m4 := by kernel_rfl }
def Tryz.laysC172_ren : Go.Shelf.Ren := ⟨fun | 172 => 95 | 244 => 166 | 245 => 167 | 247 => 208 | 279 => 209 | 280 => 210 | 281 => 211 | 282 => 212 | 287 => 265 | 316 => 266 | 171 => 169 | 205 => 267 | 321 => 314 | 322 => 315 | 243 => 213 | 246 => 268 | 283 => 316 | 284 => 317 | 285 => 318 | 286 => 319 | 129 => 243 | 317 => 339 | 318 => 340 | 319 => 341 | 320 => 342 | 337 => 351 | 338 => 352 | n => n, fun | 9 => 9 | 3 => 3 | 75 => 133 | 76 => 134 | 4 => 4 | 5 => 5 | 167 => 207 | 37 => 22 | 0 => 0 | 85 => 208 | 2 => 2 | 168 => 210 | 53 => 247 | 175 => 253 | 46 => 195 | 210 => 257 | 127 => 288 | 145 => 291 | 143 => 289 | 21 => 21 | 171 => 292 | 173 => 294 | 212 => 301 | 51 => 245 | 20 => 20 | 213 => 302 | 232 => 308 | 233 => 309 | 80 => 310 | n => n, fun | 15 => 1 | 16 => 2 | 17 => 5 | 18 => 6 | 19 => 7 | n => n⟩
theorem Tryz.laysC172 : Go.Proofs.LaysC.n172 Tryz.prog Tryz.laysC172_ren := {
 mixed := by kernel_rfl
 f129 := Tryz.func243.trans (congrArg some (by kernel_rfl))
 f171 := Tryz.func169.trans (congrArg some (by kernel_rfl))
 f172 := Tryz.func95.trans (congrArg some (by kernel_rfl))
 f205 := Tryz.func267.trans (congrArg some (by kernel_rfl))
 f243 := Tryz.func213.trans (congrArg some (by kernel_rfl))
 f244 := Tryz.func166.trans (congrArg some (by kernel_rfl))
 f245 := Tryz.func167.trans (congrArg some (by kernel_rfl))
 f246 := Tryz.func268.trans (congrArg some (by kernel_rfl))
 f247 := Tryz.func208.trans (congrArg some (by kernel_rfl))
 f279 := Tryz.func209.trans (congrArg some (by kernel_rfl))
 f280 := Tryz.func210.trans (congrArg some (by kernel_rfl))
 f281 := Tryz.func211.trans (congrArg some (by kernel_rfl))
 f282 := Tryz.func212.trans (congrArg some (by kernel_rfl))
 f283 := Tryz.func316.trans (congrArg some (by kernel_rfl))
 f284 := Tryz.func317.trans (congrArg some (by kernel_rfl))
 f285 := Tryz.func318.trans (congrArg some (by kernel_rfl))
 f286 := Tryz.func319.trans (congrArg some (by kernel_rfl))
 f287 := Tryz.func265.trans (congrArg some (by kernel_rfl))
 f316 := Tryz.func266.trans (congrArg some (by kernel_rfl))
 f317 := Tryz.func339.trans (congrArg some (by kernel_rfl))
 f318 := Tryz.func340.trans (congrArg some (by kernel_rfl))
 f319 := Tryz.func341.trans (congrArg some (by kernel_rfl))
 f320 := Tryz.func342.trans (congrArg some (by kernel_rfl))
 f321 := Tryz.func314.trans (congrArg some (by kernel_rfl))
 f322 := Tryz.func315.trans (congrArg some (by kernel_rfl))
 f337 := Tryz.func351.trans (congrArg some (by kernel_rfl))
 f338 := Tryz.func352.trans (congrArg some (by kernel_rfl))
 t0 := Tryz.underlying0
 a0 := Tryz.isAgg0
 z0 := Tryz.sizeOf0
 v0 := Tryz.zeroValue0
 t2 := Tryz.underlying2
 a2 := Tryz.isAgg2
 z2 := Tryz.sizeOf2
 v2 := Tryz.zeroValue2
 t3 := Tryz.underlying3
 a3 := Tryz.isAgg3
 z3 := Tryz.sizeOf3
 v3 := Tryz.zeroValue3
 t4 := Tryz.underlying4
 a4 := Tryz.isAgg4
 z4 := Tryz.sizeOf4
 v4 := Tryz.zeroValue4
 t5 := Tryz.underlying5
 a5 := Tryz.isAgg5
 z5 := Tryz.sizeOf5
 v5 := Tryz.zeroValue5
 t9 := Tryz.underlying9
 a9 := Tryz.isAgg9
 z9 := Tryz.sizeOf9
 v9 := Tryz.zeroValue9
 t20 := Tryz.underlying20
 a20 := Tryz.isAgg20
 z20 := Tryz.sizeOf20
 v20 := Tryz.zeroValue20
 t21 := Tryz.underlying21
 a21 := Tryz.isAgg21
 z21 := Tryz.sizeOf21
 v21 := Tryz.zeroValue21
 t37 := Tryz.underlying22
 a37 := Tryz.isAgg22
 z37 := Tryz.sizeOf22
 v37 := Tryz.zeroValue22
 t46 := Tryz.underlying195
 a46 := Tryz.isAgg195
 z46 := Tryz.sizeOf195
 v46 := Tryz.zeroValue195
 t51 := Tryz.underlying245
 a51 := Tryz.isAgg245
 z51 := Tryz.sizeOf245
 v51 := Tryz.zeroValue245
 t53 := Tryz.underlying247
 a53 := Tryz.isAgg247
 z53 := Tryz.sizeOf247
 v53 := Tryz.zeroValue247
 t75 := Tryz.underlying133
 a75 := Tryz.isAgg133
 z75 := Tryz.sizeOf133
 v75 := Tryz.zeroValue133
 t76 := Tryz.underlying134
 a76 := Tryz.isAgg134
 z76 := Tryz.sizeOf134
 v76 := Tryz.zeroValue134
 t85 := Tryz.underlying208
 a85 := Tryz.isAgg208
 z85 := Tryz.sizeOf208
 v85 := Tryz.zeroValue208
 t127 := Tryz.underlying288
 a127 := Tryz.isAgg288
 z127 := Tryz.sizeOf288
 v127 := Tryz.zeroValue288
 t143 := Tryz.underlying289
 a143 := Tryz.isAgg289
 z143 := Tryz.sizeOf289
 v143 := Tryz.zeroValue289
 t145 := Tryz.underlying291
 a145 := Tryz.isAgg291
 z145 := Tryz.sizeOf291
 v145 := Tryz.zeroValue291
 t167 := Tryz.underlying207
 a167 := Tryz.isAgg207
 z167 := Tryz.sizeOf207
 v167 := Tryz.zeroValue207
 t168 := Tryz.underlying210
 a168 := Tryz.isAgg210
 z168 := Tryz.sizeOf210
 v168 := Tryz.zeroValue210
 t171 := Tryz.underlying292
 a171 := Tryz.isAgg292
 z171 := Tryz.sizeOf292
 v171 := Tryz.zeroValue292
 t173 := Tryz.underlying294
 a173 := Tryz.isAgg294
 z173 := Tryz.sizeOf294
 v173 := Tryz.zeroValue294
 t175 := Tryz.underlying253
 a175 := Tryz.isAgg253
 z175 := Tryz.sizeOf253
 v175 := Tryz.zeroValue253
 t210 := Tryz.underlying257
 a210 := Tryz.isAgg257
 z210 := Tryz.sizeOf257
 v210 := Tryz.zeroValue257
 t212 := Tryz.underlying301
 a212 := Tryz.isAgg301
 z212 := Tryz.sizeOf301
 v212 := Tryz.zeroValue301
 t213 := Tryz.underlying302
 a213 := Tryz.isAgg302
 z213 := Tryz.sizeOf302
 t232 := Tryz.underlying308
 a232 := Tryz.isAgg308
 z232 := Tryz.sizeOf308
 v232 := Tryz.zeroValue308
 t233 := Tryz.underlying309
 a233 := Tryz.isAgg309
 z233 := Tryz.sizeOf309
 v233 := Tryz.zeroValue309
 g15 := by kernel_rfl
 g16 := by kernel_rfl
 g17 := by kernel_rfl
 g18 := by kernel_rfl
 g19 := by kernel_rfl
 t80 := Tryz.underlying310
 a80 := Tryz.isAgg310
 z80 := Tryz.sizeOf310
 v80 := Tryz.zeroValue310
 i0 := by kernel_rfl
 i2 := by kernel_rfl
 i3 := by kernel_rfl
 i4 := by kernel_rfl
 i5 := by kernel_rfl
 i9 := by kernel_rfl
 i20 := by kernel_rfl
 i21 := by kernel_rfl
 i37 := by kernel_rfl
 i46 := by kernel_rfl
 i51 := by kernel_rfl
 i53 := by kernel_rfl
 i75 := by kernel_rfl
 i76 := by kernel_rfl
 i80 := by kernel_rfl
 i85 := by kernel_rfl
 i127 := by kernel_rfl
 i143 := by kernel_rfl
 i145 := by kernel_rfl
 i167 := by kernel_rfl
 i168 := by kernel_rfl
 i171 := by kernel_rfl
 i173 := by kernel_rfl
 i175 := by kernel_rfl
 i210 := by kernel_rfl
 i212 := by kernel_rfl
 i232 := by kernel_rfl
 i233 := by kernel_rfl
 m15 := by kernel_rfl
 m16 := by kernel_rfl
 m17 := by kernel_rfl
 m18 := by kernel_rfl
 m19 := by kernel_rfl
 c0 := by kernel_rfl
 c2 := by kernel_rfl
 c3 := by kernel_rfl
 c4 := by kernel_rfl
 c5 := by kernel_rfl
 c9 := by kernel_rfl
 c20 := by kernel_rfl
 c21 := by kernel_rfl
 c37 := by kernel_rfl
 c46 := by kernel_rfl
 c51 := by kernel_rfl
 c53 := by kernel_rfl
 c75 := by kernel_rfl
 c76 := by kernel_rfl
 c80 := by kernel_rfl
 c85 := by kernel_rfl
 c127 := by kernel_rfl
 c143 := by kernel_rfl
 c145 := by kernel_rfl
 c167 := by kernel_rfl
 c168 := by kernel_rfl
 c171 := by kernel_rfl
 c173 := by kernel_rfl
 c175 := by kernel_rfl
 c210 := by kernel_rfl
 c212 := by kernel_rfl
 c213 := by kernel_rfl
 c232 := by kernel_rfl
 c233 := by kernel_rfl }
def Tryz.lays101_ren : Go.Shelf.Ren := ⟨fun | 101 => 98 | 208 => 168 | 206 => 194 | n => n, fun | 9 => 9 | 4 => 4 | 3 => 3 | n => n, fun | n => n⟩
theorem Tryz.lays101 : Go.Proofs.Lays.n101 Tryz.prog Tryz.lays101_ren := {
 mixed := by kernel_rfl
 f101 := Tryz.func98.trans (congrArg some (by kernel_rfl))
 f206 := Tryz.func194.trans (congrArg some (by kernel_rfl))
 f208 := Tryz.func168.trans (congrArg some (by kernel_rfl))
 t3 := Tryz.underlying3
 a3 := Tryz.isAgg3
 z3 := Tryz.sizeOf3
 v3 := Tryz.zeroValue3
 t4 := Tryz.underlying4
 a4 := Tryz.isAgg4
 z4 := Tryz.sizeOf4
 v4 := Tryz.zeroValue4
 t9 := Tryz.underlying9
 a9 := Tryz.isAgg9
 z9 := Tryz.sizeOf9
 v9 := Tryz.zeroValue9 }
def Tryz.lays99_ren : Go.Shelf.Ren := ⟨fun | 99 => 140 | 206 => 194 | n => n, fun | 9 => 9 | 4 => 4 | 3 => 3 | n => n, fun | n => n⟩
theorem Tryz.lays99 : Go.Proofs.Lays.n99 Tryz.prog Tryz.lays99_ren := {
 mixed := by kernel_rfl
 f99 := Tryz.func140.trans (congrArg some (by kernel_rfl))
 f206 := Tryz.func194.trans (congrArg some (by kernel_rfl))
 t3 := Tryz.underlying3
 a3 := Tryz.isAgg3
 z3 := Tryz.sizeOf3
 v3 := Tryz.zeroValue3
 t4 := Tryz.underlying4
 a4 := Tryz.isAgg4
 z4 := Tryz.sizeOf4
 v4 := Tryz.zeroValue4
 t9 := Tryz.underlying9
 a9 := Tryz.isAgg9
 z9 := Tryz.sizeOf9
 v9 := Tryz.zeroValue9 }
def Tryz.lays109_ren : Go.Shelf.Ren := ⟨fun | 109 => 96 | n => n, fun | 31 => 36 | 9 => 9 | 3 => 3 | 0 => 0 | 4 => 4 | n => n, fun | n => n⟩
theorem Tryz.lays109 : Go.Proofs.Lays.n109 Tryz.prog Tryz.lays109_ren := {
 mixed := by kernel_rfl
 f109 := Tryz.func96.trans (congrArg some (by kernel_rfl))
 t0 := Tryz.underlying0
 a0 := Tryz.isAgg0
 z0 := Tryz.sizeOf0
 v0 := Tryz.zeroValue0
 t3 := Tryz.underlying3
 a3 := Tryz.isAgg3
 z3 := Tryz.sizeOf3
 v3 := Tryz.zeroValue3
 t4 := Tryz.underlying4
 a4 := Tryz.isAgg4
 z4 := Tryz.sizeOf4
 v4 := Tryz.zeroValue4
 t9 := Tryz.underlying9
 a9 := Tryz.isAgg9
 z9 := Tryz.sizeOf9
 v9 := Tryz.zeroValue9
 t31 := Tryz.underlying36
 a31 := Tryz.isAgg36
 z31 := Tryz.sizeOf36
 v31 := Tryz.zeroValue36 }
end Go.Proofs
set_option linter.unusedVariables false
namespace Go.Proofs.YtjacdlekgdnndaaGreatDoor
open Go.RowKit
theorem rightOk_bad {s : ByteArray} {k : Nat} (h : k < s.size) (hc : letterOk s[k] = false) : rightOk s = false := by
 have : s.data.toList.all letterOk = false := by
  rw [List.all_eq_false]
  exact ⟨s[k], by simp [ByteArray.getElem_eq_getElem_data], by simp [hc]⟩
 simp [rightOk, this]
theorem rightOk_good {s : ByteArray} (h : ∀ k (hk : k < s.size), letterOk s[k] = true) : rightOk s = decide ((s.size : Int) ≤ 4) := by
 have : s.data.toList.all letterOk = true := by
  rw [List.all_eq_true]
  intro x hx
  obtain ⟨k, hk, rfl⟩ := List.getElem_of_mem hx
  have := h k (by simpa using hk)
  simpa [ByteArray.getElem_eq_getElem_data] using this
 rw [rightOk, this, Bool.true_and]
 by_cases h4 : s.size ≤ 4
 ·have : (s.size : Int) ≤ 4 := by omega
  simp [h4, this]
 ·have : ¬ (s.size : Int) ≤ 4 := by omega
  simp [h4, this]
set_option maxHeartbeats 1000000 in
theorem RightValid_spec (s : ByteArray) (w : World) (hs : s.size ≤ maxLen) :
 Calls Tryz.prog 171 #[.string s] w fun e w' => e = .returned (.bool (rightOk s)) ∧ w = w' := by
 unfold maxLen at hs
 go_enter Tryz.func171, Tryz.ntmps171
 go_wp2_with fail
 go_loop [3] (fun i => ∃ k : Nat, k ≤ s.size ∧ i = .int .i64 k ∧ ∀ j (hj : j < s.size), j < k → letterOk s[j] = true) (fun i => s.size - (intOf i).toNat)
 case atStart => exact ⟨0, Nat.zero_le _, rfl, fun j _ hj => absurd hj (Nat.not_lt_zero _)⟩
 case round =>
  obtain ⟨k, hk, rfl, hpre⟩ := hrel
  have Hpre := Lib.hid hpre; clear hpre
  by_cases hlt : k < s.size
  ·by_cases h1 : s[k].toNat < 97
   ·have S := Lib.hid (rightOk_bad (s := s) hlt (by simp [letterOk]; omega))
    have t1 : (s[k].toNat : Int) < 97 := by omega
    go_wp2_with fail
    go_ret
    exact ⟨ret_bool S.out.symm, rfl⟩
   ·by_cases h2 : 99 < s[k].toNat
    ·have S := Lib.hid (rightOk_bad (s := s) hlt (by simp [letterOk]; omega))
     have t1 : (99 : Int) < s[k].toNat := by omega
     have t2 : ¬ (s[k].toNat : Int) < 97 := by omega
     go_wp2_with fail
     go_ret
     exact ⟨ret_bool S.out.symm, rfl⟩
    ·have Ok := Lib.hid (show letterOk s[k] = true by simp [letterOk]; omega)
     have t1 : ¬ (99 : Int) < s[k].toNat := by omega
     have t2 : ¬ (s[k].toNat : Int) < 97 := by omega
     go_wp2_with fail
     go_round
     case rel => exact ⟨k + 1, by omega, by go_num, fun j hj hjk => by
      rcases Nat.lt_succ_iff_lt_or_eq.1 hjk with h | h
      ·exact Hpre.out j hj h
      ·subst h; exact Ok.out⟩
     case measure => simp [intOf]; omega
  ·have S := Lib.hid (rightOk_good (s := s) (fun j hj => Hpre.out j hj (by omega)))
   go_wp2_with fail
   go_ret
   exact ⟨ret_bool S.out.symm, rfl⟩
end Go.Proofs.YtjacdlekgdnndaaGreatDoor
set_option linter.unusedVariables false
namespace Go.Proofs.YtjacdlekgdnndaaGreatDoor
open Go.RowKit Go.Shelf
theorem trim_left_nil (l cs : List UInt8) : Lib.trimLeftS l cs = [] ↔ ∀ b ∈ l, cs.contains b = true := by
 unfold Lib.trimLeftS
 induction l with
 | nil => simp
 | cons x l ih =>
  rw [List.dropWhile_cons]
  by_cases hx : cs.contains x = true
  ·rw [if_pos hx, ih]
   constructor
   ·intro h b hb
    rcases List.mem_cons.1 hb with e | e
    ·subst e; exact hx
    ·exact h b e
   ·intro h b hb
    exact h b (List.mem_cons_of_mem _ hb)
  ·rw [if_neg hx]
   constructor
   ·intro h; cases h
   ·intro h; exact absurd (h x List.mem_cons_self) hx
theorem trim_nil (l cs : List UInt8) : Lib.trimS l cs = [] ↔ ∀ b ∈ l, cs.contains b = true := by
 unfold Lib.trimS
 rw [trim_left_nil]
 unfold Lib.trimRightS
 constructor
 ·intro h b hb
  by_cases hc : cs.contains b = true
  ·exact hc
  ·refine h b ?_
   have h2 : b ∈ l.reverse := List.mem_reverse.2 hb
   have : ∀ l' : List UInt8, b ∈ l' → b ∈ l'.dropWhile (cs.contains ·) := by
    intro l'
    induction l' with
    | nil => intro h; exact h
    | cons x l' ih =>
     intro h
     rw [List.dropWhile_cons]
     split
     ·next hx =>
      rcases List.mem_cons.1 h with e | e
      ·subst e; exact absurd hx hc
      ·exact ih e
     ·exact h
   exact List.mem_reverse.2 (this _ h2)
 ·intro h b hb
  exact h b (List.mem_reverse.1 ((List.dropWhile_sublist _).subset (List.mem_reverse.1 hb)))
theorem letter_abc (c : UInt8) : ([97, 98, 99] : List UInt8).contains c = letterOk c := by
 have h : ∀ n : Fin 256, ([97, 98, 99] : List UInt8).contains ⟨⟨n⟩⟩ = letterOk ⟨⟨n⟩⟩ := by decide +kernel
 exact h c.toBitVec.toFin
theorem rightOk_trim (s : ByteArray) (h : s.size ≤ 4) : (Value.string ⟨(Lib.trimS s.data.toList [97, 98, 99]).toArray⟩ = .string ⟨#[]⟩) ↔ rightOk s = true := by
 have e : rightOk s = s.data.toList.all letterOk := by simp [rightOk, h]
 rw [e, List.all_eq_true]
 have t := trim_nil s.data.toList [97, 98, 99]
 constructor
 ·intro hv b hb
  have : Lib.trimS s.data.toList [97, 98, 99] = [] := by
   simp only [Value.string.injEq, ByteArray.mk.injEq] at hv
   have := congrArg Array.toList hv
   simpa using this
  rw [← letter_abc]
  exact t.1 this b hb
 ·intro ha
  rw [t.2 (fun b hb => by rw [letter_abc]; exact ha b hb)]
theorem isEmpty_iff (r : ByteArray) : r.toList.isEmpty = true ↔ r = ⟨#[]⟩ := by
 rw [Lib.toList_data, List.isEmpty_iff]
 obtain ⟨⟨l⟩⟩ := r
 simp
set_option maxHeartbeats 1000000 in
theorem RightValid_impl (s : ByteArray) (w : World) (hs : s.size ≤ maxLen) :
 Calls Tryz.prog 104 #[.string s] w fun e w' => e = .returned (.bool (rightOk s)) ∧ Below w.heap.size w w' := by
 unfold maxLen at hs
 by_cases h4 : s.size ≤ 4
 ·have hcon := Any.strings_Trim_laid Tryz.lays160 (by kernel_rfl) s ⟨#[97, 98, 99]⟩ w (by omega) (by decide) (ascii_of_all (by decide))
  change Calls Tryz.prog 172 _ _ (fun e w' => e = .returned (.string ⟨(Lib.trimS s.data.toList [97, 98, 99]).toArray⟩) ∧ Below w.heap.size w w') at hcon
  have R := Lib.hid (rightOk_trim s h4)
  have i4 : (s.size : Int) ≤ 4 := by omega
  generalize (⟨(Lib.trimS s.data.toList [97, 98, 99]).toArray⟩ : ByteArray) = r at hcon R
  go_enter Tryz.func104, Tryz.ntmps104
  go_wp2_with fail
  refine hcon.mono ?_; rintro e w1 ⟨rfl, hb⟩
  have S : Hid (r.toList.isEmpty = rightOk s) := Lib.hid (by
   rw [Bool.eq_iff_iff, ← R.out, isEmpty_iff]
   simp)
  go_wp2_with fail
  go_ret
  exact ⟨ret_bool S.out, hb⟩
 ·have S := Lib.hid (show rightOk s = false by simp [rightOk, h4])
  have i4 : ¬ (s.size : Int) ≤ 4 := by omega
  go_enter Tryz.func104, Tryz.ntmps104
  go_wp2_with fail
  go_ret
  exact ⟨ret_bool S.out.symm, Below.refl _ _⟩
end Go.Proofs.YtjacdlekgdnndaaGreatDoor
set_option linter.unusedVariables false
namespace Go.Proofs.YtjacdlekgdnndaaGreatDoor
open Go.RowKit Go.Shelf
def CallV.cells (c : CallV) : Array Value := #[.int .i64 c.k, .int .i64 c.e, .int .i64 c.a, .int .i64 c.b, .int .i64 c.c, .string c.nm]
def CallV.val (c : CallV) : Value := .agg c.cells
end Go.Proofs.YtjacdlekgdnndaaGreatDoor
