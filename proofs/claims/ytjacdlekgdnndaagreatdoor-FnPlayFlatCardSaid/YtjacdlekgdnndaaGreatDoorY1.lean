/-
  Packed: 21 texts.
-/
import Derived.Lib.Strings
import Derived.Test.YtjacdlekgdnndaaGreatDoorRows
import Derived.WalkKit
import Derived.WalkSpells
import Derived.WalkLawsBesides
import Derived.Deep.QuietTactic
import Derived.BigQuiet
import Derived.Deep.LoopGhost
import Derived.Deep.RegionHeld3
import Derived.Lib.Hide
import Derived.Handy
import Derived.Laws.AppendOwnNone
import Derived.StillTailTactics
import Derived.Maps.AppendAt
import Derived.ArgAppend
set_option linter.unusedVariables false
namespace Go.Proofs.YtjacdlekgdnndaaGreatDoor
structure CallV where
 k : Int
 e : Int
 a : Int
 b : Int
 c : Int
 nm : ByteArray
structure InfoV where
 k : Int
 g : ByteArray
 r : Int
 deriving DecidableEq
def InfoV.zero : InfoV := ⟨0, ⟨#[]⟩, 0⟩
structure CachedV where
 e : Int
 p : Int
 f : Int
 w : Bool
 deriving DecidableEq
structure EnvV where
 rights : List ByteArray
 root : Int
 deriving DecidableEq
structure KernV where
 mem : List (List Int)
 infos : List InfoV
 envs : List EnvV
 cache : List CachedV
 deriving DecidableEq
def inB (n lo hi : Int) : Bool := decide (lo ≤ n) && decide (n ≤ hi)
theorem inB_iff {n lo hi : Int} : inB n lo hi = true ↔ lo ≤ n ∧ n ≤ hi := by simp [inB]
theorem inB_no {n lo hi : Int} : inB n lo hi = false ↔ n < lo ∨ hi < n := by
 by_cases h1 : lo ≤ n <;> by_cases h2 : n ≤ hi <;> simp [inB, h1, h2] <;> omega
def letterOk (c : UInt8) : Bool := decide (97 ≤ c.toNat) && decide (c.toNat ≤ 99)
def rightOk (s : ByteArray) : Bool := s.data.toList.all letterOk && decide (s.size ≤ 4)
def nthS (ss : List ByteArray) (k : Nat) : ByteArray := ss.getD k ⟨#[]⟩
theorem nthS_lt {ss : List ByteArray} {k : Nat} (h : k < ss.length) : ss[k]? = some (nthS ss k) := by simp [nthS, h]
def geB (a b : ByteArray) : Bool := !Op.bytesLess a.toList b.toList
def stepRight (ss : List ByteArray) (i : Nat) : Bool := rightOk (nthS ss i) && (decide (i = 0) || !geB (nthS ss (i - 1)) (nthS ss i))
def rightsOk (ss : List ByteArray) : Bool := (List.range ss.length).all (stepRight ss) && decide (ss.length ≤ 6)
def cov (a b : ByteArray) : Bool := a.data.toList.isPrefixOf b.data.toList
def mayP (rights : List ByteArray) (g : ByteArray) : Bool := rights.any fun s => cov s g
def wordOk (n : Int) : Bool := inB n 0 9999
def rowOk (r : List Int) : Bool := r.all wordOk && decide (r.length = 4)
def memOk (m : List (List Int)) : Bool := m.all rowOk && decide (m.length = 12)
def entG (w : Int) : Bool := decide (0 < w) && decide (w % 2 = 1) && decide (w < 48)
def entF (w : Int) : Nat := (w / 4).toNat
def entW (w : Int) : Bool := decide (w % 4 = 3)
def rowAt (m : List (List Int)) (f : Nat) : List Int := m.getD f []
def wdAt (m : List (List Int)) (f i : Nat) : Int := (rowAt m f).getD i 0
def infoAt (l : List InfoV) (f : Nat) : InfoV := l.getD f InfoV.zero
def envAt (l : List EnvV) (f : Nat) : EnvV := l.getD f ⟨[], 0⟩
def infoOk (x : InfoV) : Bool := decide (x = InfoV.zero) || (inB x.k 1 3 && rightOk x.g && inB x.r 0 50)
def infosOk (l : List InfoV) : Bool := l.all infoOk && decide (l.length = 12)
def named (r : List Int) : List Nat := (r.filter entG).map entF
def tabK (k : Int) : Bool := decide (k = 2) || decide (k = 3)
def needs (k : Int) : Int := if tabK k then k - 1 else 0
def reachL (m : List (List Int)) (root : Int) : List Nat :=
 if root < 0 then [] else root.toNat :: (named (rowAt m root.toNat) ++ (named (rowAt m root.toNat)).flatMap fun t => named (rowAt m t))
def allowedP (infos : List InfoV) (fs : List Nat) (rights : List ByteArray) : Bool := fs.all fun f => mayP rights (infoAt infos f).g
def goodW (infos : List InfoV) (f : Nat) (kind : Int) (rights : List ByteArray) (w : Int) : Bool :=
 if entG w then decide (entF w ≠ f) && decide ((infoAt infos (entF w)).k = kind - 1) && mayP rights (infoAt infos (entF w)).g else decide (w = 0)
def goodP (m : List (List Int)) (infos : List InfoV) (f : Nat) (kind : Int) (rights : List ByteArray) : Bool := (rowAt m f).all (goodW infos f kind rights)
def countP (m : List (List Int)) (infos : List InfoV) (g : Nat) : Nat :=
 ((List.range 12).map fun t => if tabK (infoAt infos t).k then (named (rowAt m t)).count g else 0).sum
def rootsP (envs : List EnvV) (g : Nat) : Nat := envs.countP fun e => decide (e.root = (g : Int))
def cachedOk (x : CachedV) : Bool := inB x.e 0 2 && inB x.p 0 15 && inB x.f 0 11
def sameCP (e p : Int) (y : CachedV) : Bool := decide (y.e = e) && decide (y.p = p)
def findC (c : List CachedV) (e p : Int) : Int := if c.any (sameCP e p) then (c.findIdx (sameCP e p) : Nat) else -1
def cacheAt (c : List CachedV) (i : Nat) : CachedV := c.getD i ⟨0, 0, 0, false⟩
def stepCache (c : List CachedV) (i : Nat) : Bool := cachedOk (cacheAt c i) && !(c.take i).any (sameCP (cacheAt c i).e (cacheAt c i).p)
def cacheOk (c : List CachedV) : Bool := (List.range c.length).all (stepCache c) && decide (c.length ≤ 4)
def walkP (m : List (List Int)) (root a : Nat) : Int × Nat × Bool :=
 if entG (wdAt m root (a / 16)) then
  if entG (wdAt m (entF (wdAt m root (a / 16))) (a / 4 % 4)) then (0, entF (wdAt m (entF (wdAt m root (a / 16))) (a / 4 % 4)), entW (wdAt m root (a / 16)) && entW (wdAt m (entF (wdAt m root (a / 16))) (a / 4 % 4)))
  else (2, 0, false)
 else (1, 0, false)
def envOk (k : KernV) (e : EnvV) : Bool := rightsOk e.rights && (decide (e.root = -1) || (inB e.root 0 11 && decide ((infoAt k.infos e.root.toNat).k = 3))) && allowedP k.infos (reachL k.mem e.root) e.rights
def envsOk (k : KernV) : Bool := k.envs.all (envOk k) && decide (k.envs.length = 3)
def tableOk (k : KernV) (f : Nat) : Bool := !tabK (infoAt k.infos f).k || goodP k.mem k.infos f (infoAt k.infos f).k [⟨#[]⟩]
def refOk (k : KernV) (f : Nat) : Bool := decide ((infoAt k.infos f).r = (countP k.mem k.infos f : Int) + (rootsP k.envs f : Int))
def transOk (k : KernV) (x : CachedV) : Bool := decide (0 ≤ (envAt k.envs x.e.toNat).root) && decide (walkP k.mem (envAt k.envs x.e.toNat).root.toNat (4 * x.p.toNat) = (0, x.f.toNat, x.w))
def kernOk (k : KernV) : Bool := memOk k.mem && infosOk k.infos && cacheOk k.cache && envsOk k && (List.range 12).all (tableOk k) && (List.range 12).all (refOk k) && k.cache.all (transOk k)
def modAt {α : Type} (l : List α) (i : Nat) (f : α → α) : List α := match l[i]? with
 | some x => l.set i (f x)
 | none => l
def addR (n : Int) (x : InfoV) : InfoV := { x with r := x.r + n }
def referP (infos : List InfoV) (fs : List Nat) (n : Int) : List InfoV := fs.foldl (fun l g => modAt l g (addR n)) infos
def freeP (infos : List InfoV) : Int := if infos.any (fun x => decide (x.k = 0)) then (infos.findIdx (fun x => decide (x.k = 0)) : Nat) else -1
def setK (kind : Int) (x : InfoV) : InfoV := { x with k := kind }
def pinP (m : List (List Int)) (infos : List InfoV) (f : Nat) (kind : Int) (rights : List ByteArray) : List InfoV × Int :=
 if (infoAt infos f).k ≠ 1 ∨ (infoAt infos f).r ≠ 0 then (infos, 1)
 else if goodP m infos f kind rights = false then (infos, 2)
 else if infosOk (modAt (referP infos (named (rowAt m f)) 1) f (setK kind)) then (modAt (referP infos (named (rowAt m f)) 1) f (setK kind), 0) else (infos, 1)
def unpinP (m : List (List Int)) (infos : List InfoV) (f : Nat) : List InfoV × Int :=
 if tabK (infoAt infos f).k = false ∨ (infoAt infos f).r ≠ 0 then (infos, 1)
 else if infosOk (modAt (referP infos (named (rowAt m f)) (-1)) f (setK 1)) then (modAt (referP infos (named (rowAt m f)) (-1)) f (setK 1), 0) else (infos, 2)
def addS (ss : List ByteArray) (s : ByteArray) : List ByteArray := ss.takeWhile (fun x => !geB x s) ++ s :: ss.dropWhile (fun x => !geB x s)
def rightsAddP (ss : List ByteArray) (s : ByteArray) : List ByteArray × Bool := if ss.any (fun x => decide (x = s)) then (ss, true) else if ss.length = 6 then (ss, false) else (addS ss s, true)
def rightsDropP (ss : List ByteArray) (s : ByteArray) : List ByteArray := ss.filter fun r => !cov s r
def putC (c : List CachedV) (x : CachedV) : List CachedV :=
 (if (c.filter fun y => !sameCP x.e x.p y).length = 4 then (c.filter fun y => !sameCP x.e x.p y).drop 1 else c.filter fun y => !sameCP x.e x.p y) ++ [x]
def dropC (c : List CachedV) (e : Int) : List CachedV := c.filter fun y => decide (y.e ≠ e)
def setWd (m : List (List Int)) (f i : Nat) (w : Int) : List (List Int) := modAt m f fun r => r.set i w
def mayE (k : KernV) (e : Int) (g : ByteArray) : Bool := mayP (envAt k.envs e.toNat).rights g
abbrev Res := KernV × Int × Int
def takeP (k : KernV) (c : CallV) : Res :=
 if rightOk c.nm = false then (k, 0, 3)
 else if mayE k c.e c.nm = false then (k, 0, 1)
 else if freeP k.infos < 0 then (k, 0, 4)
 else ({ k with infos := k.infos.set (freeP k.infos).toNat ⟨1, c.nm, 0⟩, mem := k.mem.set (freeP k.infos).toNat [0, 0, 0, 0] }, freeP k.infos, 0)
def giveP (k : KernV) (c : CallV) : Res :=
 if (infoAt k.infos c.a.toNat).k ≠ 1 then (k, 0, 3)
 else if (infoAt k.infos c.a.toNat).r ≠ 0 then (k, 0, 2)
 else ({ k with infos := k.infos.set c.a.toNat InfoV.zero }, 0, 0)
def pokeP (k : KernV) (c : CallV) : Res :=
 if (infoAt k.infos c.a.toNat).k ≠ 1 ∨ inB c.b 0 3 = false ∨ wordOk c.c = false then (k, 0, 3)
 else ({ k with mem := setWd k.mem c.a.toNat c.b.toNat c.c }, 0, 0)
def pinCode (n : Int) : Int := if n = 0 then 0 else if n = 1 then 2 else 3
def pinnedP (k : KernV) (r : List InfoV × Int) : Res := if r.2 = 0 then ({ k with infos := r.1 }, 0, 0) else (k, 0, pinCode r.2)
def neededP (k : KernV) (w : Int) : List Nat := if entG w then entF w :: (if tabK (infoAt k.infos (entF w)).k then named (rowAt k.mem (entF w)) else []) else []
def usersP (k : KernV) (a : Nat) : List Nat := (List.range 3).filter fun e => (reachL k.mem (envAt k.envs e).root).contains a
def refer1 (infos : List InfoV) (w : Int) (n : Int) : List InfoV := if entG w then modAt infos (entF w) (addR n) else infos
def wordFits (k : KernV) (c : CallV) : Bool := if entG c.c then decide ((infoAt k.infos (entF c.c)).k = (infoAt k.infos c.a.toNat).k - 1) else decide (c.c = 0)
def setP (k : KernV) (c : CallV) : Res :=
 if tabK (infoAt k.infos c.a.toNat).k = false ∨ inB c.b 0 3 = false ∨ wordFits k c = false then (k, 0, 3)
 else if (usersP k c.a.toNat).all (fun e => allowedP k.infos (neededP k c.c) (envAt k.envs e).rights) = false then (k, 0, 1)
 else if entG c.c = true ∧ mayE k c.e (infoAt k.infos (entF c.c)).g = false then (k, 0, 1)
 else ({ k with mem := setWd k.mem c.a.toNat c.b.toNat c.c, infos := refer1 (refer1 k.infos (wdAt k.mem c.a.toNat c.b.toNat) (-1)) c.c 1, cache := (usersP k c.a.toNat).foldl (fun c e => dropC c (e : Nat)) k.cache }, 0, 0)
def setRoot (n : Int) (e : EnvV) : EnvV := { e with root := n }
def rootP (k : KernV) (c : CallV) : Res :=
 if c.a ≠ -1 ∧ (inB c.a 0 11 = false ∨ (infoAt k.infos c.a.toNat).k ≠ 3) then (k, 0, 3)
 else if allowedP k.infos (reachL k.mem c.a) (envAt k.envs c.e.toNat).rights = false then (k, 0, 1)
 else
  let i1 := if 0 ≤ (envAt k.envs c.e.toNat).root then modAt k.infos (envAt k.envs c.e.toNat).root.toNat (addR (-1)) else k.infos
  ({ k with infos := if 0 ≤ c.a then modAt i1 c.a.toNat (addR 1) else i1, envs := modAt k.envs c.e.toNat (setRoot c.a), cache := dropC k.cache c.e }, 0, 0)
def setRights (ss : List ByteArray) (e : EnvV) : EnvV := { e with rights := ss }
def grantP (k : KernV) (c : CallV) : Res :=
 if inB c.a 0 2 = false ∨ rightOk c.nm = false then (k, 0, 3)
 else if mayE k c.e c.nm = false then (k, 0, 1)
 else if (rightsAddP (envAt k.envs c.a.toNat).rights c.nm).2 = false then (k, 0, 4)
 else ({ k with envs := modAt k.envs c.a.toNat (setRights (rightsAddP (envAt k.envs c.a.toNat).rights c.nm).1) }, 0, 0)
def revokeP (k : KernV) (c : CallV) : Res :=
 if inB c.a 0 2 = false ∨ c.a = c.e ∨ rightOk c.nm = false then (k, 0, 3)
 else if mayE k c.e c.nm = false then (k, 0, 1)
 else if allowedP k.infos (reachL k.mem (envAt k.envs c.a.toNat).root) (rightsDropP (envAt k.envs c.a.toNat).rights c.nm) = false then (k, 0, 2)
 else ({ k with envs := modAt k.envs c.a.toNat (setRights (rightsDropP (envAt k.envs c.a.toNat).rights c.nm)) }, 0, 0)
def useP (k : KernV) (c : CallV) : Res :=
 let root := (envAt k.envs c.e.toNat).root
 if inB c.a 0 63 = false ∨ root < 0 ∨ (c.k = 11 ∧ wordOk c.b = false) then (k, 0, 3)
 else
  let x := walkP k.mem root.toNat c.a.toNat
  if x.1 ≠ 0 then (k, 0, 3)
  else if c.k = 11 ∧ x.2.2 = false then (k, 0, 1)
  else
   let cache := if findC k.cache c.e (c.a / 4) < 0 then putC k.cache ⟨c.e, c.a / 4, x.2.1, x.2.2⟩ else k.cache
   if c.k = 11 then ({ k with mem := setWd k.mem x.2.1 (c.a % 4).toNat c.b, cache := cache }, 0, 0)
   else ({ k with cache := cache }, wdAt k.mem x.2.1 (c.a % 4).toNat, 0)
def frameP (k : KernV) (c : CallV) : Res :=
 if inB c.a 0 11 = false ∨ (infoAt k.infos c.a.toNat).k = 0 ∨ (c.k = 4 ∧ tabK c.b = false) then (k, 0, 3)
 else if mayE k c.e (infoAt k.infos c.a.toNat).g = false then (k, 0, 1)
 else if c.k = 2 then giveP k c
 else if c.k = 3 then pokeP k c
 else if c.k = 4 then pinnedP k (pinP k.mem k.infos c.a.toNat c.b (envAt k.envs c.e.toNat).rights)
 else if c.k = 5 then pinnedP k (unpinP k.mem k.infos c.a.toNat)
 else setP k c
def callP (k : KernV) (c : CallV) : Res :=
 if c.k = 1 then takeP k c
 else if inB c.k 2 6 then frameP k c
 else if c.k = 7 then rootP k c
 else if c.k = 8 then grantP k c
 else if c.k = 9 then revokeP k c
 else if c.k = 10 ∨ c.k = 11 then useP k c
 else (k, 0, 3)
end Go.Proofs.YtjacdlekgdnndaaGreatDoor
namespace Go.Proofs.YtjacdlekgdnndaaGreatDoor
open Go.RowKit
def nth (xs : List Int) (k : Nat) : Int := xs.getD k 0
def Rd (w : World) (v : Value) (sz n : Nat) (xs : List Value) : Prop :=
 ∃ a cap, v = .slice a n cap ∧ n ≤ cap ∧ cap ≤ maxLen ∧ xs.length = n * sz ∧ (a = none → cap = 0) ∧
  (0 < n → ∃ b off, a = some ⟨b, off, none⟩ ∧ ∀ j, j < n * sz → w.cell? ⟨b, off + j, none⟩ = xs[j]?)
theorem Rd.of_owns {w : World} {base e sz n : Nat} {v : Value} {xs : List Value} (h : w.ownsRow base e sz v n xs) : Rd w v sz n xs := by
 rcases h.2 with ⟨rfl, rfl⟩ | ⟨g, cap, cur, rfl, hb, hg, hnc, hcm, hcs, htake⟩
 ·exact ⟨none, 0, rfl, Nat.le_refl _, by simp [maxLen], h.1, fun _ => rfl, fun h => absurd h (Nat.lt_irrefl _)⟩
 ·refine ⟨_, _, rfl, hnc, hcm, h.1, (fun h => by cases h), fun _ => ⟨g, 0, rfl, fun j hj => ?_⟩⟩
  have := h.cellAt j hj
  simpa using this
theorem Rd.keep {w w' : World} {sz n : Nat} {v : Value} {xs : List Value} (h : Rd w v sz n xs) (hk : ∀ k, k < w.heap.size → w'.heap[k]? = w.heap[k]?) : Rd w' v sz n xs := by
 obtain ⟨a, cap, rfl, hnc, hcm, hl, hnil, hc⟩ := h
 refine ⟨a, cap, rfl, hnc, hcm, hl, hnil, fun hn => ?_⟩
 obtain ⟨b, off, rfl, hcell⟩ := hc hn
 refine ⟨b, off, rfl, fun j hj => ?_⟩
 have h1 := hcell j hj
 have hsome : ∃ u, xs[j]? = some u := ⟨xs[j]'(by omega), List.getElem?_eq_getElem (by omega)⟩
 obtain ⟨u, hu⟩ := hsome
 rw [hu] at h1 ⊢
 have hlt := World.block_lt_of_cell? w _ h1
 exact (World.cell?_of_block (hk _ hlt)).trans h1
theorem Rd.below {w w' : World} {sz n : Nat} {v : Value} {xs : List Value} (h : Rd w v sz n xs) (hb : Below w.heap.size w w') : Rd w' v sz n xs := h.keep hb.block
theorem Rd.drewN {w : World} {sz n : Nat} {v : Value} {xs : List Value} (h : Rd w v sz n xs) (k : Nat) : Rd (w.drewN k) v sz n xs := h.keep (fun _ _ => rfl)
theorem Rd.alloc {w : World} {sz n : Nat} {v : Value} {xs : List Value} (h : Rd w v sz n xs) (o : Obj) : Rd (w.alloc o) v sz n xs := h.keep (fun k hk => (World.grownBy_alloc w o none).block k hk (by simp))
def RdInts (w : World) (v : Value) (xs : List Int) : Prop := Rd w v 1 xs.length (xs.map (Value.int .i64))
def AtInts (w : World) (a : Option Addr) (xs : List Int) : Prop :=
 ∀ k, k < xs.length → ∃ b off, a = some ⟨b, off, none⟩ ∧ ∀ j, j < xs.length → w.cell? ⟨b, off + j, none⟩ = some (.int .i64 (nth xs j))
theorem nth_lt {xs : List Int} {k : Nat} (h : k < xs.length) : xs[k]? = some (nth xs k) := by
 simp [nth, h]
theorem nth_eq {xs : List Int} {k : Nat} (h : k < xs.length) : nth xs k = xs[k] := by
 simp [nth, h]
theorem RdInts.open {w : World} {v : Value} {xs : List Int} (h : RdInts w v xs) :
 ∃ a cap, v = .slice a xs.length cap ∧ xs.length ≤ cap ∧ cap ≤ maxLen ∧ AtInts w a xs := by
 obtain ⟨a, cap, rfl, hnc, hcm, hl, _, hc⟩ := h
 refine ⟨a, cap, rfl, hnc, hcm, fun k hk => ?_⟩
 obtain ⟨b, off, rfl, hcell⟩ := hc (by omega)
 refine ⟨b, off, rfl, fun j hj => ?_⟩
 rw [hcell j (by omega), List.getElem?_map, nth_lt hj]
 rfl
theorem AtInts.at {w : World} {a : Option Addr} {xs : List Int} (h : AtInts w a xs) {k : Nat} (hk : k < xs.length) :
 ∃ b off, a = some ⟨b, off, none⟩ ∧ w.cell? ⟨b, off + k, none⟩ = some (.int .i64 (nth xs k)) := by
 obtain ⟨b, off, rfl, hc⟩ := h k hk
 exact ⟨b, off, rfl, hc k hk⟩
theorem AtInts.keep {w w' : World} {a : Option Addr} {xs : List Int} (h : AtInts w a xs) (hk : ∀ k, k < w.heap.size → w'.heap[k]? = w.heap[k]?) : AtInts w' a xs := by
 intro k hk'
 obtain ⟨b, off, rfl, hc⟩ := h k hk'
 exact ⟨b, off, rfl, fun j hj => (World.cell?_of_block (hk _ (World.block_lt_of_cell? w _ (hc j hj)))).trans (hc j hj)⟩
theorem AtInts.below {w w' : World} {a : Option Addr} {xs : List Int} (h : AtInts w a xs) (hb : Below w.heap.size w w') : AtInts w' a xs := h.keep hb.block
theorem RdInts.below {w w' : World} {v : Value} {xs : List Int} (h : RdInts w v xs) (hb : Below w.heap.size w w') : RdInts w' v xs := Rd.below h hb
theorem RdInts.drewN {w : World} {v : Value} {xs : List Int} (h : RdInts w v xs) (k : Nat) : RdInts (w.drewN k) v xs := Rd.drewN h k
theorem RdInts.keep {w w' : World} {v : Value} {xs : List Int} (h : RdInts w v xs) (hk : ∀ k, k < w.heap.size → w'.heap[k]? = w.heap[k]?) : RdInts w' v xs := Rd.keep h hk
theorem RdInts.alloc {w : World} {v : Value} {xs : List Int} (h : RdInts w v xs) (o : Obj) : RdInts (w.alloc o) v xs := Rd.alloc h o
def OwnInts (lo : Nat) (w : World) (v : Value) (xs : List Int) : Prop := w.ownsRow lo 3 1 v xs.length (xs.map (Value.int .i64))
theorem OwnInts.rd {lo : Nat} {w : World} {v : Value} {xs : List Int} (h : OwnInts lo w v xs) : RdInts w v xs := Rd.of_owns h
theorem ret_bool {a b : Bool} (h : a = b) : Ending.returned (.bool a) = .returned (.bool b) := by rw [h]
theorem ret_int {a b : Int} (h : a = b) : Ending.returned (.int .i64 a) = .returned (.int .i64 b) := by rw [h]
theorem drewN_drewN (w : World) (a b : Nat) : (w.drewN a).drewN b = w.drewN (a + b) := by
 simp [World.drewN, Nat.add_assoc]
theorem ex_drew1 (w : World) (a : Nat) : ∃ n, w.drewN a = w.drewN n := ⟨a, rfl⟩
theorem ex_drew2 (w : World) (a b : Nat) : ∃ n, (w.drewN a).drewN b = w.drewN n := ⟨a + b, drewN_drewN w a b⟩
theorem below_drewN {B : Nat} {a w : World} (h : Below B a w) (n : Nat) : Below B a (w.drewN n) := ⟨h.os, h.tape, h.output, h.size, h.block⟩
def RdBytes (w : World) (v : Value) (bs : List Int) : Prop := Rd w v 1 bs.length (bs.map (Value.int .u8)) ∧ ∀ b ∈ bs, 0 ≤ b ∧ b < 256
theorem rd_of_row (k : IntKind) {w : World} {a : Option Addr} {len cap : Nat} {zs : List Int}
 (h : (a = none ∧ len = 0 ∧ cap = 0 ∧ zs = []) ∨ ∃ x, a = some x ∧ len ≤ cap ∧ cap ≤ maxLen ∧ zs.length = cap ∧ (∀ i, i < zs.length → w.cell? (x.add i) = some (.int k (zs.getD i 0))) ∧ ∀ n ∈ zs, (Lit.int k n).wf = true) :
 Rd w (.slice a len cap) 1 (zs.take len).length ((zs.take len).map (Value.int k)) ∧ ∀ n ∈ zs.take len, (Lit.int k n).wf = true := by
 rcases h with ⟨rfl, rfl, rfl, rfl⟩ | ⟨x, rfl, hlc, hcm, hz, hc, hwf⟩
 ·exact ⟨⟨none, 0, by simp, by simp, by simp [maxLen], by simp, fun _ => rfl, by simp⟩, by simp⟩
 ·have hl : (zs.take len).length = len := by rw [List.length_take]; omega
  refine ⟨⟨some x, cap, by rw [hl], by omega, hcm, by simp, (fun h => by cases h), fun hn => ?_⟩, fun n hn => hwf n (List.mem_of_mem_take hn)⟩
  rw [hl] at hn ⊢
  have h0 := hc 0 (by omega)
  obtain ⟨b, off, spot⟩ := x
  cases spot with
  | some q => simp [Addr.add, World.cell?] at h0; split at h0 <;> simp_all
  | none =>
   refine ⟨b, off, rfl, fun j hj => ?_⟩
   have hj' := hc j (by omega)
   have hadd : (⟨b, off, none⟩ : Addr).add j = ⟨b, off + j, none⟩ := by unfold Addr.add; split <;> simp_all
   rw [hadd] at hj'
   rw [hj', List.getElem?_map, List.getElem?_take, if_pos (by omega)]
   simp [List.getElem?_eq_getElem (show j < zs.length by omega)]
theorem rdBytes_of_row {w : World} {a : Option Addr} {len cap : Nat} {zs : List Int}
 (h : (a = none ∧ len = 0 ∧ cap = 0 ∧ zs = []) ∨ ∃ x, a = some x ∧ len ≤ cap ∧ cap ≤ maxLen ∧ zs.length = cap ∧ (∀ i, i < zs.length → w.cell? (x.add i) = some (.int .u8 (zs.getD i 0))) ∧ ∀ n ∈ zs, (Lit.int .u8 n).wf = true) :
 RdBytes w (.slice a len cap) (zs.take len) := by
 refine ⟨(rd_of_row .u8 h).1, fun b hb => ?_⟩
 have := (rd_of_row .u8 h).2 b hb
 simp only [Lit.wf, Bool.and_eq_true, decide_eq_true_eq] at this
 have h1 : IntKind.min .u8 = 0 := by decide
 have h2 : IntKind.max .u8 = 255 := by decide
 omega
set_option maxHeartbeats 400000 in
theorem l6In_any (n lo hi : Int) (w : World) :
 Calls Tryz.prog 59 #[.int .i64 n, .int .i64 lo, .int .i64 hi] w fun e w' => e = .returned (.bool (inB n lo hi)) ∧ w = w' := by
 by_cases h1 : lo ≤ n
 ·have e1 : inB n lo hi = decide (n ≤ hi) := by simp [inB, h1]
  have H := Lib.hid e1; clear e1
  go_enter Tryz.func59, Tryz.ntmps59
  go_wp2
  go_ret
  exact ⟨ret_bool H.out.symm, rfl⟩
 ·have e1 : inB n lo hi = false := by simp [inB, h1]
  have H := Lib.hid e1; clear e1
  go_enter Tryz.func59, Tryz.ntmps59
  go_wp2
  go_ret
  exact ⟨ret_bool H.out.symm, rfl⟩
set_option maxHeartbeats 400000 in
theorem within_any (n lo hi : Int) (w : World) :
 Calls Tryz.prog 55 #[.int .i64 n, .int .i64 lo, .int .i64 hi] w fun e w' => e = .returned (.bool (inB n lo hi)) ∧ w = w' := by
 by_cases h1 : lo ≤ n
 ·have e1 : inB n lo hi = decide (n ≤ hi) := by simp [inB, h1]
  have H := Lib.hid e1; clear e1
  go_enter Tryz.func55, Tryz.ntmps55
  go_wp2
  go_ret
  exact ⟨ret_bool H.out.symm, rfl⟩
 ·have e1 : inB n lo hi = false := by simp [inB, h1]
  have H := Lib.hid e1; clear e1
  go_enter Tryz.func55, Tryz.ntmps55
  go_wp2
  go_ret
  exact ⟨ret_bool H.out.symm, rfl⟩
set_option maxHeartbeats 400000 in
theorem isEnv_any (n : Int) (w : World) :
 Calls Tryz.prog 43 #[.int .i64 n] w fun e w' => e = .returned (.bool (inB n 0 2)) ∧ w = w' := by
 go_enter Tryz.func43, Tryz.ntmps43
 go_wp2_with (go_at_call 55; refine (within_any _ _ _ _).mono ?_; rintro e w' ⟨rfl, rfl⟩)
 go_ret
 exact ⟨rfl, rfl⟩
def findIdx (p : Int → Bool) (xs : List Int) : Int := if xs.any p then (xs.findIdx p : Int) else -1
theorem findIdx_none {p : Int → Bool} {xs : List Int} (h : ∀ j, j < xs.length → p (nth xs j) = false) : findIdx p xs = -1 := by
 unfold findIdx
 have : xs.any p = false := by
  rw [List.any_eq_false]
  intro x hx
  obtain ⟨j, hj, rfl⟩ := List.getElem_of_mem hx
  have := h j hj
  rw [nth_eq hj] at this
  simp [this]
 simp [this]
theorem findIdx_at {p : Int → Bool} {xs : List Int} {k : Nat} (hk : k < xs.length) (h : ∀ j, j < k → p (nth xs j) = false) (hp : p (nth xs k) = true) : findIdx p xs = k := by
 unfold findIdx
 rw [nth_eq hk] at hp
 have h1 : xs.any p = true := List.any_eq_true.2 ⟨xs[k], List.getElem_mem hk, hp⟩
 have h2 : xs.findIdx p = k := by
  rw [List.findIdx_eq hk]
  refine ⟨hp, fun j hj => ?_⟩
  have := h j hj
  rwa [nth_eq (by omega)] at this
 simp [h1, h2]
theorem findIdx_ge {p : Int → Bool} {xs : List Int} : decide (0 ≤ findIdx p xs) = xs.any p := by
 unfold findIdx
 cases xs.any p <;> simp
set_option maxHeartbeats 400000 in
theorem IndexFunc_any (F : Nat) (caps : Array Value) (p : Int → Bool) (v : Value) (xs : List Int) (w : World) (h : RdInts w v xs)
 (hF : ∀ args w, (callFunc F args).run Tryz.prog w = .ok (.enter F args) w) (hf : ∀ x w, Calls Tryz.prog F (#[.int .i64 x] ++ caps) w fun e w' => e = .returned (.bool (p x)) ∧ w = w') :
 Calls Tryz.prog 187 #[v, .func (.func F) #[] caps] w fun e w' => e = .returned (.int .i64 (findIdx p xs)) ∧ w = w' := by
 obtain ⟨a, c, rfl, hc, hcm, H⟩ := h.open
 clear h
 unfold maxLen at hcm
 have Hf := Lib.hid hf; clear hf
 go_enter Tryz.func187, Tryz.ntmps187
 go_wp2
 go_loop [8] (fun i => ∃ k : Nat, k ≤ xs.length ∧ i = .int .i64 k ∧ ∀ j, j < k → p (nth xs j) = false) (fun i => xs.length - (intOf i).toNat)
 case atStart => exact ⟨0, Nat.zero_le _, rfl, fun j hj => absurd hj (Nat.not_lt_zero _)⟩
 case round =>
  obtain ⟨k, hk, rfl, hpre⟩ := hrel
  have Hpre := Lib.hid hpre; clear hpre
  by_cases hlt : k < xs.length
  ·obtain ⟨b, off, rfl, D⟩ := H.at hlt
   clear H
   cases hp : p (nth xs k)
   ·have Hp := Lib.hid hp; clear hp
    go_wp2_with (refine (Hf.out _ _).mono ?_; rintro e w' ⟨rfl, rfl⟩; rw [Hp.out])
    go_round
    case rel => exact ⟨k + 1, by omega, by go_num, fun j hj => by
     rcases Nat.lt_succ_iff_lt_or_eq.1 hj with h | h
     ·exact Hpre.out j h
     ·subst h; exact Hp.out⟩
    case measure => simp [intOf]; omega
   ·have Hp := Lib.hid hp; clear hp
    have hres := Lib.hid (findIdx_at (p := p) hlt Hpre.out Hp.out)
    go_wp2_with (refine (Hf.out _ _).mono ?_; rintro e w' ⟨rfl, rfl⟩; rw [Hp.out])
    go_ret
    exact ⟨ret_int hres.out.symm, rfl⟩
  ·have hres := Lib.hid (findIdx_none (p := p) (xs := xs) (fun j hj => Hpre.out j (by omega)))
   go_wp2
   go_ret
   exact ⟨ret_int hres.out.symm, rfl⟩
set_option maxHeartbeats 400000 in
theorem ContainsFunc_any (F : Nat) (caps : Array Value) (p : Int → Bool) (v : Value) (xs : List Int) (w : World) (h : RdInts w v xs)
 (hF : ∀ args w, (callFunc F args).run Tryz.prog w = .ok (.enter F args) w) (hf : ∀ x w, Calls Tryz.prog F (#[.int .i64 x] ++ caps) w fun e w' => e = .returned (.bool (p x)) ∧ w = w') :
 Calls Tryz.prog 119 #[v, .func (.func F) #[] caps] w fun e w' => e = .returned (.bool (xs.any p)) ∧ w = w' := by
 have Hf := Lib.hid hf; clear hf
 go_enter Tryz.func119, Tryz.ntmps119
 go_wp2_with (go_at_call 187; refine (IndexFunc_any F caps p v xs _ h hF Hf.out).mono ?_; rintro e w' ⟨rfl, rfl⟩)
 go_ret
 exact ⟨ret_bool findIdx_ge, rfl⟩
theorem forall_lt_succ {p : Nat → Prop} {k : Nat} (h : ∀ j, j < k → p j) (hk : p k) : ∀ j, j < k + 1 → p j := fun j hj => by
 rcases Nat.lt_succ_iff_lt_or_eq.1 hj with h' | h'
 ·exact h j h'
 ·subst h'; exact hk
theorem Tryz.infoInt : (Tryz.prog.info? 3).map (fun i => (i.zero, i.size, i.bytes)) = some (some (.int .i64 0), 1, 8) := by kernel_rfl
theorem OwnInts.below {lo : Nat} {w w' : World} {v : Value} {xs : List Int} (h : OwnInts lo w v xs) (hb : Below w.heap.size w w') : OwnInts lo w' v xs := by
 refine World.ownsRow.kept (row := none) h ⟨hb.os, hb.tape, hb.output, hb.size, fun k hk _ => hb.block k hk⟩ ?_
 cases v.ownBlock <;> simp
theorem ownsRow_below {lo : Nat} {w w' : World} {v : Value} {e sz n : Nat} {xs : List Value} (h : w.ownsRow lo e sz v n xs) (hb : Below w.heap.size w w') : w'.ownsRow lo e sz v n xs := by
 refine World.ownsRow.kept (row := none) h ⟨hb.os, hb.tape, hb.output, hb.size, fun k hk _ => hb.block k hk⟩ ?_
 cases v.ownBlock <;> simp
theorem Below.of_grown {w w' : World} (h : w.grownBy w' none) : Below w.heap.size w w' := ⟨h.os, h.tape, h.output, h.size, fun k hk => h.block k hk (by simp)⟩
theorem madeOnes (z : Value) (hz : z.cells = #[z]) (n : Nat) : (madeCells z.cells (n * 1)).toList = List.replicate n z := by
 rw [hz, Nat.mul_one, toList_madeCells_one]
theorem wp_make {w : World} {ops : Array Oper} {rest : List Oper} {o : Oper} {a : Act} {Q : Exit → Act → World → Prop} {l : Operand} {t : TypeId} {n : Nat}
 (hg : o.guard = none) (hop : o.op = Op.makeSlice t l l) (e : TypeId) (z : Value) (bytes : Nat) (h1 : Tryz.prog.underlying t = some (.slice e))
 (h2 : (Tryz.prog.info? e).map (fun i => (i.zero, i.size, i.bytes)) = some (some z, 1, bytes)) (hz : z.cells = #[z])
 (hl : a.eval l = .int .i64 n) (b2 : bytes * n ≤ 281474976710656) (b3 : n ≤ maxLen)
 (hK : ∀ w', w'.ownsRow w.heap.size e 1 (.slice (some ⟨w.heap.size, 0, none⟩) n n) n (List.replicate n z) → Below w.heap.size w w' → w.heap.size < w'.heap.size →
  wpList Tryz.prog ops Q rest (a.put o.dst (.slice (some ⟨w.heap.size, 0, none⟩) n n)) w') : wpList Tryz.prog ops Q (o :: rest) a w := by
 obtain ⟨i0, hi, hz0, hz1, hz2⟩ := info_parts h2
 refine wpList_make_full w hg l l t hop w.heap.size e i0 z 1 h1 hi hz0 hz1 .i64 .i64 n n n hl hl rfl rfl (by rw [hz2]; exact b2) b3 (Nat.le_refl _) fun w' h h' => ?_
 rw [madeOnes z hz] at h
 exact hK w' h (Below.of_grown h') (h.lt _ rfl).2
theorem eq_of_nth {xs ys : List Int} (hl : xs.length = ys.length) (h : ∀ j, j < xs.length → nth xs j = nth ys j) : xs = ys := by
 refine List.ext_getElem hl fun j h1 h2 => ?_
 have := h j h1
 rwa [nth_eq h1, nth_eq h2] at this
theorem ne_of_nth {xs ys : List Int} {k : Nat} (h : nth xs k ≠ nth ys k) : decide (xs = ys) = false := by
 simp only [decide_eq_false_iff_not]
 rintro rfl
 exact h rfl
theorem ne_of_len {xs ys : List Int} (h : xs.length ≠ ys.length) : decide (xs = ys) = false := by
 simp only [decide_eq_false_iff_not]
 rintro rfl
 exact h rfl
set_option maxHeartbeats 400000 in
theorem sameInts_any (v1 v2 : Value) (xs ys : List Int) (w : World) (h1 : RdInts w v1 xs) (h2 : RdInts w v2 ys) :
 Calls Tryz.prog 26 #[v1, v2] w fun e w' => e = .returned (.bool (decide (xs = ys))) ∧ ∃ n, w' = w.drewN n := by
 obtain ⟨a1, c1, rfl, hc1, hcm1, H1⟩ := h1.open
 obtain ⟨a2, c2, rfl, hc2, hcm2, H2⟩ := h2.open
 clear h1 h2
 unfold maxLen at hcm1 hcm2
 by_cases hlen : (xs.length : Int) = ys.length
 ·have hb : ((xs.length : Int) != ys.length) = false := by simp [hlen]
  have hlen' : xs.length ≤ ys.length ∧ ys.length ≤ xs.length := by omega
  clear hlen
  go_enter Tryz.func26, Tryz.ntmps26
  go_wp2
  go_loopw [5] (fun i wr => ∃ k : Nat, k ≤ xs.length ∧ i = .int .i64 k ∧ (∀ j, j < k → nth xs j = nth ys j) ∧ ∃ n, wr = w.drewN n) (fun i _ => xs.length - (intOf i).toNat)
  case atStart => exact ⟨0, Nat.zero_le _, rfl, fun j hj => absurd hj (Nat.not_lt_zero _), 0, rfl⟩
  case round =>
   obtain ⟨k, hk, rfl, hpre, n, rfl⟩ := hrel
   have Hpre := Lib.hid hpre
   clear hpre
   by_cases hlt : k < xs.length
   ·obtain ⟨b1, o1, rfl, D1⟩ := H1.at hlt
    have hlt2 : k < ys.length := by omega
    obtain ⟨b2, o2, rfl, D2⟩ := H2.at hlt2
    clear H1 H2
    by_cases he : nth xs k = nth ys k
    ·have he' : (nth xs k != nth ys k) = false := by simp [he]
     have He := Lib.hid he; clear he
     go_wp2
     go_quiet (fail)
     go_wp2
     go_roundw
     case rel => exact ⟨k + 1, by omega, by go_num, forall_lt_succ Hpre.out He.out, _, rfl⟩
     case measure => simp [intOf]; omega
    ·have he' : (nth xs k != nth ys k) = true := by simp [he]
     have Hres := Lib.hid (ne_of_nth he); clear he
     go_wp2
     go_quiet (fail)
     go_wp2
     go_ret
     first | exact ⟨ret_bool Hres.out.symm, ex_drew2 _ _ _⟩ | exact ⟨ret_bool Hres.out.symm, ex_drew1 _ _⟩
   ·have Hres := Lib.hid (eq_of_nth (xs := xs) (ys := ys) (by omega) (fun j hj => Hpre.out j (by omega)))
    go_wp2
    go_ret
    exact ⟨ret_bool (by simp [Hres.out]), _, rfl⟩
 ·have hb : ((xs.length : Int) != ys.length) = true := by simp [hlen]
  have Hres := Lib.hid (ne_of_len (xs := xs) (ys := ys) (by omega))
  clear hlen
  go_enter Tryz.func26, Tryz.ntmps26
  go_wp2
  go_ret
  exact ⟨ret_bool Hres.out.symm, 0, rfl⟩
theorem wp_append {lo : Nat} {w : World} {ops : Array Oper} {rest : List Oper} {o : Oper} {a : Act} {Q : Exit → Act → World → Prop} {s x : Operand} {t : TypeId}
 (hgd : o.guard = none) (ho : o.op = .call { callee := .builtin .append, args := #[s, x], argTypes := #[t, t] })
 (e : TypeId) (z : Value) (sz bytes : Nat) (ht : Tryz.prog.underlying t = some (.slice e)) (hi : (Tryz.prog.info? e).map (fun i => (i.zero, i.size, i.bytes)) = some (some z, sz, bytes))
 (hzs : z.cells.size = sz) (hsz : 0 < sz) {v u : Value} {n m : Nat} {xs news : List Value} (hs : a.eval s = v) (hown : w.ownsRow lo e sz v n xs)
 (hx : a.eval x = u) (hr : Rd w u sz m news) (h1 : ∀ u ∈ news, u.oneCell' = true) (h63 : n + m ≤ maxLen) (hbytes : (n + m) * bytes ≤ 140737488355328) (hlo : lo ≤ w.heap.size)
 (hK : ∀ v' w', w'.ownsRow lo e sz v' (n + m) (xs ++ news) → w.grownBy w' v.ownBlock → Below lo w w' → wpList Tryz.prog ops Q rest (a.put o.dst v') w') : wpList Tryz.prog ops Q (o :: rest) a w := by
 obtain ⟨i0, hi0, hz0, hz1, hz2⟩ := info_parts hi
 obtain ⟨ao, c, rfl, hmc, hcm, hl, hnil, hc⟩ := hr
 have hbel : ∀ w', w.grownBy w' v.ownBlock → Below lo w w' := fun w' hg => (Below.refl lo w).grown hg hlo (fun k hk => (hown.lt k hk).1)
 cases ao with
 | none =>
  have hc0 := hnil rfl
  subst hc0
  obtain rfl : m = 0 := by omega
  have hnews : news = [] := List.eq_nil_of_length_eq_zero (by simpa using hl)
  subst hnews
  refine wpList_append_own_none hgd s x t ho lo e i0 sz ht hi0 v n xs hs hown hx ?_
  exact hK v w (by simpa using hown) ⟨rfl, rfl, rfl, Nat.le_refl _, fun _ _ _ => rfl⟩ (Below.refl _ _)
 | some ad =>
  refine wpList_append_own w hgd s x t ho lo e i0 z sz bytes ht hi0 hz0 hz1 hz2 hzs hsz v n xs hs hown ad m c news hx hl ?_ h1 h63 hbytes hlo (fun v' w' h2 h3 _ => hK v' w' h2 h3 (hbel w' h3))
  intro j u hu
  rcases Nat.eq_zero_or_pos m with rfl | hm
  ·simp at hl
   simp [hl] at hu
  ·obtain ⟨b, off, had, hcell⟩ := hc hm
   obtain rfl : ad = ⟨b, off, none⟩ := by simpa using had
   have hj : j < news.length := (List.getElem?_eq_some_iff.1 hu).1
   have hadd : (⟨b, off, none⟩ : Addr).add j = ⟨b, off + j, none⟩ := by unfold Addr.add; split <;> simp_all
   rw [hadd, hcell j (by omega), hu]
theorem Rd.news (w : World) (cs : Array Value) (e : TypeId) (sz n : Nat) (hs : cs.size = n * sz) (hn : n ≤ maxLen) : Rd (w.alloc (.cells cs e)) (.slice (some ⟨w.heap.size, 0, none⟩) n n) sz n cs.toList :=
 Rd.of_owns (World.ownsRow_lit (base := w.heap.size) w cs n (Nat.le_refl _) hn hs)
theorem mem_ints {xs : List Int} : ∀ u ∈ xs.map (Value.int .i64), u.oneCell' = true := by
 intro u hu
 obtain ⟨x, _, rfl⟩ := List.mem_map.1 hu
 rfl
theorem ownsRow_empty (w : World) (e sz : Nat) : (w.alloc (.cells #[] e)).ownsRow w.heap.size e sz (.slice (some ⟨w.heap.size, 0, none⟩) 0 0) 0 [] :=
 World.ownsRow_made w #[] 0 (Nat.le_refl _) (by simp [maxLen]) (by simp)
set_option maxHeartbeats 400000 in
theorem CloneInts_any (v : Value) (xs : List Int) (w : World) (h : RdInts w v xs) (hs : xs.length ≤ 1048576) :
 Calls Tryz.prog 127 #[v] w fun e w' => ∃ v', e = .returned v' ∧ OwnInts w.heap.size w' v' xs ∧ Below w.heap.size w w' := by
 have h' := h
 obtain ⟨a, c, rfl, hnc, hcm, hl, hnil, hc⟩ := h'
 have hq := fun w => Lib.run_eql_slice_nil (P := Tryz.prog) w 38 3 a xs.length c 0 0 Tryz.underlying38
 cases a with
 | none =>
  have hc0 := hnil rfl
  subst hc0
  have h0 : xs = [] := List.eq_nil_of_length_eq_zero (by omega)
  subst h0
  simp only [List.length_nil] at hq
  go_enter Tryz.func127, Tryz.ntmps127
  go_wp2
  go_ret
  exact ⟨_, rfl, World.ownsRow_nil _ _ _ _, Below.refl _ _⟩
 | some ad =>
  clear hc hnil
  go_enter Tryz.func127, Tryz.ntmps127
  go_wp2_with (refine wp_append (lo := w.heap.size) (v := .slice (some ⟨w.heap.size, 0, none⟩) 0 0) (n := 0) (xs := []) (m := xs.length) (news := xs.map (Value.int .i64)) rfl rfl 3 (.int .i64 0) 1 8 Tryz.underlying38 Tryz.infoInt rfl (by decide) rfl (ownsRow_empty _ _ _) rfl (h.alloc _) mem_ints (by unfold maxLen; omega) (by omega) (by simp) ?_; intro v' w' hown _ hbel)
  go_ret
  refine ⟨_, rfl, by simpa [OwnInts] using hown, ((Below.refl _ _).alloc (Nat.le_refl _) _).trans hbel⟩
theorem own_shape {w : World} {lo e sz n : Nat} {v : Value} {xs : List Value} (h : w.ownsRow lo e sz v n xs) (hn : 0 < n) : ∃ g cap, v = .slice (some ⟨g, 0, none⟩) n cap ∧ lo ≤ g ∧ g < w.heap.size := by
 have hlt := h.lt
 rcases h.2 with ⟨_, rfl⟩ | ⟨g, cap, cur, rfl, hb, hg, _⟩
 ·omega
 ·exact ⟨g, cap, rfl, hb, (hlt g rfl).2⟩
theorem getElem_ints {xs : List Int} {a : Nat} (h : a < xs.length) : (xs.map (Value.int .i64))[a]? = some (.int .i64 (nth xs a)) := by
 rw [List.getElem?_map, nth_lt h]; rfl
theorem own_set {lo : Nat} {w : World} {v : Value} {xs : List Int} {a : Nat} {x : Int} (h : w.ownsRow lo 3 1 v xs.length ((xs.map (Value.int .i64)).set a (.int .i64 x))) : OwnInts lo w v (xs.set a x) := by
 unfold OwnInts
 rw [List.length_set, List.map_set]
 exact h
theorem nth_set {xs : List Int} {a j : Nat} {x : Int} (ha : a < xs.length) : nth (xs.set a x) j = if j = a then x else nth xs j := by
 unfold nth
 rw [List.getD_eq_getElem?_getD, List.getD_eq_getElem?_getD, List.getElem?_set]
 by_cases h : a = j
 ·subst h; simp [ha]
 ·have h' : j ≠ a := fun e => h e.symm
  simp [h, h']
def lenOf : Value → Nat | .slice _ n _ => n | _ => 0
def AtBytes (w : World) (a : Option Addr) (bs : List Int) : Prop :=
 ∀ k, k < bs.length → ∃ b off, a = some ⟨b, off, none⟩ ∧ ∀ j, j < bs.length → w.cell? ⟨b, off + j, none⟩ = some (.int .u8 (nth bs j)) ∧ 0 ≤ nth bs j ∧ nth bs j < 256
theorem RdBytes.open {w : World} {v : Value} {xs : List Int} (h : RdBytes w v xs) :
 ∃ a cap, v = .slice a xs.length cap ∧ xs.length ≤ cap ∧ cap ≤ maxLen ∧ AtBytes w a xs := by
 obtain ⟨⟨a, cap, rfl, hnc, hcm, hl, _, hc⟩, hby⟩ := h
 refine ⟨a, cap, rfl, hnc, hcm, fun k hk => ?_⟩
 obtain ⟨b, off, rfl, hcell⟩ := hc (by omega)
 refine ⟨b, off, rfl, fun j hj => ⟨?_, ?_⟩⟩
 ·rw [hcell j (by omega), List.getElem?_map, nth_lt hj]
  rfl
 ·rw [nth_eq hj]
  exact hby _ (List.getElem_mem hj)
theorem AtBytes.at {w : World} {a : Option Addr} {xs : List Int} (h : AtBytes w a xs) {k : Nat} (hk : k < xs.length) :
 ∃ b off, a = some ⟨b, off, none⟩ ∧ w.cell? ⟨b, off + k, none⟩ = some (.int .u8 (nth xs k)) ∧ 0 ≤ nth xs k ∧ nth xs k < 256 := by
 obtain ⟨b, off, rfl, hc⟩ := h k hk
 exact ⟨b, off, rfl, hc k hk⟩
def Reader (w0 w : World) (R : Value) (N : Nat) : Prop :=
 ∃ g bsv bs, ∃ p : Nat, R = .pointer (some ⟨g, 0, none⟩) ∧ w0.heap.size ≤ g ∧ w.heap[g]? = some (.cells #[bsv, .int .i64 p] 126 (0, 0)) ∧ RdBytes w0 bsv bs ∧ bs.length ≤ 2000 ∧ p ≤ N
theorem xor_nonneg {X : Int} (h0 : 0 ≤ X) (h1 : X ≤ 1000000000) : 0 ≤ bits .xor .i64 X (X / 64) := by
 obtain ⟨x, rfl⟩ := Int.eq_ofNat_of_zero_le h0
 have e : ((x : Int) / 64) = ((x / 64 : Nat) : Int) := by omega
 have ha : x < 2 ^ 40 := by omega
 have hb : x / 64 < 2 ^ 40 := by omega
 have ha' : x % 2 ^ IntKind.i64.bits = x := Nat.mod_eq_of_lt (Nat.lt_of_lt_of_le ha (by decide))
 have hb' : x / 64 % 2 ^ IntKind.i64.bits = x / 64 := Nat.mod_eq_of_lt (Nat.lt_of_lt_of_le hb (by decide))
 have hx : x ^^^ (x / 64) < 2 ^ 40 := Nat.xor_lt_two_pow ha hb
 rw [e]
 simp only [bits, BitVec.ofInt_natCast, BitVec.toNat_xor, BitVec.toNat_ofNat, ha', hb']
 rw [IntWalk.i64_in _ (by omega)]
 omega
def Picked (w0 w : World) (R : Value) (N : Nat) (n : Int) (e : Ending) (w' : World) : Prop :=
 ∃ x : Int, e = .returned (.int .i64 x) ∧ (0 ≤ x ∧ (0 < n → x < n) ∧ (n ≤ 0 → x = 0)) ∧ Reader w0 w' R (N + 1) ∧ Below w0.heap.size w0 w' ∧ ∃ g, R = .pointer (some ⟨g, 0, none⟩) ∧ w.grownBy w' (some g)
theorem Reader.stored {w0 w : World} {g p N : Nat} {bsv : Value} {bs : List Int} {n : Int} (hg : w0.heap.size ≤ g) (hblk : w.heap[g]? = some (.cells #[bsv, .int .i64 p] 126 (0, 0))) (hr : RdBytes w0 bsv bs) (hlen : bs.length ≤ 2000) (hp : p ≤ N) (hb : Below w0.heap.size w0 w) :
 ∀ (k : Nat) (x : Int), 0 ≤ x → (0 < n → x < n) → (n ≤ 0 → x = 0) → Picked w0 w (.pointer (some ⟨g, 0, none⟩)) N n (.returned (.int .i64 x)) ((w.setCell ⟨g, 1, none⟩ (.int .i64 (p + 1))).drewN k) := by
 intro k x h1 h2 h3
 refine ⟨x, rfl, ⟨h1, h2, h3⟩, ⟨g, bsv, bs, p + 1, rfl, hg, ?_, hr, hlen, by omega⟩, below_drewN (hb.setCell hg _) k, g, rfl, ?_⟩
 ·have := heap_setCell_same w g 1 #[bsv, .int .i64 p] 126 (.int .i64 (p + 1)) hblk
  simpa using this
 ·refine ⟨rfl, rfl, rfl, by simp [World.drewN], fun b hb' hne => ?_⟩
  exact heap_setCell_other w ⟨g, 1, none⟩ b _ (fun e => hne (by simp [e]))
set_option maxHeartbeats 1000000 in
theorem pick_any (w0 : World) (R : Value) (N : Nat) (n : Int) (w : World) (h : Reader w0 w R N) (hb : Below w0.heap.size w0 w) (hN : N ≤ 1000000) (hn : n ≤ 1000000) :
 Calls Tryz.prog 32 #[R, .int .i64 n] w (Picked w0 w R N n) := by
 obtain ⟨g, bsv, bs, p, rfl, hg, hblk, hR, hlen, hp⟩ := h
 have S := Lib.hid (Reader.stored (n := n) hg hblk hR hlen hp hb)
 have c0 : w.cell? ⟨g, 0, none⟩ = some bsv := cell_of_row w g 0 _ _ _ hblk
 have c1 : w.cell? ⟨g, 1, none⟩ = some (.int .i64 p) := cell_of_row w g 1 _ _ _ hblk
 have f1 : w.frozen? ⟨g, 1, none⟩ = false := frozen_of_row w g 1 _ _ hblk
 clear hblk
 by_cases h1 : n < 1
 ·go_enter Tryz.func32, Tryz.ntmps32
  go_wp2
  go_ret
  exact S.out 0 0 (by omega) (by omega) (by omega)
 obtain ⟨a, c, hv, hc, hcm, hA⟩ := hR.open
 subst hv
 unfold maxLen at hcm
 by_cases h2 : bs.length = 0
 ·have h2' : ((bs.length : Int) == 0) = true := by simp [h2]
  clear h2
  go_enter Tryz.func32, Tryz.ntmps32
  go_wp2
  go_ret
  exact S.out 0 0 (by omega) (by omega) (by omega)
 have h2' : ((bs.length : Int) == 0) = false := by simp [h2]
 have h2'' : 0 < bs.length := by omega
 clear h2
 by_cases h3 : p < bs.length
 ·obtain ⟨b, off, rfl, D0, hb0, hb1⟩ := hA.at h3
  have hbl := World.block_lt_of_cell? w0 _ D0
  have D : w.cell? ⟨b, off + p, none⟩ = some (.int .u8 (nth bs p)) := (hb.cell hbl).trans D0
  clear D0 hA
  have hne : b ≠ g := by
   rintro rfl
   simp at hbl
   omega
  clear hbl
  go_enter Tryz.func32, Tryz.ntmps32
  go_wp2
  go_ret
  exact S.out 0 _ (Int.emod_nonneg _ (by omega)) (fun _ => Int.emod_lt_of_pos _ (by omega)) (by omega)
 ·have m1 : (p : Int).tmod bs.length = (p : Int) % bs.length := Int.tmod_eq_emod_of_nonneg (by omega)
  have m2 : 0 ≤ (p : Int) % bs.length := Int.emod_nonneg _ (by omega)
  have m3 : (p : Int) % bs.length < bs.length := Int.emod_lt_of_pos _ (by omega)
  have m4 : ((p : Int) % bs.length).toNat = p % bs.length := by rw [show (p : Int) % bs.length = ((p % bs.length : Nat) : Int) from rfl, Int.toNat_natCast]
  have q1 : 0 ≤ (p : Int) / bs.length := Int.ediv_nonneg (by omega) (by omega)
  have q2 : (p : Int) / bs.length ≤ p := Int.ediv_le_self _ (by omega)
  have s1 : IntKind.i64.wrap ((p : Int) * 7) = p * 7 := IntWalk.i64_in _ (by omega)
  have s2 : IntKind.i64.wrap ((p : Int) * 7 + 3) = p * 7 + 3 := IntWalk.i64_in _ (by omega)
  have k1 : ((p : Int) * 7 + 3).tmod bs.length = ((p : Int) * 7 + 3) % bs.length := Int.tmod_eq_emod_of_nonneg (by omega)
  have k2 : 0 ≤ ((p : Int) * 7 + 3) % bs.length := Int.emod_nonneg _ (by omega)
  have k3 : ((p : Int) * 7 + 3) % bs.length < bs.length := Int.emod_lt_of_pos _ (by omega)
  have k4 : (((p : Int) * 7 + 3) % bs.length).toNat = (p * 7 + 3) % bs.length := by rw [show ((p : Int) * 7 + 3) % bs.length = (((p * 7 + 3) % bs.length : Nat) : Int) by push_cast; rfl, Int.toNat_natCast]
  have hl1 : p % bs.length < bs.length := Nat.mod_lt _ h2''
  have hl2 : (p * 7 + 3) % bs.length < bs.length := Nat.mod_lt _ h2''
  obtain ⟨b, off, rfl, D0, hb0, hb1⟩ := hA.at hl1
  obtain ⟨b', off', hbb, E0, hc0, hc1⟩ := hA.at hl2
  obtain ⟨rfl, rfl⟩ : b = b' ∧ off = off' := by simpa using hbb
  clear hbb hA
  have hbl := World.block_lt_of_cell? w0 _ D0
  have D : w.cell? ⟨b, off + p % bs.length, none⟩ = some (.int .u8 (nth bs (p % bs.length))) := (hb.cell hbl).trans D0
  have E : w.cell? ⟨b, off + (p * 7 + 3) % bs.length, none⟩ = some (.int .u8 (nth bs ((p * 7 + 3) % bs.length))) := (hb.cell (p := ⟨b, off + (p * 7 + 3) % bs.length, none⟩) hbl).trans E0
  clear D0 E0
  have hne : b ≠ g := by
   rintro rfl
   simp at hbl
   omega
  clear hbl
  go_enter Tryz.func32, Tryz.ntmps32
  go_wp2
  go_quiet (fail)
  have x0 : 0 ≤ nth bs (p % bs.length) * 131 + nth bs ((p * 7 + 3) % bs.length) * 1117 + (p : Int) * 29 + (p : Int) / bs.length * 53 := by omega
  have x1 : nth bs (p % bs.length) * 131 + nth bs ((p * 7 + 3) % bs.length) * 1117 + (p : Int) * 29 + (p : Int) / bs.length * 53 ≤ 1000000000 := by omega
  generalize nth bs (p % bs.length) * 131 + nth bs ((p * 7 + 3) % bs.length) * 1117 + (p : Int) * 29 + (p : Int) / bs.length * 53 = X at x0 x1 ⊢
  go_wp2
  go_ret
  have y0 := xor_nonneg x0 (by omega : X ≤ 1000000000)
  exact S.out _ _ (Int.tmod_nonneg _ y0) (fun hn0 => by rw [Int.tmod_eq_emod_of_nonneg y0]; exact Int.emod_lt_of_pos _ hn0) (by omega)
def Opened (w : World) (e : Ending) (w' : World) : Prop := ∃ R, e = .returned R ∧ Reader w w' R 0 ∧ Below w.heap.size w w'
theorem RdBytes.take {w : World} {a : Option Addr} {c : Nat} {bs : List Int} (h : RdBytes w (.slice a bs.length c) bs) (k : Nat) (hk : k ≤ bs.length) : RdBytes w (.slice a k c) (bs.take k) := by
 obtain ⟨⟨a', cap, hv, hnc, hcm, hl, hnil, hc⟩, hby⟩ := h
 simp only [Value.slice.injEq, true_and] at hv
 obtain ⟨rfl, rfl⟩ := hv
 have e : (bs.take k).length = k := by rw [List.length_take]; omega
 refine ⟨⟨a, c, by rw [e], by omega, hcm, by simp, hnil, fun hn => ?_⟩, fun b hb => hby b (List.mem_of_mem_take hb)⟩
 rw [e] at hn ⊢
 obtain ⟨b, off, rfl, hcell⟩ := hc (by omega)
 refine ⟨b, off, rfl, fun j hj => ?_⟩
 rw [hcell j (by omega), List.map_take, List.getElem?_take, if_pos (by omega)]
theorem Reader.opened {w : World} {bsv : Value} {bs : List Int} (h : RdBytes w bsv bs) (hl : bs.length ≤ 2000) : Opened w (.returned (.pointer (some ⟨w.heap.size, 0, none⟩))) (w.alloc (.cells #[bsv, .int .i64 0] 126)) :=
 ⟨_, rfl, ⟨_, bsv, bs, 0, rfl, Nat.le_refl _, heap_alloc_new w _, h, hl, Nat.le_refl _⟩, (Below.refl _ _).alloc (Nat.le_refl _) _⟩
set_option maxHeartbeats 400000 in
theorem l6Open_any (v : Value) (bs : List Int) (w : World) (h : RdBytes w v bs) :
 Calls Tryz.prog 29 #[v] w (Opened w) := by
 obtain ⟨a, c, hv, hc, hcm, hA⟩ := h.open
 subst hv
 unfold maxLen at hcm
 by_cases hl : bs.length ≤ 2000
 ·have S := Lib.hid (Reader.opened h hl)
  have hl' : ¬ (2000 < bs.length) := by omega
  clear hl hA
  go_enter Tryz.func29, Tryz.ntmps29
  go_wp2
  go_ret
  exact S.out
 ·have S := Lib.hid (Reader.opened (h.take 2000 (by omega)) (by rw [List.length_take]; omega))
  have hl' : 2000 < bs.length := by omega
  have hl2 : 2000 ≤ c := by omega
  obtain ⟨b, off, rfl, _⟩ := hA.at (k := 0) (by omega)
  clear hl hA
  go_enter Tryz.func29, Tryz.ntmps29
  go_wp2
  go_ret
  exact S.out
theorem Reader.lt {w0 w : World} {R : Value} {N : Nat} (h : Reader w0 w R N) : ∃ g, R = .pointer (some ⟨g, 0, none⟩) ∧ g < w.heap.size := by
 obtain ⟨g, bsv, bs, p, rfl, hg, hblk, _⟩ := h
 exact ⟨g, rfl, (Array.getElem?_eq_some_iff.1 hblk).1⟩
theorem Reader.keep {w0 w w' : World} {R : Value} {N : Nat} (h : Reader w0 w R N) (hb : Below w.heap.size w w') : Reader w0 w' R N := by
 obtain ⟨g, bsv, bs, p, rfl, hg, hblk, hr⟩ := h
 exact ⟨g, bsv, bs, p, rfl, hg, (hb.block g (Array.getElem?_eq_some_iff.1 hblk).1).trans hblk, hr⟩
theorem Reader.kept {w0 w w' : World} {R : Value} {N lo : Nat} (h : Reader w0 w R N) {g : Nat} (hR : R = .pointer (some ⟨g, 0, none⟩)) (hlt : g < lo) (hb : Below lo w w') : Reader w0 w' R N := by
 obtain ⟨g', bsv, bs, p, rfl, hg, hblk, hr⟩ := h
 obtain rfl : g' = g := by simpa using hR
 exact ⟨g', bsv, bs, p, rfl, hg, (hb.block g' hlt).trans hblk, hr⟩
theorem Reader.mono {w0 w : World} {R : Value} {N M : Nat} (h : Reader w0 w R N) (hm : N ≤ M) : Reader w0 w R M := by
 obtain ⟨g, bsv, bs, p, e1, hg, hblk, hr, hl, hp⟩ := h
 exact ⟨g, bsv, bs, p, e1, hg, hblk, hr, hl, Nat.le_trans hp hm⟩
theorem ownsRow_pick {lo : Nat} {w w' : World} {v : Value} {e sz n : Nat} {xs : List Value} {g : Nat} (h : w.ownsRow lo e sz v n xs) (hg : w.grownBy w' (some g)) (hlt : g < lo) : w'.ownsRow lo e sz v n xs := by
 refine World.ownsRow.kept h hg ?_
 cases hv : v.ownBlock with
 | none => exact .inl rfl
 | some k =>
  have := (h.lt k hv).1
  refine .inr fun e => ?_
  simp at e
  omega
def Drawing (w0 : World) (lo g N : Nat) (o : Value) (xs : List Int) (w : World) : Prop :=
 g < lo ∧ lo ≤ w.heap.size ∧ w0.heap.size ≤ lo ∧ Reader w0 w (.pointer (some ⟨g, 0, none⟩)) N ∧ Below w0.heap.size w0 w ∧ OwnInts lo w o xs
theorem Drawing.pick {w0 w w' : World} {lo g N : Nat} {o : Value} {xs : List Int} {n : Int} {e : Ending} (h : Drawing w0 lo g N o xs w) (hp : Picked w0 w (.pointer (some ⟨g, 0, none⟩)) N n e w') :
 ∃ x : Int, e = .returned (.int .i64 x) ∧ 0 ≤ x ∧ (0 < n → x < n) ∧ Drawing w0 lo g (N + 1) o xs w' ∧ w.grownBy w' (some g) := by
 obtain ⟨h1, h2, h3, h4, h5, h6⟩ := h
 obtain ⟨x, rfl, ⟨hx1, hx2, hx3⟩, hr, hb1, g1, hg1, hgr⟩ := hp
 obtain rfl : g = g1 := by simpa using hg1
 exact ⟨x, rfl, hx1, hx2, ⟨h1, Nat.le_trans h2 hgr.size, h3, hr, hb1, ownsRow_pick h6 hgr h1⟩, hgr⟩
theorem Drawing.append {w0 w w' : World} {lo g N : Nat} {o o' : Value} {xs : List Int} {x : Int} (h : Drawing w0 lo g N o xs w) (hb : Below lo w w') (ho : w'.ownsRow lo 3 1 o' (xs.length + 1) (xs.map (Value.int .i64) ++ [.int .i64 x])) : Drawing w0 lo g N o' (xs ++ [x]) w' := by
 obtain ⟨h1, h2, h3, h4, h5, h6⟩ := h
 refine ⟨h1, Nat.le_trans h2 hb.size, h3, h4.kept rfl h1 hb, h5.trans (hb.mono h3), ?_⟩
 simpa [OwnInts] using ho
theorem Drawing.step {w0 w w' : World} {lo g N : Nat} {o : Value} {xs : List Int} (h : Drawing w0 lo g N o xs w) (hb : Below w.heap.size w w') : Drawing w0 lo g N o xs w' := by
 obtain ⟨h1, h2, h3, h4, h5, h6⟩ := h
 exact ⟨h1, Nat.le_trans h2 hb.size, h3, h4.keep hb, h5.trans (hb.mono (Nat.le_trans h3 h2)), h6.below hb⟩
theorem Drawing.alloc {w0 w : World} {lo g N : Nat} {o : Value} {xs : List Int} (h : Drawing w0 lo g N o xs w) (ob : Obj) : Drawing w0 lo g N o xs (w.alloc ob) := h.step ((Below.refl _ _).alloc (Nat.le_refl _) _)
theorem Drawing.set {w0 w : World} {lo g N : Nat} {q cap a : Nat} {xs : List Int} {x : Int} (h : Drawing w0 lo g N (.slice (some ⟨q, 0, none⟩) xs.length cap) xs w) : Drawing w0 lo g N (.slice (some ⟨q, 0, none⟩) xs.length cap) (xs.set a x) (w.setCell ⟨q, a, none⟩ (.int .i64 x)) := by
 obtain ⟨h1, h2, h3, h4, h5, h6⟩ := h
 have hq := (h6.lt q rfl).1
 have S := World.ownsRow.stored h6 a (.int .i64 x)
 have hb : Below lo w (w.setCell ⟨q, a, none⟩ (.int .i64 x)) := (Below.refl _ _).setCell hq _
 exact ⟨h1, Nat.le_trans h2 hb.size, h3, h4.kept rfl h1 hb, h5.trans (hb.mono h3), own_set S.1⟩
theorem Drawing.mono {w0 w : World} {lo g N M : Nat} {o : Value} {xs : List Int} (h : Drawing w0 lo g N o xs w) (hm : N ≤ M) : Drawing w0 lo g M o xs w := by
 obtain ⟨h1, h2, h3, h4, h5, h6⟩ := h
 exact ⟨h1, h2, h3, h4.mono hm, h5, h6⟩
def flat {α : Type} (cs : α → List Value) (xs : List α) : List Value := xs.flatMap cs
theorem flat_cons {α : Type} (cs : α → List Value) (x : α) (xs : List α) : flat cs (x :: xs) = cs x ++ flat cs xs := rfl
theorem flat_append {α : Type} (cs : α → List Value) (xs ys : List α) : flat cs (xs ++ ys) = flat cs xs ++ flat cs ys := List.flatMap_append
theorem flat_one {α : Type} (cs : α → List Value) (x : α) : flat cs [x] = cs x := by simp [flat]
theorem flat_len {α : Type} {cs : α → List Value} {sz : Nat} (hs : ∀ x, (cs x).length = sz) (xs : List α) : (flat cs xs).length = xs.length * sz := by
 induction xs with
 | nil => simp [flat]
 | cons x xs ih => rw [flat_cons, List.length_append, hs, ih, List.length_cons, Nat.succ_mul]; omega
theorem flat_at {α : Type} {cs : α → List Value} {sz : Nat} (hs : ∀ x, (cs x).length = sz) {xs : List α} {k : Nat} {x : α} (h : xs[k]? = some x) {j : Nat} (hj : j < sz) : (flat cs xs)[k * sz + j]? = (cs x)[j]? := by
 induction xs generalizing k with
 | nil => simp at h
 | cons y ys ih =>
  cases k with
  | zero =>
   simp only [List.getElem?_cons_zero, Option.some.injEq] at h
   subst h
   rw [flat_cons, List.getElem?_append_left (by rw [hs]; omega)]
   simp
  | succ k =>
   rw [List.getElem?_cons_succ] at h
   rw [flat_cons, List.getElem?_append_right (by rw [hs, Nat.succ_mul]; omega), hs, ← ih h]
   congr 1
   rw [Nat.succ_mul]
   omega
def AtF {α : Type} (sz : Nat) (cs : α → List Value) (w : World) (a : Option Addr) (xs : List α) : Prop :=
 ∀ (k : Nat) x, xs[k]? = some x → ∃ b off, a = some ⟨b, off, none⟩ ∧ b < w.heap.size ∧ ∀ (j : Nat) u, (cs x)[j]? = some u → w.cell? ⟨b, off + k * sz + j, none⟩ = some u
theorem AtF.below {α : Type} {sz : Nat} {cs : α → List Value} {w w' : World} {a : Option Addr} {xs : List α} (h : AtF sz cs w a xs) (hb : Below w.heap.size w w') : AtF sz cs w' a xs := by
 intro k x hk
 obtain ⟨b, off, rfl, hlt, hc⟩ := h k x hk
 exact ⟨b, off, rfl, Nat.lt_of_lt_of_le hlt hb.size, fun j u hu => (hb.cell (p := ⟨b, off + k * sz + j, none⟩) hlt).trans (hc j u hu)⟩
theorem AtF.of {α : Type} {sz : Nat} {cs : α → List Value} (hs : ∀ x, (cs x).length = sz) (hsz : 0 < sz) {w : World} {a : Option Addr} {n c : Nat} {xs : List α} (h : Rd w (.slice a n c) sz xs.length (flat cs xs)) : AtF sz cs w a xs := by
 obtain ⟨a', cap, hv, hnc, hcm, hl, _, hc⟩ := h
 simp only [Value.slice.injEq] at hv
 obtain ⟨rfl, rfl, rfl⟩ := hv
 intro k x hk
 have hlt := (List.getElem?_eq_some_iff.1 hk).1
 obtain ⟨b, off, rfl, hcell⟩ := hc (by omega)
 have key : ∀ (j : Nat) u, (cs x)[j]? = some u → w.cell? ⟨b, off + k * sz + j, none⟩ = some u := by
  intro j u hu
  have hj : j < sz := by rw [← hs x]; exact (List.getElem?_eq_some_iff.1 hu).1
  have hm : k * sz + sz ≤ xs.length * sz := by rw [← Nat.succ_mul]; exact Nat.mul_le_mul_right _ hlt
  rw [Nat.add_assoc, hcell (k * sz + j) (by omega), flat_at hs hk hj, hu]
 refine ⟨b, off, rfl, ?_, key⟩
 have h0 : (cs x)[0]? = some ((cs x)[0]'(by rw [hs]; omega)) := List.getElem?_eq_getElem _
 exact World.block_lt_of_cell? w _ (key 0 _ h0)
theorem Rd.shape {w : World} {v : Value} {sz n : Nat} {xs : List Value} (h : Rd w v sz n xs) : ∃ a cap, v = .slice a n cap ∧ n ≤ cap ∧ cap ≤ maxLen := by
 obtain ⟨a, cap, rfl, hnc, hcm, _⟩ := h
 exact ⟨a, cap, rfl, hnc, hcm⟩
theorem wp_makeN {w : World} {ops : Array Oper} {rest : List Oper} {o : Oper} {a : Act} {Q : Exit → Act → World → Prop} {l : Operand} {t : TypeId} {n : Nat}
 (hg : o.guard = none) (hop : o.op = Op.makeSlice t l l) (e : TypeId) (z : Value) (sz bytes : Nat) (h1 : Tryz.prog.underlying t = some (.slice e))
 (h2 : (Tryz.prog.info? e).map (fun i => (i.zero, i.size, i.bytes)) = some (some z, sz, bytes))
 (hl : a.eval l = .int .i64 n) (b2 : bytes * n ≤ 281474976710656) (b3 : n ≤ maxLen)
 (hK : ∀ w', w'.ownsRow w.heap.size e sz (.slice (some ⟨w.heap.size, 0, none⟩) n n) n (madeCells z.cells (n * sz)).toList → Below w.heap.size w w' → w.heap.size < w'.heap.size →
  wpList Tryz.prog ops Q rest (a.put o.dst (.slice (some ⟨w.heap.size, 0, none⟩) n n)) w') : wpList Tryz.prog ops Q (o :: rest) a w := by
 obtain ⟨i0, hi, hz0, hz1, hz2⟩ := info_parts h2
 refine wpList_make_full w hg l l t hop w.heap.size e i0 z sz h1 hi hz0 hz1 .i64 .i64 n n n hl hl rfl rfl (by rw [hz2]; exact b2) b3 (Nat.le_refl _) fun w' h h' => ?_
 exact hK w' h (Below.of_grown h') (h.lt _ rfl).2
def setMany (w : World) (g o : Nat) : Nat → List Value → World
 | _, [] => w
 | j, u :: us => setMany (w.setCell ⟨g, o + j, none⟩ u) g o (j + 1) us
def setList (xs : List Value) (o : Nat) : Nat → List Value → List Value
 | _, [] => xs
 | j, u :: us => setList (xs.set (o + j) u) o (j + 1) us
theorem setList_mid (A B C us : List Value) (j : Nat) (hB : B.length = us.length) (o : Nat) (ho : A.length = o + j) : setList (A ++ B ++ C) o j us = A ++ us ++ C := by
 induction us generalizing A B j with
 | nil => simp at hB; subst hB; simp [setList]
 | cons u us ih =>
  cases B with
  | nil => simp at hB
  | cons b B =>
   rw [setList, ← ho]
   have e : (A ++ b :: B ++ C).set A.length u = (A ++ [u]) ++ B ++ C := by simp [List.set_append_right]
   rw [e, ih (A ++ [u]) B (j + 1) (by simpa using hB) (by simp; omega)]
   simp
theorem setMany_own {w : World} {lo e sz g n cap : Nat} {xs : List Value} (h : w.ownsRow lo e sz (.slice (some ⟨g, 0, none⟩) n cap) n xs) (o j : Nat) (us : List Value) :
 (setMany w g o j us).ownsRow lo e sz (.slice (some ⟨g, 0, none⟩) n cap) n (setList xs o j us) ∧ w.grownBy (setMany w g o j us) (some g) := by
 induction us generalizing w xs j with
 | nil => exact ⟨h, ⟨rfl, rfl, rfl, Nat.le_refl _, fun _ _ _ => rfl⟩⟩
 | cons u us ih =>
  obtain ⟨s1, s2⟩ := World.ownsRow.stored h (o + j) u
  obtain ⟨t1, t2⟩ := ih s1 (j + 1)
  exact ⟨t1, ⟨t2.os.trans s2.os, t2.tape.trans s2.tape, t2.output.trans s2.output, Nat.le_trans s2.size t2.size, fun b hb hne => (t2.block b (Nat.lt_of_lt_of_le hb s2.size) hne).trans (s2.block b hb hne)⟩⟩
theorem take_one {α : Type} {xs : List α} {k : Nat} {x : α} (h : xs[k]? = some x) : xs.take (k + 1) = xs.take k ++ [x] := by
 obtain ⟨hlt, rfl⟩ := List.getElem?_eq_some_iff.1 h
 exact List.take_succ_eq_append_getElem hlt
theorem flat_set {α : Type} {cs : α → List Value} {sz : Nat} (hs : ∀ x, (cs x).length = sz) {xs : List α} {k : Nat} (hk : k < xs.length) (y : α) : setList (flat cs xs) (k * sz) 0 (cs y) = flat cs (xs.set k y) := by
 have e1 : xs = xs.take k ++ [xs[k]] ++ xs.drop (k + 1) := by simp
 have e2 : xs.set k y = xs.take k ++ [y] ++ xs.drop (k + 1) := by
  rw [List.set_eq_take_append_cons_drop, if_pos hk]; simp
 rw [e2]
 conv => lhs; rw [e1]
 rw [flat_append, flat_append, flat_append, flat_append, flat_one, flat_one]
 exact setList_mid _ _ _ _ 0 (by rw [hs, hs]) _ (by rw [flat_len hs, List.length_take]; congr 1; omega)
def OwnSome (w : World) (lo e sz g n cap : Nat) (wr : World) : Prop := ∃ cs : List Value, wr.ownsRow lo e sz (.slice (some ⟨g, 0, none⟩) n cap) n cs ∧ w.grownBy wr (some g)
theorem OwnSome.set {w wr : World} {lo e sz g n cap : Nat} (h : OwnSome w lo e sz g n cap wr) (j : Nat) (u : Value) : OwnSome w lo e sz g n cap (wr.setCell ⟨g, j, none⟩ u) := by
 obtain ⟨cs, h1, h2⟩ := h
 obtain ⟨s1, s2⟩ := World.ownsRow.stored h1 j u
 exact ⟨_, s1, s2.os.trans h2.os, s2.tape.trans h2.tape, s2.output.trans h2.output, Nat.le_trans h2.size s2.size, fun b hb hne => (s2.block b (Nat.lt_of_lt_of_le hb h2.size) hne).trans (h2.block b hb hne)⟩
theorem OwnSome.below {w wr w1 : World} {lo e sz g n cap : Nat} (h : OwnSome w lo e sz g n cap wr) (hb : Below wr.heap.size wr w1) : OwnSome w lo e sz g n cap w1 := by
 obtain ⟨cs, h1, h2⟩ := h
 exact ⟨_, ownsRow_below h1 hb, hb.os.trans h2.os, hb.tape.trans h2.tape, hb.output.trans h2.output, Nat.le_trans h2.size hb.size, fun b hb' hne => (hb.block b (Nat.lt_of_lt_of_le hb' h2.size)).trans (h2.block b hb' hne)⟩
theorem OwnSome.cell {w wr : World} {lo e sz g n cap : Nat} (h : OwnSome w lo e sz g n cap wr) (j : Nat) (hj : j < n * sz) : ∃ u, wr.cell? ⟨g, j, none⟩ = some u := by
 obtain ⟨cs, h1, h2⟩ := h
 have hl := h1.1
 exact ⟨_, (h1.cellAt j hj).trans (List.getElem?_eq_getElem (by omega))⟩
theorem OwnSome.frozen {w wr : World} {lo e sz g n cap : Nat} (h : OwnSome w lo e sz g n cap wr) (j : Nat) : wr.frozen? ⟨g, j, none⟩ = false := h.choose_spec.1.frozenAt j
theorem below1 (w : World) (a : Obj) : Below w.heap.size w (w.alloc a) := (Below.refl _ _).alloc (Nat.le_refl _) _
theorem below2 (w : World) (a b : Obj) : Below w.heap.size w ((w.alloc a).alloc b) := (below1 w a).alloc (by simp) _
theorem below3 (w : World) (a b c : Obj) : Below w.heap.size w (((w.alloc a).alloc b).alloc c) := (below2 w a b).alloc (by simp; omega) _
theorem below4 (w : World) (a b c d : Obj) : Below w.heap.size w ((((w.alloc a).alloc b).alloc c).alloc d) := (below3 w a b c).alloc (by simp; omega) _
theorem bcell {W w1 : World} (hb : Below W.heap.size W w1) : (∀ b o, b < W.heap.size → w1.cell? ⟨b, o, none⟩ = W.cell? ⟨b, o, none⟩) ∧ (∀ b o, b < W.heap.size → w1.frozen? ⟨b, o, none⟩ = W.frozen? ⟨b, o, none⟩) :=
 ⟨fun b o h => hb.cell (p := ⟨b, o, none⟩) h, fun b o h => hb.frozen (p := ⟨b, o, none⟩) h⟩
theorem wp_appendL {lo : Nat} {w : World} {ops : Array Oper} {rest : List Oper} {o : Oper} {a : Act} {Q : Exit → Act → World → Prop} {s x : Operand} {t : TypeId}
 (hgd : o.guard = none) (ho : o.op = .call { callee := .builtin .append, args := #[s, x], argTypes := #[t, t] })
 (e : TypeId) (z : Value) (sz bytes : Nat) (ht : Tryz.prog.underlying t = some (.slice e)) (hi : (Tryz.prog.info? e).map (fun i => (i.zero, i.size, i.bytes)) = some (some z, sz, bytes))
 (hzs : z.cells.size = sz) (hsz : 0 < sz) {v u : Value} {n m : Nat} {xs news : List Value} (hs : a.eval s = v) (hown : w.ownsRow lo e sz v n xs)
 (hx : a.eval x = u) (hr : Rd w u sz m news) (h1 : ∀ u ∈ news, u.oneCell' = true) (h63 : n + m ≤ maxLen) (hbytes : (n + m) * bytes ≤ 140737488355328) (hlo : lo ≤ w.heap.size)
 (hK : ∀ v' w', w'.ownsRow lo e sz v' (n + m) (xs ++ news) → w.grownBy w' v.ownBlock → (v'.ownBlock = v.ownBlock ∨ v'.ownBlock = some w.heap.size) → Below lo w w' → wpList Tryz.prog ops Q rest (a.put o.dst v') w') : wpList Tryz.prog ops Q (o :: rest) a w := by
 obtain ⟨i0, hi0, hz0, hz1, hz2⟩ := info_parts hi
 obtain ⟨ao, c, rfl, hmc, hcm, hl, hnil, hc⟩ := hr
 have hbel : ∀ w', w.grownBy w' v.ownBlock → Below lo w w' := fun w' hg => (Below.refl lo w).grown hg hlo (fun k hk => (hown.lt k hk).1)
 cases ao with
 | none =>
  have hc0 := hnil rfl
  subst hc0
  obtain rfl : m = 0 := by omega
  have hnews : news = [] := List.eq_nil_of_length_eq_zero (by simpa using hl)
  subst hnews
  refine wpList_append_own_none hgd s x t ho lo e i0 sz ht hi0 v n xs hs hown hx ?_
  exact hK v w (by simpa using hown) ⟨rfl, rfl, rfl, Nat.le_refl _, fun _ _ _ => rfl⟩ (.inl rfl) (Below.refl _ _)
 | some ad =>
  refine wpList_append_own_at w hgd s x t ho lo e i0 z sz bytes ht hi0 hz0 hz1 hz2 hzs hsz v n xs hs hown ad m c news hx hl ?_ h1 h63 hbytes hlo (fun v' w' h2 h3 _ h5 => hK v' w' h2 h3 h5 (hbel w' h3))
  intro j u hu
  rcases Nat.eq_zero_or_pos m with rfl | hm
  ·simp at hl
   simp [hl] at hu
  ·obtain ⟨b, off, had, hcell⟩ := hc hm
   obtain rfl : ad = ⟨b, off, none⟩ := by simpa using had
   have hj : j < news.length := (List.getElem?_eq_some_iff.1 hu).1
   have hadd : (⟨b, off, none⟩ : Addr).add j = ⟨b, off + j, none⟩ := by unfold Addr.add; split <;> simp_all
   rw [hadd, hcell j (by omega), hu]
theorem Rd.newsAt (w : World) (cs : Array Value) (e : TypeId) (sz n g : Nat) (hg : g = w.heap.size) (hs : cs.size = n * sz) (hn : n ≤ maxLen) : Rd (w.alloc (.cells cs e)) (.slice (some ⟨g, 0, none⟩) n n) sz n cs.toList := by
 subst hg; exact Rd.news w cs e sz n hs hn
theorem own_grown {lo e sz n : Nat} {w w' : World} {v : Value} {xs : List Value} {row : Option Nat} (h : w.ownsRow lo e sz v n xs) (hg : w.grownBy w' row) (hne : v.ownBlock = none ∨ v.ownBlock ≠ row) : w'.ownsRow lo e sz v n xs := World.ownsRow.kept h hg hne
theorem own_loV {lo lo' e sz n : Nat} {w : World} {v : Value} {xs : List Value} (h : w.ownsRow lo e sz v n xs) (hl : lo' ≤ lo) : w.ownsRow lo' e sz v n xs := by
 refine ⟨h.1, ?_⟩
 rcases h.2 with h' | ⟨g, cap, cur, rfl, hb, rest⟩
 ·exact .inl h'
 ·exact .inr ⟨g, cap, cur, rfl, Nat.le_trans hl hb, rest⟩
theorem grown_trans {w w' w'' : World} {row : Option Nat} (h : w.grownBy w' row) (h' : w'.grownBy w'' row) : w.grownBy w'' row :=
 ⟨h'.os.trans h.os, h'.tape.trans h.tape, h'.output.trans h.output, Nat.le_trans h.size h'.size, fun b hb hne => (h'.block b (Nat.lt_of_lt_of_le hb h.size) hne).trans (h.block b hb hne)⟩
theorem grown_below {w w' : World} (h : Below w.heap.size w w') (row : Option Nat) : w.grownBy w' row := ⟨h.os, h.tape, h.output, h.size, fun b hb _ => h.block b hb⟩
def Apart (v1 v2 : Value) : Prop := ∀ k, v1.ownBlock = some k → v2.ownBlock ≠ some k
theorem Apart.symm {v1 v2 : Value} (h : Apart v1 v2) : Apart v2 v1 := fun k h1 h2 => h k h2 h1
theorem Apart.ne {v1 v2 : Value} (h : Apart v1 v2) : v1.ownBlock = none ∨ v1.ownBlock ≠ v2.ownBlock := by
 cases hv : v1.ownBlock with
 | none => exact .inl rfl
 | some k => exact .inr fun e => h k hv e.symm
theorem Apart.grown {v v' u : Value} {B : Nat} (h : Apart v u) (hv : v'.ownBlock = v.ownBlock ∨ v'.ownBlock = some B) (hu : ∀ k, u.ownBlock = some k → k < B) : Apart v' u := by
 intro k hk hu'
 rcases hv with e | e
 ·exact h k (e ▸ hk) hu'
 ·rw [e] at hk
  cases hk
  exact absurd (hu _ hu') (Nat.lt_irrefl _)
theorem Tryz.mixed : Tryz.prog.follows .mixedOrders = true := by kernel_rfl
section
variable {P : Program}
def dstOf (l : List Oper) (i : Nat) : Nat := ((l[i]?).bind (·.dst)).getD 0
def fillAt (l : List Oper) (is : List Nat) (vs : Nat → Value) (b : Array Value) : Array Value := is.foldl (fun b i => b.setIfInBounds (dstOf l i) (vs i)) b
def postsB (l : List Oper) (n : Nat) : Bool :=
 decide (n < l.length) && Region.sinkB .any l.toArray n && Region.chainB .any l.toArray n &&
 ((List.range n).all fun i => match l[i]? with | some o => o.dst.isSome | none => false) &&
 ((List.range n).all fun i => (List.range n).all fun j => i == j || dstOf l i != dstOf l j) &&
 Region.seqB .any l.toArray (l.length - n) n (Array.ofFn (n := l.length) fun i => decide (i.val < n)) &&
 ((List.range l.length).all fun j => match l[j]? with | some o => o.after.all fun e => !Region.binds .any e || decide (e.on < j) | none => false)
def upd (L : Nat → Bool) (i : Nat) : Nat → Bool := fun j => if j = i then true else L j
theorem upd_no {L : Nat → Bool} {i j : Nat} (h : upd L i j = false) : L j = false := by
 unfold upd at h
 split at h
 ·cases h
 ·exact h
def Does (P : Program) (l : List Oper) (o : Oper) (a : Act) (w : World) (K : Act → World → Prop) (Q : Exit → Act → World → Prop) : Prop :=
 (Region.wanted o (yielded l.toArray a.tmps) = true → Oper.wp P o a w K Q) ∧ (Region.wanted o (yielded l.toArray a.tmps) = false → K (a.put o.dst undef) w)
theorem Does.of {P : Program} {l : List Oper} {o : Oper} {a : Act} {w : World} {K : Act → World → Prop} {Q : Exit → Act → World → Prop} (hg : o.guard = none) (h : Oper.wp P o a w K Q) : Does P l o a w K Q :=
 ⟨fun _ => h, fun hw => by simp [Region.wanted, hg] at hw⟩
theorem yield_at {l : List Oper} {tmps : Array Value} {g d : Nat} {b : Bool} (hd : (l[g]?).bind (·.dst) = some d) (hv : tmps[d]?.getD undef = .bool b) : yielded l.toArray tmps g = some b := by
 have h : (l.toArray[g]?).bind (·.dst) = some d := by simpa using hd
 cases hx : tmps[d]? with
 | none => rw [hx] at hv; simp [undef] at hv
 | some x =>
  rw [hx] at hv
  simp at hv
  subst hv
  unfold yielded
  rw [h, Option.bind_some, hx]
theorem Does.yes {P : Program} {l : List Oper} {o : Oper} {a : Act} {w : World} {K : Act → World → Prop} {Q : Exit → Act → World → Prop} {g d : Nat} {b : Bool} (hg : o.guard = some (g, b)) (hd : (l[g]?).bind (·.dst) = some d) (hv : a.tmps[d]?.getD undef = .bool b) (h : Oper.wp P o a w K Q) : Does P l o a w K Q :=
 ⟨fun _ => h, fun hw => by simp [Region.wanted, hg, yield_at hd hv] at hw⟩
theorem Does.no {P : Program} {l : List Oper} {o : Oper} {a : Act} {w : World} {K : Act → World → Prop} {Q : Exit → Act → World → Prop} {g d : Nat} {b : Bool} (hg : o.guard = some (g, b)) (hd : (l[g]?).bind (·.dst) = some d) (hv : a.tmps[d]?.getD undef = .bool (!b)) (h : K (a.put o.dst undef) w) : Does P l o a w K Q :=
 ⟨fun hw => by rw [Region.wanted, hg] at hw; simp only [yield_at hd hv] at hw; cases b <;> simp at hw, fun _ => h⟩
theorem eval_tmp {a : Act} {t : Nat} {v : Value} (h : a.tmps[t]?.getD undef = v) : a.eval (.tmp t) = v := by
 show a.tmps.getD t undef = v
 rw [Array.getD_eq_getD_getElem?]
 exact h
theorem wp_append_run {P : Program} {o : Oper} {a : Act} {w w' : World} {K : Act → World → Prop} {Q : Exit → Act → World → Prop} {s x : Operand} {t : TypeId} (ho : o.op = .call { callee := .builtin .append, args := #[s, x], argTypes := #[t, t] })
 {v u v' : Value} (hs : a.eval s = v) (hx : a.eval x = u) (hrun : (Builtin.append_ #[t, t] o.type #[v, u]).run P w = .ok v' w') (h : K (a.put o.dst v') w') : Oper.wp P o a w K Q := by
 unfold Oper.wp execOp
 simp only [ho, resolve, invoke, builtin, Sem.run_bind, Sem.run_pure, Result.andThen_ok, List.map_toArray, List.map_cons, List.map_nil, hs, hx, hrun]
 exact h
structure PostInv (l : List Oper) (n : Nat) (a0 : Act) (R : Nat → Value → World → Prop) (G : (Nat → Bool) → World → Prop) (listed : Array Bool) (a : Act) (w : World) : Prop where
 head : HeadInv .any l.toArray n listed
 defers : a.defers = a0.defers
 size : a.tmps.size = a0.tmps.size
 base : ∀ t, (∀ i, i < n → dstOf l i ≠ t) → a.tmps[t]? = a0.tmps[t]?
 post : ∀ i, i < n → listed.getD i false = true → R i (a.tmps.getD (dstOf l i) undef) w
 glob : G (fun j => listed.getD j false) w
theorem getD_set_self {listed : Array Bool} {i : Nat} (h : i < listed.size) (d : Bool) : (listed.setIfInBounds i true).getD i d = true := by
 simp [h]
theorem PostInv.wpAny {l : List Oper} {n : Nat} {a0 : Act} {R : Nat → Value → World → Prop} {G : (Nat → Bool) → World → Prop} {Q : Exit → Act → World → Prop}
 (hB : postsB l n = true) (hdst : ∀ i, i < n → dstOf l i < a0.tmps.size)
 (hstep : ∀ i, i < n → ∀ o, l[i]? = some o → ∀ a w, a.defers = a0.defers → a.tmps.size = a0.tmps.size → (∀ t, (∀ i, i < n → dstOf l i ≠ t) → a.tmps[t]? = a0.tmps[t]?) →
  (∀ j, Region.waitsFor .any l.toArray i j = true → R j (a.tmps.getD (dstOf l j) undef) w) → ∀ L : Nat → Bool, L i = false → (∀ j, Region.waitsFor .any l.toArray i j = true → L j = true) → (∀ j j', L j = true → Region.waitsFor .any l.toArray j j' = true → L j' = true) → G L w →
  ∀ K : Act → World → Prop, (∀ v w', R i v w' → G (upd L i) w' → (∀ j u, j ≠ i → j < n → L j = true → R j u w → R j u w') → K (a.put o.dst v) w') → Does P l o a w K Q)
 (htail : ∀ a w, a.defers = a0.defers → a.tmps.size = a0.tmps.size → (∀ t, (∀ i, i < n → dstOf l i ≠ t) → a.tmps[t]? = a0.tmps[t]?) →
  (∀ i, i < n → R i (a.tmps.getD (dstOf l i) undef) w) → ∀ L : Nat → Bool, (∀ i, i < n → L i = true) → G L w → wpList P l.toArray Q (l.drop n) a w) :
 ∀ (f : Nat) (listed : Array Bool) (a : Act) (w : World), f = (l.length - n) + ((List.range n).filter fun i => !listed.getD i false).length → PostInv l n a0 R G listed a w → Go.wpAny P .any l.toArray Q f listed a w := by
 simp only [postsB, Bool.and_eq_true, decide_eq_true_eq] at hB
 obtain ⟨⟨⟨⟨⟨⟨hn, hs⟩, hc⟩, hg⟩, hdis⟩, hseq⟩, hback⟩ := hB
 have hgd : ∀ i, i < n → ∃ o d, l[i]? = some o ∧ o.dst = some d ∧ dstOf l i = d := by
  intro i hi
  have := List.all_eq_true.1 hg i (List.mem_range.2 hi)
  cases ho : l[i]? with
  | none => rw [ho] at this; cases this
  | some o =>
   rw [ho] at this
   simp only [Option.isSome_iff_exists] at this
   obtain ⟨d, h2⟩ := this
   exact ⟨o, d, rfl, h2, by simp [dstOf, ho, h2]⟩
 have hne : ∀ i j, i < n → j < n → i ≠ j → dstOf l i ≠ dstOf l j := by
  intro i j hi hj hij
  have := List.all_eq_true.1 (List.all_eq_true.1 hdis i (List.mem_range.2 hi)) j (List.mem_range.2 hj)
  simpa [hij] using this
 have hn' : n < l.toArray.size := by simpa using hn
 intro f
 induction f with
 | zero => intro listed a w hf _; omega
 | succ f ih =>
  intro listed a w hf inv
  by_cases hall : ∀ i, i < n → listed.getD i false = true
  ·have hlisted : listed = Array.ofFn (n := l.length) fun i => decide (i.val < n) := by
    have hsz : listed.size = l.length := by have := inv.head.size; simpa using this
    apply Array.ext
    ·simp [hsz]
    ·intro i h1 h2
     simp only [Array.getElem_ofFn]
     by_cases hi : i < n
     ·have := hall i hi
      simp [h1] at this
      simp [hi, this]
     ·have := inv.head.tail i (by omega) (by simpa [hsz] using h1)
      simp [h1] at this
      simp [hi, this]
   have h0 : ((List.range n).filter fun i => !listed.getD i false) = [] := by
    rw [List.filter_eq_nil_iff]
    intro i hi
    simp [hall i (List.mem_range.1 hi)]
   have hT := htail a w inv.defers inv.size inv.base (fun i hi => inv.post i hi (hall i hi)) _ hall inv.glob
   have hW := wpAny_of_seq (P := P) (md := .any) (ops := l.toArray) (Q' := Q) (l.drop n) n listed a w (fun j => by simp [List.getElem?_drop]) (by rw [hlisted]; simpa using hseq) hT
   have e : (l.drop n).length = f + 1 := by rw [h0] at hf; simp at hf ⊢; omega
   rw [e] at hW
   exact hW
  ·obtain ⟨i0, hi0⟩ := Classical.not_forall.1 hall
   obtain ⟨hi0n, hi0l⟩ := Classical.not_imp.1 hi0
   have hi0f : listed.getD i0 false = false := by simpa using hi0l
   have hsz : listed.size = l.length := by have := inv.head.size; simpa using this
   have hi0t : listed.getD i0 true = false := getD_in (by omega) hi0f
   refine ⟨fun hr => ?_, fun i hi => ?_⟩
   ·exfalso
    have : ∀ k, k ≤ l.length → ∀ i, i < k → i < n → listed.getD i true = false → False := by
     intro k
     induction k with
     | zero => intro _ i hi; omega
     | succ k ihk =>
      intro hk i hik hin hun
      have hnr : i ∉ Region.ready .any l.toArray listed := by rw [hr]; simp
      obtain ⟨o, d, ho, _, _⟩ := hgd i hin
      apply hnr
      rw [mem_ready]
      refine ⟨hun, o, by simpa using ho, fun e he hb => ?_⟩
      have hlt : e.on < i := by
       have := List.all_eq_true.1 hback i (List.mem_range.2 (by omega))
       rw [ho] at this
       simpa [hb] using Array.all_eq_true'.1 this e he
      cases hx : listed.getD e.on false with
      | true => rfl
      | false => exact (ihk (by omega) e.on (by omega) (by omega) (getD_in (by omega) hx)).elim
    exact this l.length (Nat.le_refl _) i0 (by omega) hi0n hi0t
   ·have hin : i < n := by
     rcases Nat.lt_or_ge i n with h | h
     ·exact h
     ·exact absurd hi (tail_waits hs hc hn' inv.head _ i0 rfl hi0n hi0t i h)
    obtain ⟨o, d, ho, hod, hdo⟩ := hgd i hin
    obtain ⟨hun, o', ho', hdep⟩ := mem_ready.1 hi
    obtain rfl : o' = o := by
     have : l[i]? = some o' := by simpa using ho'
     rw [ho] at this
     exact (Option.some.inj this).symm
    have hdeps : ∀ j, Region.waitsFor .any l.toArray i j = true → R j (a.tmps.getD (dstOf l j) undef) w := by
     intro j hj
     obtain ⟨oj, hoj, e, he, hb, rfl⟩ := Region.waitsFor_spec hj
     obtain rfl : oj = o' := Option.some.inj (hoj.symm.trans ho')
     have hlt : e.on < i := by
      have := List.all_eq_true.1 hback i (List.mem_range.2 (by omega))
      rw [ho] at this
      simpa [hb] using Array.all_eq_true'.1 this e he
     exact inv.post e.on (by omega) (hdep e he hb)
    unfold Go.wpOp
    rw [ho']
    have hlis : ∀ j, Region.waitsFor .any l.toArray i j = true → listed.getD j false = true := by
     intro j hj
     obtain ⟨oj, hoj, e, he, hb, rfl⟩ := Region.waitsFor_spec hj
     obtain rfl : oj = o' := Option.some.inj (hoj.symm.trans ho')
     exact hdep e he hb
    suffices H : ∀ K : Act → World → Prop, (∀ v w', R i v w' → G (upd (fun j => listed.getD j false) i) w' → (∀ j u, j ≠ i → j < n → listed.getD j false = true → R j u w → R j u w') → K (a.put o'.dst v) w') → Does P l o' a w K Q by
     have hK := H (Go.wpAny P .any l.toArray Q f (listed.setIfInBounds i true)) ?_
     ·cases hwt : Region.wanted o' (yielded l.toArray a.tmps) with
      | true => dsimp only; rw [hwt, if_pos rfl]; exact .inl (hK.1 hwt)
      | false => dsimp only; rw [hwt, if_neg Bool.false_ne_true]; exact hK.2 hwt
     ·intro v w' hR hG' hkeep
      have hcount : f = (l.length - n) + ((List.range n).filter fun k => !(listed.setIfInBounds i true).getD k false).length := by
       have hone : ((List.range n).filter fun k => !listed.getD k false).length = ((List.range n).filter fun k => !(listed.setIfInBounds i true).getD k false).length + 1 := by
        have hmem : i ∈ (List.range n).filter fun k => !listed.getD k false := by
         rw [List.mem_filter]
         exact ⟨List.mem_range.2 hin, by simp [getD_both hun]⟩
        have hnd : ((List.range n).filter fun k => !listed.getD k false).Nodup := List.nodup_range.filter _
        have he : ((List.range n).filter fun k => !(listed.setIfInBounds i true).getD k false) = ((List.range n).filter fun k => !listed.getD k false).erase i := by
         rw [hnd.erase_eq_filter, List.filter_filter]
         refine List.filter_congr fun k hk => ?_
         by_cases hki : k = i
         ·subst hki
          simp [getD_set_self (show k < listed.size by omega)]
         ·rw [getD_set_ne false (Ne.symm hki)]
          simp [hki]
        rw [he, List.length_erase_of_mem hmem]
        have := List.length_pos_of_mem hmem
        omega
       omega
      refine ih _ _ _ hcount ⟨inv.head.set hi hin, ?_, ?_, ?_, ?_, ?_⟩
      ·rw [hod]; exact inv.defers
      ·rw [hod]; simpa [Act.put] using inv.size
      ·intro t ht
       rw [hod]
       simp only [Act.put]
       rw [Array.getElem?_setIfInBounds_ne (by rw [← hdo]; exact ht i hin)]
       exact inv.base t ht
      ·intro j hj hjl
       rw [hod]
       simp only [Act.put]
       by_cases hji : j = i
       ·subst hji
        rw [hdo]
        have : d < a.tmps.size := by rw [← hdo, inv.size]; exact hdst j hj
        simpa [this] using hR
       ·have hjl' : listed.getD j false = true := by rwa [getD_set_ne false (Ne.symm hji)] at hjl
        have h1 := hkeep j _ hji hj hjl' (inv.post j hj hjl')
        have e : (a.tmps.setIfInBounds d v).getD (dstOf l j) undef = a.tmps.getD (dstOf l j) undef := by
         have : d ≠ dstOf l j := by rw [← hdo]; exact hne i j hin hj (Ne.symm hji)
         simp only [Array.getD_eq_getD_getElem?]
         rw [Array.getElem?_setIfInBounds_ne this]
        rw [e]
        exact h1
      ·have eL : (fun j => (listed.setIfInBounds i true).getD j false) = upd (fun j => listed.getD j false) i := by
        funext j
        unfold upd
        by_cases hji : j = i
        ·subst hji
         rw [if_pos rfl, getD_set_self (by omega)]
        ·rw [if_neg hji, getD_set_ne false (Ne.symm hji)]
       rw [eL]
       exact hG'
    have hclo : ∀ j j', listed.getD j false = true → Region.waitsFor .any l.toArray j j' = true → listed.getD j' false = true := by
     intro j j' hj hw
     obtain ⟨oj, hoj, e, he, hb, rfl⟩ := Region.waitsFor_spec hw
     exact inv.head.closed j oj hoj hj e he hb
    exact fun K hK => hstep i hin o' ho a w inv.defers inv.size inv.base hdeps _ (getD_both hun) hlis hclo inv.glob K hK
theorem fillAt_eq (l : List Oper) : ∀ (is : List Nat) (b c : Array Value), c.size = b.size → (∀ t, (∀ i, i ∈ is → dstOf l i ≠ t) → c[t]? = b[t]?) →
 c = fillAt l is (fun i => c.getD (dstOf l i) undef) b := by
 intro is
 induction is with
 | nil =>
  intro b c hs h
  exact Array.ext_getElem? fun t => h t (fun i hi => by cases hi)
 | cons i is ih =>
  intro b c hs h
  show c = fillAt l is _ (b.setIfInBounds (dstOf l i) (c.getD (dstOf l i) undef))
  refine ih _ c (by simpa using hs) fun t ht => ?_
  by_cases hti : dstOf l i = t
  ·subst hti
   rcases Nat.lt_or_ge (dstOf l i) c.size with h' | h'
   ·have : dstOf l i < b.size := by omega
    simp [h', this]
   ·have : b.size ≤ dstOf l i := by omega
    simp [h', this]
  ·rw [Array.getElem?_setIfInBounds_ne hti]
   exact h t fun j hj => by
    rcases List.mem_cons.1 hj with rfl | hj
    ·exact hti
    ·exact ht j hj
def dstB (l : List Oper) (n N : Nat) : Bool := (List.range n).all fun i => decide (dstOf l i < N)
theorem wp_region_posts {id : Nat} {Q : Exit → Act → World → Prop} {a0 : Act} {w0 : World} {l : List Oper} (n : Nat) (hm : P.follows .mixedOrders = true) (hB : postsB l n = true)
 (N : Nat) (hN : a0.tmps.size = N) (hD : dstB l n N = true) (R : Nat → Value → World → Prop) (G : (Nat → Bool) → World → Prop) (hG : G (fun _ => false) { w0 with drawn := w0.drawn + 1 })
 (hstep : ∀ i, i < n → ∀ o, l[i]? = some o → ∀ a w, Hid (a.defers = a0.defers ∧ a.tmps.size = a0.tmps.size ∧ ∀ t, (∀ i, i < n → dstOf l i ≠ t) → a.tmps[t]? = a0.tmps[t]?) →
  Hid (∀ j, Region.waitsFor .any l.toArray i j = true → R j (a.tmps[dstOf l j]?.getD undef) w) → ∀ L : Nat → Bool, Hid (L i = false ∧ (∀ j, Region.waitsFor .any l.toArray i j = true → L j = true) ∧ ∀ j j', L j = true → Region.waitsFor .any l.toArray j j' = true → L j' = true) → G L w →
  ∀ K : Act → World → Prop, Hid (∀ v w', R i v w' → G (upd L i) w' → (∀ j u, j ≠ i → j < n → L j = true → R j u w → R j u w') → K (a.put o.dst v) w') → Does P l o a w K Q)
 (htail : ∀ (vs : Nat → Value) w, (∀ i, i < n → R i (vs i) w) → ∀ L : Nat → Bool, (∀ i, i < n → L i = true) → G L w → wpList P l.toArray Q (l.drop n) { a0 with tmps := fillAt l (List.range n) vs a0.tmps } w) :
 (Code.region id l.toArray true).wp P Q a0 w0 := by
 have hdst : ∀ i, i < n → dstOf l i < a0.tmps.size := fun i hi => by
  have := List.all_eq_true.1 hD i (List.mem_range.2 hi)
  rw [hN]
  simpa using this
 refine wp_region_any hm ?_
 refine PostInv.wpAny (a0 := a0) (R := R) (G := G) hB hdst (fun i hi o ho a w h1 h2 h3 h4 L h6 h7 h8 h5 K hK => hstep i hi o ho a w (Lib.hid ⟨h1, h2, h3⟩) (Lib.hid fun j hj => by have := h4 j hj; rwa [Array.getD_eq_getD_getElem?] at this) L (Lib.hid ⟨h6, h7, h8⟩) h5 K (Lib.hid hK)) (fun a w h1 h2 h3 h4 L h6 h5 => ?_) _ _ _ _ ?_ ⟨⟨by simp, fun j oj _ hl => (by rw [getD_replicate_false] at hl; cases hl), fun t _ ht => getD_in (by simpa using ht) (getD_replicate_false _ _)⟩, rfl, rfl, fun _ _ => rfl, fun i _ hl => (by rw [getD_replicate_false] at hl; cases hl), (show G (fun j => (Array.replicate l.toArray.size false).getD j false) _ from (funext fun j => getD_replicate_false _ _ : (fun j => (Array.replicate l.toArray.size false).getD j false) = fun _ => false) ▸ hG)⟩
 ·have e := fillAt_eq l (List.range n) a0.tmps a.tmps h2 (fun t ht => h3 t fun i hi => ht i (List.mem_range.2 hi))
  have := htail (fun i => a.tmps.getD (dstOf l i) undef) w h4 L h6 h5
  rw [← e] at this
  obtain ⟨tm, df⟩ := a
  dsimp only at h1 this
  subst h1
  exact this
 ·have hn : n < l.length := by
   simp only [postsB, Bool.and_eq_true, decide_eq_true_eq] at hB
   exact hB.1.1.1.1.1.1
  have : ((List.range n).filter fun i => !(Array.replicate l.toArray.size false).getD i false) = List.range n := by
   rw [List.filter_eq_self]
   intro i _
   rw [getD_replicate_false]
   rfl
  rw [this]
  simp
  omega
end
def infoCs (x : InfoV) : List Value := [.int .i64 x.k, .string x.g, .int .i64 x.r]
theorem infoCs_len (x : InfoV) : (infoCs x).length = 3 := rfl
def InfoV.val (x : InfoV) : Value := .agg #[.int .i64 x.k, .string x.g, .int .i64 x.r]
def cachedCs (x : CachedV) : List Value := [.int .i64 x.e, .int .i64 x.p, .int .i64 x.f, .bool x.w]
theorem cachedCs_len (x : CachedV) : (cachedCs x).length = 4 := rfl
def CachedV.val (x : CachedV) : Value := .agg #[.int .i64 x.e, .int .i64 x.p, .int .i64 x.f, .bool x.w]
def strCs (s : ByteArray) : List Value := [.string s]
theorem strCs_len (s : ByteArray) : (strCs s).length = 1 := rfl
def oneCs (v : Value) : List Value := [v]
theorem oneCs_len (v : Value) : (oneCs v).length = 1 := rfl
def pairCs (p : Value × Int) : List Value := [p.1, .int .i64 p.2]
theorem pairCs_len (p : Value × Int) : (pairCs p).length = 2 := rfl
def RdF {α : Type} (sz : Nat) (cs : α → List Value) (w : World) (v : Value) (xs : List α) : Prop := Rd w v sz xs.length (flat cs xs)
def OwnF {α : Type} (lo e sz : Nat) (cs : α → List Value) (w : World) (v : Value) (xs : List α) : Prop := w.ownsRow lo e sz v xs.length (flat cs xs)
section
variable {α : Type} {sz lo e : Nat} {cs : α → List Value} {w w' : World} {v : Value} {xs : List α}
theorem RdF.below (h : RdF sz cs w v xs) (hb : Below w.heap.size w w') : RdF sz cs w' v xs := Rd.below h hb
theorem OwnF.rd (h : OwnF lo e sz cs w v xs) : RdF sz cs w v xs := Rd.of_owns h
theorem OwnF.below (h : OwnF lo e sz cs w v xs) (hb : Below w.heap.size w w') : OwnF lo e sz cs w' v xs := ownsRow_below h hb
theorem OwnF.grown {row : Option Nat} (h : OwnF lo e sz cs w v xs) (hg : w.grownBy w' row) (hne : v.ownBlock = none ∨ v.ownBlock ≠ row) : OwnF lo e sz cs w' v xs := own_grown h hg hne
theorem OwnF.lower {lo' : Nat} (h : OwnF lo e sz cs w v xs) (hl : lo' ≤ lo) : OwnF lo' e sz cs w v xs := own_loV h hl
theorem RdF.shape (h : RdF sz cs w v xs) : ∃ a cap, v = .slice a xs.length cap ∧ xs.length ≤ cap ∧ cap ≤ maxLen := Rd.shape h
theorem RdF.open (hs : ∀ x, (cs x).length = sz) (hsz : 0 < sz) (h : RdF sz cs w v xs) : ∃ a cap, v = .slice a xs.length cap ∧ xs.length ≤ cap ∧ cap ≤ maxLen ∧ AtF sz cs w a xs := by
 obtain ⟨a, cap, rfl, h1, h2⟩ := Rd.shape h
 exact ⟨a, cap, rfl, h1, h2, AtF.of hs hsz h⟩
end
abbrev RdInfos (w : World) (v : Value) (xs : List InfoV) : Prop := RdF 3 infoCs w v xs
abbrev RdCache (w : World) (v : Value) (xs : List CachedV) : Prop := RdF 4 cachedCs w v xs
abbrev RdStrs (w : World) (v : Value) (xs : List ByteArray) : Prop := RdF 1 strCs w v xs
def Both {α β : Type} (R : α → β → Prop) (xs : List α) (ys : List β) : Prop := xs.length = ys.length ∧ ∀ (i : Nat) x y, xs[i]? = some x → ys[i]? = some y → R x y
theorem Both.mono {α β : Type} {R S : α → β → Prop} {xs : List α} {ys : List β} (h : Both R xs ys) (hRS : ∀ x y, R x y → S x y) : Both S xs ys := ⟨h.1, fun i x y hx hy => hRS _ _ (h.2 i x y hx hy)⟩
theorem Both.nil {α β : Type} {R : α → β → Prop} : Both R [] [] := ⟨rfl, fun i x y h => by simp at h⟩
theorem Both.snoc {α β : Type} {R : α → β → Prop} {xs : List α} {ys : List β} {x : α} {y : β} (h : Both R xs ys) (hxy : R x y) : Both R (xs ++ [x]) (ys ++ [y]) := by
 refine ⟨by simp [h.1], fun i a b ha hb => ?_⟩
 by_cases hi : i < xs.length
 ·rw [List.getElem?_append_left hi] at ha
  rw [List.getElem?_append_left (by rw [← h.1]; exact hi)] at hb
  exact h.2 i a b ha hb
 ·have h1 := (List.getElem?_eq_some_iff.1 ha).1
  simp at h1
  obtain rfl : i = xs.length := by omega
  simp at ha
  rw [h.1] at hb
  simp at hb
  subst ha hb
  exact hxy
def RdRows (w : World) (v : Value) (xss : List (List Int)) : Prop := ∃ vs, RdF 1 oneCs w v vs ∧ Both (RdInts w) vs xss
def RdTexts (w : World) (v : Value) (tss : List (List ByteArray)) : Prop := ∃ vs, RdF 1 oneCs w v vs ∧ Both (RdStrs w) vs tss
def RdEnvs (w : World) (v : Value) (es : List EnvV) : Prop := ∃ ps, RdF 2 pairCs w v ps ∧ Both (fun p e => RdStrs w p.1 e.rights ∧ p.2 = e.root) ps es
def RdK (w : World) (m i e c : Value) (k : KernV) : Prop := RdRows w m k.mem ∧ RdInfos w i k.infos ∧ RdEnvs w e k.envs ∧ RdCache w c k.cache
section
variable {w w' : World} {v : Value}
theorem RdRows.below {xss : List (List Int)} (h : RdRows w v xss) (hb : Below w.heap.size w w') : RdRows w' v xss := by
 obtain ⟨vs, h1, h2⟩ := h
 exact ⟨vs, h1.below hb, h2.mono fun _ _ h => RdInts.below h hb⟩
theorem RdTexts.below {tss : List (List ByteArray)} (h : RdTexts w v tss) (hb : Below w.heap.size w w') : RdTexts w' v tss := by
 obtain ⟨vs, h1, h2⟩ := h
 exact ⟨vs, h1.below hb, h2.mono fun _ _ h => RdF.below h hb⟩
theorem RdEnvs.below {es : List EnvV} (h : RdEnvs w v es) (hb : Below w.heap.size w w') : RdEnvs w' v es := by
 obtain ⟨ps, h1, h2⟩ := h
 exact ⟨ps, h1.below hb, h2.mono fun _ _ h => ⟨RdF.below h.1 hb, h.2⟩⟩
theorem RdK.below {m i e c : Value} {k : KernV} (h : RdK w m i e c k) (hb : Below w.heap.size w w') : RdK w' m i e c k := ⟨h.1.below hb, h.2.1.below hb, h.2.2.1.below hb, h.2.2.2.below hb⟩
end
def AllApart (vs : List Value) : Prop := ∀ (i j : Nat) u u', i ≠ j → vs[i]? = some u → vs[j]? = some u' → Apart u u'
theorem AllApart.nil : AllApart [] := fun i j u u' _ h => by simp at h
theorem AllApart.snoc {vs : List Value} {v : Value} (h : AllApart vs) (hv : ∀ u ∈ vs, Apart u v) : AllApart (vs ++ [v]) := by
 intro i j u u' hij hi hj
 have h1 := (List.getElem?_eq_some_iff.1 hi).1
 have h2 := (List.getElem?_eq_some_iff.1 hj).1
 simp at h1 h2
 by_cases hi' : i < vs.length
 ·rw [List.getElem?_append_left hi'] at hi
  by_cases hj' : j < vs.length
  ·rw [List.getElem?_append_left hj'] at hj
   exact h i j u u' hij hi hj
  ·obtain rfl : j = vs.length := by omega
   simp at hj
   subst hj
   exact hv u (List.mem_of_getElem? hi)
 ·obtain rfl : i = vs.length := by omega
  simp at hi
  subst hi
  rw [List.getElem?_append_left (by omega)] at hj
  exact (hv u' (List.mem_of_getElem? hj)).symm
def OwnRows (lo : Nat) (w : World) (v : Value) (vs : List Value) (xss : List (List Int)) : Prop := OwnF lo 38 1 oneCs w v vs ∧ Both (OwnInts lo w) vs xss ∧ AllApart vs
def OwnEnvs (lo : Nat) (w : World) (v : Value) (ps : List (Value × Int)) (es : List EnvV) : Prop := OwnF lo 80 2 pairCs w v ps ∧ Both (fun p e => OwnF lo 9 1 strCs w p.1 e.rights ∧ p.2 = e.root) ps es ∧ AllApart (ps.map (·.1))
theorem OwnRows.rd {lo : Nat} {w : World} {v : Value} {vs : List Value} {xss : List (List Int)} (h : OwnRows lo w v vs xss) : RdRows w v xss := ⟨vs, h.1.rd, h.2.1.mono fun _ _ h => OwnInts.rd h⟩
theorem OwnEnvs.rd {lo : Nat} {w : World} {v : Value} {ps : List (Value × Int)} {es : List EnvV} (h : OwnEnvs lo w v ps es) : RdEnvs w v es := ⟨ps, h.1.rd, h.2.1.mono fun _ _ h => ⟨h.1.rd, h.2⟩⟩
theorem OwnRows.below {lo : Nat} {w w' : World} {v : Value} {vs : List Value} {xss : List (List Int)} (h : OwnRows lo w v vs xss) (hb : Below w.heap.size w w') : OwnRows lo w' v vs xss := ⟨h.1.below hb, h.2.1.mono fun _ _ h => OwnInts.below h hb, h.2.2⟩
theorem OwnEnvs.below {lo : Nat} {w w' : World} {v : Value} {ps : List (Value × Int)} {es : List EnvV} (h : OwnEnvs lo w v ps es) (hb : Below w.heap.size w w') : OwnEnvs lo w' v ps es := ⟨h.1.below hb, h.2.1.mono fun _ _ h => ⟨h.1.below hb, h.2⟩, h.2.2⟩
theorem OwnRows.lower {lo lo' : Nat} {w : World} {v : Value} {vs : List Value} {xss : List (List Int)} (h : OwnRows lo w v vs xss) (hl : lo' ≤ lo) : OwnRows lo' w v vs xss := ⟨h.1.lower hl, h.2.1.mono fun _ _ h => own_loV h hl, h.2.2⟩
theorem OwnEnvs.lower {lo lo' : Nat} {w : World} {v : Value} {ps : List (Value × Int)} {es : List EnvV} (h : OwnEnvs lo w v ps es) (hl : lo' ≤ lo) : OwnEnvs lo' w v ps es := ⟨h.1.lower hl, h.2.1.mono fun _ _ h => ⟨h.1.lower hl, h.2⟩, h.2.2⟩
theorem own_empty {α : Type} (cs : α → List Value) (w : World) (e sz : Nat) : OwnF w.heap.size e sz cs (w.alloc (.cells #[] e)) (.slice (some ⟨w.heap.size, 0, none⟩) 0 0) [] := ownsRow_empty w e sz
def OwnK (lo : Nat) (w : World) (m i e c : Value) (k : KernV) : Prop :=
 (∃ vs, OwnRows lo w m vs k.mem) ∧ OwnF lo 89 3 infoCs w i k.infos ∧ (∃ ps, OwnEnvs lo w e ps k.envs) ∧ OwnF lo 94 4 cachedCs w c k.cache
theorem OwnK.rd {lo : Nat} {w : World} {m i e c : Value} {k : KernV} (h : OwnK lo w m i e c k) : RdK w m i e c k := ⟨h.1.choose_spec.rd, h.2.1.rd, h.2.2.1.choose_spec.rd, h.2.2.2.rd⟩
theorem OwnK.below {lo : Nat} {w w' : World} {m i e c : Value} {k : KernV} (h : OwnK lo w m i e c k) (hb : Below w.heap.size w w') : OwnK lo w' m i e c k :=
 ⟨⟨_, h.1.choose_spec.below hb⟩, h.2.1.below hb, ⟨_, h.2.2.1.choose_spec.below hb⟩, h.2.2.2.below hb⟩
theorem own_type {w : World} {lo e sz n : Nat} {v : Value} {xs : List Value} (h : w.ownsRow lo e sz v n xs) : ∀ g, v.ownBlock = some g → ∃ cur, w.heap[g]? = some (.cells cur e (0, 0)) := by
 intro g hg
 rcases h.2 with ⟨rfl, _⟩ | ⟨g', cap, cur, rfl, _, hh, _⟩
 ·simp [Value.ownBlock] at hg
 ·simp [Value.ownBlock] at hg
  subst hg
  exact ⟨cur, hh⟩
theorem apart_type {w : World} {lo lo' e e' sz sz' n n' : Nat} {v v' : Value} {xs xs' : List Value} (h : w.ownsRow lo e sz v n xs) (h' : w.ownsRow lo' e' sz' v' n' xs') (hne : e ≠ e') : Apart v v' := by
 intro g hg hg'
 obtain ⟨c1, h1⟩ := own_type h g hg
 obtain ⟨c2, h2⟩ := own_type h' g hg'
 rw [h1] at h2
 simp at h2
 exact hne h2.2
theorem blk_cells4 {w : World} {g t : Nat} {m i e c : Value} (h : w.heap[g]? = some (.cells #[m, i, e, c] t (0, 0))) : w.cell? ⟨g, 0, none⟩ = some m ∧ w.cell? ⟨g, 1, none⟩ = some i ∧ w.cell? ⟨g, 2, none⟩ = some e ∧ w.cell? ⟨g, 3, none⟩ = some c :=
 ⟨cell_of_row w g 0 _ _ _ h, cell_of_row w g 1 _ _ _ h, cell_of_row w g 2 _ _ _ h, cell_of_row w g 3 _ _ _ h⟩
theorem blk_frozen {w : World} {g t : Nat} {cs : Array Value} (h : w.heap[g]? = some (.cells cs t (0, 0))) : ∀ j, w.frozen? ⟨g, j, none⟩ = false := fun j => frozen_of_row w g j _ _ h
theorem blk_lt {w : World} {g : Nat} {o : Obj} (h : w.heap[g]? = some o) : g < w.heap.size := (Array.getElem?_eq_some_iff.1 h).1
theorem blk_below {w w' : World} {g : Nat} {o : Obj} (h : w.heap[g]? = some o) (hb : Below w.heap.size w w') : w'.heap[g]? = some o := (hb.block g (blk_lt h)).trans h
theorem blk_set4 {w : World} {g t : Nat} {m i e c m' i' e' c' : Value} (h : w.heap[g]? = some (.cells #[m, i, e, c] t (0, 0))) :
 ((((w.setCell ⟨g, 0, none⟩ m').setCell ⟨g, 1, none⟩ i').setCell ⟨g, 2, none⟩ e').setCell ⟨g, 3, none⟩ c').heap[g]? = some (.cells #[m', i', e', c'] t (0, 0)) := by
 have h0 := heap_setCell_same w g 0 _ t m' h
 have h1 := heap_setCell_same _ g 1 _ t i' h0
 have h2 := heap_setCell_same _ g 2 _ t e' h1
 have h3 := heap_setCell_same _ g 3 _ t c' h2
 simpa using h3
theorem own_far {w w' : World} {lo e sz n g T : Nat} {v : Value} {xs : List Value} {cur : Array Value} {fr : Nat × Nat} (h : w.ownsRow lo e sz v n xs) (hg : w.grownBy w' (some g)) (hb : w.heap[g]? = some (.cells cur T fr)) (hne : e ≠ T) : w'.ownsRow lo e sz v n xs := by
 refine own_grown h hg ?_
 cases hv : v.ownBlock with
 | none => exact .inl rfl
 | some k =>
  refine .inr fun he => ?_
  simp only [Option.some.injEq] at he
  subst he
  obtain ⟨c1, h1⟩ := own_type h k hv
  rw [h1] at hb
  simp at hb
  exact hne hb.2.1
section
variable {w w' : World} {lo g T : Nat} {v : Value} {cur : Array Value} {fr : Nat × Nat}
theorem OwnF.far {α : Type} {e sz : Nat} {cs : α → List Value} {xs : List α} (h : OwnF lo e sz cs w v xs) (hg : w.grownBy w' (some g)) (hb : w.heap[g]? = some (.cells cur T fr)) (hne : e ≠ T) : OwnF lo e sz cs w' v xs := own_far h hg hb hne
theorem OwnRows.far {vs : List Value} {xss : List (List Int)} (h : OwnRows lo w v vs xss) (hg : w.grownBy w' (some g)) (hb : w.heap[g]? = some (.cells cur T fr)) (h1 : 38 ≠ T) (h2 : 3 ≠ T) : OwnRows lo w' v vs xss :=
 ⟨h.1.far hg hb h1, h.2.1.mono fun _ _ h => own_far h hg hb h2, h.2.2⟩
theorem OwnEnvs.far {ps : List (Value × Int)} {es : List EnvV} (h : OwnEnvs lo w v ps es) (hg : w.grownBy w' (some g)) (hb : w.heap[g]? = some (.cells cur T fr)) (h1 : 80 ≠ T) (h2 : 9 ≠ T) : OwnEnvs lo w' v ps es :=
 ⟨h.1.far hg hb h1, h.2.1.mono fun _ _ h => ⟨h.1.far hg hb h2, h.2⟩, h.2.2⟩
end
theorem OwnRows.kept {w w' : World} {lo lo' e sz n : Nat} {v u : Value} {vs xs : List Value} {xss : List (List Int)} (h : OwnRows lo w v vs xss) (hg : w.grownBy w' u.ownBlock) (hu : w.ownsRow lo' e sz u n xs) (h1 : 38 ≠ e) (h2 : 3 ≠ e) : OwnRows lo w' v vs xss :=
 ⟨own_grown h.1 hg (apart_type h.1 hu h1).ne, h.2.1.mono fun _ _ h => own_grown h hg (apart_type h hu h2).ne, h.2.2⟩
theorem grown_set (w : World) (g j : Nat) (u : Value) : w.grownBy (w.setCell ⟨g, j, none⟩ u) (some g) := ⟨rfl, rfl, rfl, by simp, fun k _ hk => heap_setCell_other w ⟨g, j, none⟩ k u (fun e => hk (by simp [e]))⟩
theorem grown_set' {w0 w : World} {g : Nat} (h : w0.grownBy w (some g)) (j : Nat) (u : Value) : w0.grownBy (w.setCell ⟨g, j, none⟩ u) (some g) := grown_trans h (grown_set w g j u)
theorem rightOk_bad {s : ByteArray} {k : Nat} (h : k < s.size) (hc : letterOk s[k] = false) : rightOk s = false := by
 have : s.data.toList.all letterOk = false := by
  rw [List.all_eq_false]
  exact ⟨s[k], by simp [ByteArray.getElem_eq_getElem_data], by simp [hc]⟩
 simp [rightOk, this]
theorem rightOk_good {s : ByteArray} (h : ∀ k (hk : k < s.size), letterOk s[k] = true) : rightOk s = decide ((s.size : Int) ≤ 4) := by
 have : s.data.toList.all letterOk = true := by
  rw [List.all_eq_true]
  intro x hx
  obtain ⟨k, hk, rfl⟩ := List.getElem_of_mem hx
  have := h k (by simpa using hk)
  simpa [ByteArray.getElem_eq_getElem_data] using this
 rw [rightOk, this, Bool.true_and]
 by_cases h4 : s.size ≤ 4
 ·have : (s.size : Int) ≤ 4 := by omega
  simp [h4, this]
 ·have : ¬ (s.size : Int) ≤ 4 := by omega
  simp [h4, this]
set_option maxHeartbeats 1000000 in
theorem RightValid_spec (s : ByteArray) (w : World) (hs : s.size ≤ maxLen) :
 Calls Tryz.prog 171 #[.string s] w fun e w' => e = .returned (.bool (rightOk s)) ∧ w = w' := by
 unfold maxLen at hs
 go_enter Tryz.func171, Tryz.ntmps171
 go_wp2_with fail
 go_loop [3] (fun i => ∃ k : Nat, k ≤ s.size ∧ i = .int .i64 k ∧ ∀ j (hj : j < s.size), j < k → letterOk s[j] = true) (fun i => s.size - (intOf i).toNat)
 case atStart => exact ⟨0, Nat.zero_le _, rfl, fun j _ hj => absurd hj (Nat.not_lt_zero _)⟩
 case round =>
  obtain ⟨k, hk, rfl, hpre⟩ := hrel
  have Hpre := Lib.hid hpre; clear hpre
  by_cases hlt : k < s.size
  ·by_cases h1 : s[k].toNat < 97
   ·have S := Lib.hid (rightOk_bad (s := s) hlt (by simp [letterOk]; omega))
    have t1 : (s[k].toNat : Int) < 97 := by omega
    go_wp2_with fail
    go_ret
    exact ⟨ret_bool S.out.symm, rfl⟩
   ·by_cases h2 : 99 < s[k].toNat
    ·have S := Lib.hid (rightOk_bad (s := s) hlt (by simp [letterOk]; omega))
     have t1 : (99 : Int) < s[k].toNat := by omega
     have t2 : ¬ (s[k].toNat : Int) < 97 := by omega
     go_wp2_with fail
     go_ret
     exact ⟨ret_bool S.out.symm, rfl⟩
    ·have Ok := Lib.hid (show letterOk s[k] = true by simp [letterOk]; omega)
     have t1 : ¬ (99 : Int) < s[k].toNat := by omega
     have t2 : ¬ (s[k].toNat : Int) < 97 := by omega
     go_wp2_with fail
     go_round
     case rel => exact ⟨k + 1, by omega, by go_num, fun j hj hjk => by
      rcases Nat.lt_succ_iff_lt_or_eq.1 hjk with h | h
      ·exact Hpre.out j hj h
      ·subst h; exact Ok.out⟩
     case measure => simp [intOf]; omega
  ·have S := Lib.hid (rightOk_good (s := s) (fun j hj => Hpre.out j hj (by omega)))
   go_wp2_with fail
   go_ret
   exact ⟨ret_bool S.out.symm, rfl⟩
theorem quiet_left {P : Program} {f : FuncId} {args : Array Value} {w : World} {n : Nat} {v : Value} (h : Calls P f args (w.drewN n) fun e w' => e = .returned v ∧ w.drewN n = w') : Calls P f args (w.drewN n) fun e w'' => e = .returned v ∧ ∃ m, w'' = w.drewN m :=
 h.mono fun _ _ ⟨he, hm⟩ => ⟨he, n, hm.symm⟩
theorem ex_drew {w wr : World} (h : ∃ n, wr = w.drewN n) (m : Nat) : ∃ n, wr.drewN m = w.drewN n := by
 obtain ⟨n, rfl⟩ := h
 exact ⟨n + m, drewN_drewN w n m⟩
theorem rightsOk_bad {ss : List ByteArray} {k : Nat} (h : k < ss.length) (hc : stepRight ss k = false) : rightsOk ss = false := by
 have : (List.range ss.length).all (stepRight ss) = false := List.all_eq_false.2 ⟨k, List.mem_range.2 h, by simp [hc]⟩
 simp [rightsOk, this]
theorem rightsOk_good {ss : List ByteArray} (h : ∀ k, k < ss.length → stepRight ss k = true) : rightsOk ss = decide ((ss.length : Int) ≤ 6) := by
 have : (List.range ss.length).all (stepRight ss) = true := List.all_eq_true.2 fun k hk => h k (List.mem_range.1 hk)
 rw [rightsOk, this, Bool.true_and]
 by_cases h4 : ss.length ≤ 6
 ·have : (ss.length : Int) ≤ 6 := by omega
  simp [h4, this]
 ·have : ¬ (ss.length : Int) ≤ 6 := by omega
  simp [h4, this]
theorem AtF.str {w : World} {a : Option Addr} {ss : List ByteArray} (h : AtF 1 strCs w a ss) {k : Nat} (hk : k < ss.length) : ∃ b off, a = some ⟨b, off, none⟩ ∧ w.cell? ⟨b, off + k, none⟩ = some (.string (nthS ss k)) := by
 obtain ⟨b, off, rfl, _, hc⟩ := h k _ (nthS_lt hk)
 exact ⟨b, off, rfl, by simpa using hc 0 _ rfl⟩
def SmallS (ss : List ByteArray) : Prop := ∀ s ∈ ss, s.size ≤ maxLen
theorem SmallS.nth {ss : List ByteArray} (h : SmallS ss) {k : Nat} (hk : k < ss.length) : (nthS ss k).size ≤ maxLen := h _ (List.mem_of_getElem? (nthS_lt hk))
set_option maxRecDepth 100000 in
set_option maxHeartbeats 2000000 in
theorem RightsValid_spec (v : Value) (ss : List ByteArray) (w : World) (h : RdStrs w v ss) (hs : SmallS ss) :
 Calls Tryz.prog 130 #[v] w fun e w' => e = .returned (.bool (rightsOk ss)) ∧ ∃ n, w' = w.drewN n := by
 obtain ⟨a, c, rfl, hc, hcm, H0⟩ := RdF.open strCs_len (by decide) h
 unfold maxLen at hcm
 have Hs := Lib.hid hs; clear hs h
 go_enter Tryz.func130, Tryz.ntmps130
 go_wp2_with fail
 go_loopw [3] (fun i wr => ∃ k : Nat, k ≤ ss.length ∧ i = .int .i64 k ∧ (∀ j, j < k → stepRight ss j = true) ∧ ∃ n, wr = w.drewN n) (fun i _ => ss.length - (intOf i).toNat)
 case atStart => exact ⟨0, Nat.zero_le _, rfl, fun j hj => absurd hj (Nat.not_lt_zero _), 0, rfl⟩
 case round =>
  obtain ⟨k, hk, rfl, hpre, hw⟩ := hrel
  have Hpre := Lib.hid hpre; clear hpre
  have Hw := Lib.hid hw; clear hw
  by_cases hlt : k < ss.length
  ·obtain ⟨b, off, rfl, D0⟩ := H0.str hlt
   have D : wr.cell? ⟨b, off + k, none⟩ = some (.string (nthS ss k)) := by obtain ⟨n, rfl⟩ := Hw.out; exact D0
   have hk1 : (k : Int) < ss.length := by omega
   have hsz := Hs.out.nth hlt
   cases hok : rightOk (nthS ss k)
   ·have S := Lib.hid (rightsOk_bad hlt (by simp [stepRight, hok]))
    have HQ := Lib.hid (show ∀ W, Calls Tryz.prog 171 #[.string (nthS ss k)] W fun e w' => e = .returned (.bool false) ∧ W = w' from fun W => by have := RightValid_spec (nthS ss k) W hsz; rwa [hok] at this)
    clear hok D0
    go_wp2_with fail
    go_quiet ((go_at_call 171; exact quiet_left (HQ.out _)))
    go_wp2_with fail
    go_ret
    exact ⟨ret_bool S.out.symm, ex_drew Hw.out _⟩
   ·have HQ := Lib.hid (show ∀ W, Calls Tryz.prog 171 #[.string (nthS ss k)] W fun e w' => e = .returned (.bool true) ∧ W = w' from fun W => by have := RightValid_spec (nthS ss k) W hsz; rwa [hok] at this)
    by_cases hk0 : k = 0
    ·have Ok := Lib.hid (show stepRight ss k = true by simp [stepRight, hok]; exact .inl hk0)
     have t0 : decide (0 < k) = false := by simp; omega
     clear hok hk0 D0
     go_wp2_with fail
     go_quiet ((go_at_call 171; exact quiet_left (HQ.out _)))
     go_wp2_with fail
     go_roundw
     case rel => exact ⟨k + 1, by omega, by go_num, forall_lt_succ Hpre.out Ok.out, ex_drew Hw.out _⟩
     case measure => simp [intOf]; omega
    ·obtain ⟨b', off', hbb, E0⟩ := H0.str (show k - 1 < ss.length by omega)
     obtain ⟨rfl, rfl⟩ : b = b' ∧ off = off' := by simpa using hbb
     have E : wr.cell? ⟨b, off + (k - 1), none⟩ = some (.string (nthS ss (k - 1))) := by obtain ⟨n, rfl⟩ := Hw.out; exact E0
     have t0 : decide (0 < k) = true := by simp; omega
     have t0' : (0 : Int) < k := by omega
     have s0 : IntKind.i64.wrap ((k : Int) - 1) = (k : Int) - 1 := IntWalk.i64_in _ (by omega)
     have s1 : ((k : Int) - 1).toNat = k - 1 := by omega
     have s2 : (k : Int) - 1 < ss.length := by omega
     have s3 : (1 : Int) ≤ k := by omega
     have s4 : (0 : Int) ≤ (k : Int) - 1 := by omega
     clear D0 E0 hbb
     cases hge : geB (nthS ss (k - 1)) (nthS ss k)
     ·have Ok := Lib.hid (show stepRight ss k = true by simp [stepRight, hok, hge])
      have hL : Op.bytesLess (nthS ss (k - 1)).toList (nthS ss k).toList = true := by simpa [geB] using hge
      clear hok hge
      go_wp2_with fail
      go_quiet ((go_at_call 171; exact quiet_left (HQ.out _)))
      go_wp2_with fail
      go_roundw
      case rel => exact ⟨k + 1, by omega, by go_num, forall_lt_succ Hpre.out Ok.out, ex_drew Hw.out _⟩
      case measure => simp [intOf]; omega
     ·have S := Lib.hid (rightsOk_bad hlt (by simp [stepRight, hok, hge, hk0]))
      have hL : Op.bytesLess (nthS ss (k - 1)).toList (nthS ss k).toList = false := by simpa [geB] using hge
      clear hok hge
      go_wp2_with fail
      go_quiet ((go_at_call 171; exact quiet_left (HQ.out _)))
      go_wp2_with fail
      go_ret
      exact ⟨ret_bool S.out.symm, ex_drew Hw.out _⟩
  ·have S := Lib.hid (rightsOk_good (ss := ss) (fun j hj => Hpre.out j (by omega)))
   go_wp2_with fail
   go_ret
   exact ⟨ret_bool S.out.symm, Hw.out⟩
def Dr (w0 : World) (g N : Nat) (w : World) : Prop := Reader w0 w (.pointer (some ⟨g, 0, none⟩)) N ∧ Below w0.heap.size w0 w ∧ w0.heap.size ≤ g ∧ g < w.heap.size
theorem Dr.of {w0 w : World} {R : Value} {N : Nat} (h : Reader w0 w R N) (hb : Below w0.heap.size w0 w) : ∃ g, R = .pointer (some ⟨g, 0, none⟩) ∧ Dr w0 g N w := by
 obtain ⟨g, bsv, bs, p, rfl, hg, hblk, hr⟩ := h
 exact ⟨g, rfl, ⟨g, bsv, bs, p, rfl, hg, hblk, hr⟩, hb, hg, (Array.getElem?_eq_some_iff.1 hblk).1⟩
theorem Dr.keep {w0 w w' : World} {g N : Nat} {row : Option Nat} (h : Dr w0 g N w) (hg : w.grownBy w' row) (h1 : row ≠ some g) (h2 : ∀ k, row = some k → w0.heap.size ≤ k) : Dr w0 g N w' := by
 obtain ⟨⟨g', bsv, bs, p, hR, hg', hblk, hr⟩, hb, hlo, hlt⟩ := h
 obtain rfl : g = g' := by simpa using hR
 exact ⟨⟨g, bsv, bs, p, rfl, hg', (hg.block g hlt (fun e => h1 e.symm)).trans hblk, hr⟩, hb.grown hg hb.size h2, hlo, Nat.lt_of_lt_of_le hlt hg.size⟩
theorem Dr.below {w0 w w' : World} {g N : Nat} (h : Dr w0 g N w) (hb : Below w.heap.size w w') : Dr w0 g N w' := h.keep (grown_below hb none) (by simp) (fun k hk => by cases hk)
theorem Dr.alloc {w0 w : World} {g N : Nat} (h : Dr w0 g N w) (o : Obj) : Dr w0 g N (w.alloc o) := h.below (below1 _ _)
theorem Dr.mono {w0 w : World} {g N M : Nat} (h : Dr w0 g N w) (hm : N ≤ M) : Dr w0 g M w := ⟨h.1.mono hm, h.2⟩
theorem Dr.set {w0 w : World} {g N b j : Nat} {u : Value} (h : Dr w0 g N w) (hne : b ≠ g) (hb : w0.heap.size ≤ b) : Dr w0 g N (w.setCell ⟨b, j, none⟩ u) :=
 h.keep (grown_set w b j u) (by simpa using hne) (fun k hk => by cases hk; exact hb)
theorem Dr.lt {w0 w : World} {g N : Nat} (h : Dr w0 g N w) : g < w.heap.size := h.2.2.2
theorem Dr.pick {w0 w : World} {g N : Nat} (n : Int) (h : Dr w0 g N w) (hN : N ≤ 1000000) (hn : n ≤ 1000000) :
 Calls Tryz.prog 32 #[.pointer (some ⟨g, 0, none⟩), .int .i64 n] w fun e w' => ∃ x : Int, e = .returned (.int .i64 x) ∧ 0 ≤ x ∧ (0 < n → x < n) ∧ Dr w0 g (N + 1) w' ∧ w.grownBy w' (some g) :=
 (pick_any w0 _ N n w h.1 h.2.1 hN hn).mono fun _ _ hp => by
  obtain ⟨x, rfl, ⟨hx1, hx2, hx3⟩, hr, hb1, g1, hg1, hgr⟩ := hp
  obtain rfl : g = g1 := by simpa using hg1
  exact ⟨x, rfl, hx1, hx2, ⟨hr, hb1, h.2.2.1, Nat.lt_of_lt_of_le h.2.2.2 hgr.size⟩, hgr⟩
theorem grown_alloc {w0 w : World} {row : Option Nat} (h : w0.grownBy w row) (o : Obj) : w0.grownBy (w.alloc o) row := grown_trans h (grown_below (below1 _ _) row)
theorem grown_new {w0 w : World} {row : Option Nat} (h : w0.grownBy w row) {b j : Nat} (hb : w0.heap.size ≤ b) (u : Value) : w0.grownBy (w.setCell ⟨b, j, none⟩ u) row :=
 ⟨h.os, h.tape, h.output, by simpa using h.size, fun k hk hne => (heap_setCell_other w ⟨b, j, none⟩ k u (by intro e; simp at e; omega)).trans (h.block k hk hne)⟩
def DrPost (w0 : World) (g N : Nat) (w : World) (P : Value → Prop) (e : Ending) (w' : World) : Prop := ∃ v, e = .returned v ∧ P v ∧ Dr w0 g N w' ∧ w.grownBy w' (some g)
set_option maxHeartbeats 1000000 in
theorem of_any {w0 w : World} {g N : Nat} (b n : Nat) (ss : List ByteArray) (h : Dr w0 g N w) (hN : N ≤ 1000000) (hn : ss.length = n) (h0 : 0 < n) (h1 : n ≤ 1000) (hne : b ≠ g) (hb : b < w.heap.size) (hc : ∀ k, k < n → w.cell? ⟨b, k, none⟩ = some (.string (nthS ss k))) :
 Calls Tryz.prog 33 #[.pointer (some ⟨g, 0, none⟩), .slice (some ⟨b, 0, none⟩) n n] w (DrPost w0 g (N + 1) w fun v => ∃ s, s ∈ ss ∧ v = .string s) := by
 have Hc := Lib.hid hc; clear hc
 have Hn := Lib.hid hn; clear hn
 go_enter Tryz.func33, Tryz.ntmps33
 go_wp2_with fail
 refine (h.pick _ hN (by omega)).mono ?_; rintro e w1 ⟨x, rfl, hx0, hx1, h', hgr⟩
 have hx1 := hx1 (by omega)
 obtain ⟨x, rfl⟩ := Int.eq_ofNat_of_zero_le hx0
 have D : w1.cell? ⟨b, x, none⟩ = some (.string (nthS ss x)) := (World.cell?_of_block (hgr.block b hb (by simpa using hne))).trans (Hc.out x (by omega))
 have hx2 : x < n := by omega
 go_wp2_with fail
 go_ret
 exact ⟨_, rfl, ⟨nthS ss x, List.mem_of_getElem? (nthS_lt (by rw [Hn.out]; exact hx2)), rfl⟩, h', hgr⟩
set_option maxHeartbeats 1000000 in
theorem l1Put_any (f : Int) (b : Bool) (w : World) (h0 : 0 ≤ f) (h1 : f ≤ 1000) :
 Calls Tryz.prog 63 #[.int .i64 f, .bool b] w fun e w' => e = .returned (.int .i64 (if b then 4 * f + 3 else 4 * f + 1)) ∧ w = w' := by
 cases b <;> (go_enter Tryz.func63, Tryz.ntmps63; go_wp2_with fail; go_ret; exact ⟨rfl, rfl⟩)
theorem lit_after {w w1 : World} {g : Nat} {vs : Array Value} {t j : Nat} {u : Value} (hgr : (w.alloc (.cells vs t)).grownBy w1 (some g)) (hlt : g < w.heap.size) (hj : vs[j]? = some u) : w1.cell? ⟨w.heap.size, j, none⟩ = some u := by
 refine (World.cell?_of_block (hgr.block w.heap.size (by simp) (by simp; omega))).trans ?_
 rw [World.cell?_alloc_new]
 exact hj
set_option maxHeartbeats 2000000 in
theorem l91Address_any {w0 w : World} {g N : Nat} (h : Dr w0 g N w) (hN : N ≤ 900000) :
 Calls Tryz.prog 153 #[.pointer (some ⟨g, 0, none⟩)] w (DrPost w0 g (N + 2) w fun v => ∃ x : Int, v = .int .i64 x) := by
 go_enter Tryz.func153, Tryz.ntmps153
 go_wp2_with fail
 refine (h.pick _ (by omega) (by decide)).mono ?_; rintro e w1 ⟨x, rfl, hx0, hx1, h1, g1⟩
 by_cases hx : x = 0
 ·subst hx
  go_wp2_with fail
  refine ((h1.alloc _).pick _ (by omega) (by decide)).mono ?_; rintro e w2 ⟨y, rfl, hy0, hy1, h2, g2⟩
  have hy1 := hy1 (by decide)
  have c0 := lit_after (j := 0) g2 h1.lt rfl
  have c1 := lit_after (j := 1) g2 h1.lt rfl
  have c2 := lit_after (j := 2) g2 h1.lt rfl
  have G := Lib.hid (grown_trans g1 (grown_trans (grown_below (below1 _ _) _) g2))
  clear g1 g2
  rcases (show y = 0 ∨ y = 1 ∨ y = 2 by omega) with rfl | rfl | rfl
  all_goals
   go_wp2_with fail
   go_ret
   exact ⟨_, rfl, ⟨_, rfl⟩, h2, G.out⟩
 ·have t0 : (x == 0) = false := by simp [hx]
  clear hx
  go_wp2_with fail
  refine (h1.pick _ (by omega) (by decide)).mono ?_; rintro e w2 ⟨y, rfl, hy0, hy1, h2, g2⟩
  have G := Lib.hid (grown_trans g1 g2)
  clear g1 g2
  go_wp2_with fail
  go_ret
  exact ⟨_, rfl, ⟨_, rfl⟩, h2, G.out⟩
set_option maxHeartbeats 2000000 in
theorem l91Entry_any {w0 w : World} {g N : Nat} (h : Dr w0 g N w) (hN : N ≤ 900000) :
 Calls Tryz.prog 255 #[.pointer (some ⟨g, 0, none⟩)] w (DrPost w0 g (N + 3) w fun v => ∃ x : Int, v = .int .i64 x ∧ -1 ≤ x ∧ x ≤ 9999) := by
 go_enter Tryz.func255, Tryz.ntmps255
 go_wp2_with fail
 refine (h.pick _ (by omega) (by decide)).mono ?_; rintro e w1 ⟨x, rfl, hx0, hx1, h1, g1⟩
 have hx1 := hx1 (by decide)
 by_cases hx : x = 0
 ·subst hx
  go_wp2_with fail
  go_ret
  exact ⟨_, rfl, ⟨0, rfl, by decide, by decide⟩, h1.mono (by omega), g1⟩
 by_cases hx' : x = 1
 ·subst hx'
  go_wp2_with fail
  go_ret
  exact ⟨_, rfl, ⟨0, rfl, by decide, by decide⟩, h1.mono (by omega), g1⟩
 by_cases hx2 : x = 2
 ·subst hx2
  clear hx hx'
  go_wp2_with fail
  refine ((h1.alloc _).pick _ (by omega) (by decide)).mono ?_; rintro e w2 ⟨y, rfl, hy0, hy1, h2, g2⟩
  have hy1 := hy1 (by decide)
  have c0 := lit_after (j := 0) g2 h1.lt rfl
  have c1 := lit_after (j := 1) g2 h1.lt rfl
  have c2 := lit_after (j := 2) g2 h1.lt rfl
  have c3 := lit_after (j := 3) g2 h1.lt rfl
  have c4 := lit_after (j := 4) g2 h1.lt rfl
  have c5 := lit_after (j := 5) g2 h1.lt rfl
  have c6 := lit_after (j := 6) g2 h1.lt rfl
  have G := Lib.hid (grown_trans g1 (grown_trans (grown_below (below1 _ _) _) g2))
  clear g1 g2
  rcases (show y = 0 ∨ y = 1 ∨ y = 2 ∨ y = 3 ∨ y = 4 ∨ y = 5 ∨ y = 6 by omega) with rfl | rfl | rfl | rfl | rfl | rfl | rfl
  all_goals
   go_wp2_with fail
   go_ret
   exact ⟨_, rfl, ⟨_, rfl, by decide, by decide⟩, h2.mono (by omega), G.out⟩
 ·have t0 : (x == 0) = false := by simp [hx]
  have t1 : (x == 1) = false := by simp [hx']
  have t2 : (x == 2) = false := by simp [hx2]
  clear hx hx' hx2
  go_wp2_with fail
  refine (h1.pick _ (by omega) (by decide)).mono ?_; rintro e w2 ⟨y, rfl, hy0, hy1, h2, g2⟩
  have hy1 := hy1 (by decide)
  go_wp2_with fail
  refine (h2.pick _ (by omega) (by decide)).mono ?_; rintro e w3 ⟨z, rfl, hz0, hz1, h3, g3⟩
  have hz1 := hz1 (by decide)
  have G := Lib.hid (grown_trans (grown_trans g1 g2) g3)
  clear g1 g2 g3
  go_wp2_with fail
  go_ret
  exact ⟨_, rfl, ⟨_, rfl, by omega, by omega⟩, h3.mono (by omega), G.out⟩
theorem lit_strs (w : World) (ss : List ByteArray) (t : TypeId) {k : Nat} (hk : k < ss.length) : (w.alloc (.cells (ss.map Value.string).toArray t)).cell? ⟨w.heap.size, k, none⟩ = some (.string (nthS ss k)) := by
 rw [World.cell?_alloc_new]
 simp only [List.getElem?_toArray, List.getElem?_map]
 rw [nthS_lt hk]
 rfl
set_option maxRecDepth 100000 in
set_option maxHeartbeats 2000000 in
theorem l91Right_any {w0 w : World} {g N : Nat} (h : Dr w0 g N w) (hN : N ≤ 900000) :
 Calls Tryz.prog 256 #[.pointer (some ⟨g, 0, none⟩)] w (DrPost w0 g (N + 2) w fun v => ∃ s, s.size ≤ 8 ∧ v = .string s) := by
 go_enter Tryz.func256, Tryz.ntmps256
 go_wp2_with fail
 refine (h.pick _ (by omega) (by decide)).mono ?_; rintro e w1 ⟨x, rfl, hx0, hx1, h1, g1⟩
 by_cases hx : x = 0
 ·subst hx
  go_wp2_with fail
  refine (of_any w1.heap.size 4 [⟨#[100]⟩, ⟨#[65]⟩, ⟨#[97, 98, 99, 97, 98]⟩, ⟨#[97, 32, 98]⟩] (h1.alloc _) (by omega) rfl (by decide) (by decide) (by have := h1.lt; omega) (by simp) (fun k hk => lit_strs w1 [⟨#[100]⟩, ⟨#[65]⟩, ⟨#[97, 98, 99, 97, 98]⟩, ⟨#[97, 32, 98]⟩] _ hk)).mono ?_
  rintro e w2 ⟨v, rfl, ⟨s, hs, rfl⟩, h2, g2⟩
  have G := Lib.hid (grown_trans g1 (grown_trans (grown_below (below1 _ _) _) g2))
  have hl : s.size ≤ 8 := by
   simp only [List.mem_cons, List.not_mem_nil, or_false] at hs
   rcases hs with rfl | rfl | rfl | rfl <;> decide
  clear g1 g2 hs
  go_wp2_with fail
  go_ret
  exact ⟨_, rfl, ⟨s, hl, rfl⟩, h2, G.out⟩
 ·have t0 : (x == 0) = false := by simp [hx]
  clear hx
  go_wp2_with fail
  refine (of_any w1.heap.size 12 [⟨#[]⟩, ⟨#[97]⟩, ⟨#[98]⟩, ⟨#[99]⟩, ⟨#[97, 98]⟩, ⟨#[97, 97]⟩, ⟨#[97, 98, 99]⟩, ⟨#[98, 97]⟩, ⟨#[98]⟩, ⟨#[97]⟩, ⟨#[97, 98, 99, 97]⟩, ⟨#[97, 99]⟩] (h1.alloc _) (by omega) rfl (by decide) (by decide) (by have := h1.lt; omega) (by simp) (fun k hk => lit_strs w1 [⟨#[]⟩, ⟨#[97]⟩, ⟨#[98]⟩, ⟨#[99]⟩, ⟨#[97, 98]⟩, ⟨#[97, 97]⟩, ⟨#[97, 98, 99]⟩, ⟨#[98, 97]⟩, ⟨#[98]⟩, ⟨#[97]⟩, ⟨#[97, 98, 99, 97]⟩, ⟨#[97, 99]⟩] _ hk)).mono ?_
  rintro e w2 ⟨v, rfl, ⟨s, hs, rfl⟩, h2, g2⟩
  have G := Lib.hid (grown_trans g1 (grown_trans (grown_below (below1 _ _) _) g2))
  have hl : s.size ≤ 8 := by
   simp only [List.mem_cons, List.not_mem_nil, or_false] at hs
   rcases hs with rfl | rfl | rfl | rfl | rfl | rfl | rfl | rfl | rfl | rfl | rfl | rfl <;> decide
  clear g1 g2 hs
  go_wp2_with fail
  go_ret
  exact ⟨_, rfl, ⟨s, hl, rfl⟩, h2, G.out⟩
theorem AtF.info {w : World} {a : Option Addr} {xs : List InfoV} (h : AtF 3 infoCs w a xs) {k : Nat} {x : InfoV} (hk : xs[k]? = some x) : ∃ b off, a = some ⟨b, off, none⟩ ∧ b < w.heap.size ∧ w.cell? ⟨b, off + k * 3, none⟩ = some (.int .i64 x.k) ∧ w.cell? ⟨b, off + k * 3 + 1, none⟩ = some (.string x.g) ∧ w.cell? ⟨b, off + k * 3 + 2, none⟩ = some (.int .i64 x.r) := by
 obtain ⟨b, off, rfl, hlt, hc⟩ := h k x hk
 exact ⟨b, off, rfl, hlt, hc 0 _ rfl, hc 1 _ rfl, hc 2 _ rfl⟩
def Small12 (xs : List Int) : Prop := ∀ x ∈ xs, 0 ≤ x ∧ x < 12
set_option maxRecDepth 100000 in
set_option maxHeartbeats 2000000 in
theorem l92Kind_any {w0 w : World} {g N : Nat} (m i e c : Value) (xs : List InfoV) (kind : Int) (h : Dr w0 g N w) (hN : N ≤ 900000) (hi : RdInfos w i xs) (hl : xs.length ≤ 12) :
 Calls Tryz.prog 254 #[.pointer (some ⟨g, 0, none⟩), .agg #[m, i, e, c], .int .i64 kind] w (DrPost w0 g (N + 1) w fun v => ∃ x : Int, v = .int .i64 x ∧ 0 ≤ x ∧ x < 12) := by
 obtain ⟨a, cap, rfl, hc, hcm, H0⟩ := RdF.open infoCs_len (by decide) hi
 unfold maxLen at hcm
 clear hi
 go_enter Tryz.func254, Tryz.ntmps254
 go_wp2_with fail
 have hb1 := below1 w (.cells #[m, .slice a xs.length cap, e, c] 33)
 have hB1 : (w.alloc (.cells #[m, .slice a xs.length cap, e, c] 33)).heap[w.heap.size]? = some (.cells #[m, .slice a xs.length cap, e, c] 33 (0, 0)) := heap_alloc_new w _
 have hs1 : w.heap.size + 1 = (w.alloc (.cells #[m, .slice a xs.length cap, e, c] 33)).heap.size := by simp
 generalize w.alloc (.cells #[m, .slice a xs.length cap, e, c] 33) = W at hb1 hB1 hs1
 rw [hs1]
 go_loopw [7, 8] (fun o i wr => ∃ k : Nat, ∃ ys : List Int, k ≤ xs.length ∧ ys.length ≤ k ∧ Small12 ys ∧ i = .int .i64 k ∧ OwnInts W.heap.size wr o ys ∧ Below W.heap.size W wr) (fun _ i _ => xs.length - (intOf i).toNat)
 case atStart => exact ⟨0, [], Nat.zero_le _, Nat.zero_le _, fun x hx => (by cases hx), rfl, ownsRow_empty _ _ _, below1 _ _⟩
 case round =>
  obtain ⟨k, ys, hk, hyl, hys, rfl, hown, hbel⟩ := hrel
  have Hys := Lib.hid hys; clear hys
  obtain ⟨c0, c1, c2, c3⟩ := blk_cells4 ((hbel.block _ (by omega)).trans hB1)
  clear c0 c2 c3
  by_cases hlt : k < xs.length
  ·obtain ⟨x, hx⟩ : ∃ x, xs[k]? = some x := ⟨_, List.getElem?_eq_getElem hlt⟩
   obtain ⟨b, off, rfl, hbl, D0, _, _⟩ := H0.info hx
   have D : wr.cell? ⟨b, off + k * 3, none⟩ = some (.int .i64 x.k) := ((hb1.trans (hbel.mono hb1.size)).cell (p := ⟨b, off + k * 3, none⟩) hbl).trans D0
   clear D0 hx
   by_cases hkind : x.k = kind
   ·have t0 : (x.k == kind) = true := by simp [hkind]
    clear hkind
    have hlo := hbel.size
    go_wp2_with (at_builtin; go_must (refine wp_appendL (lo := W.heap.size) (n := ys.length) (xs := ys.map (Value.int .i64)) (m := 1) (news := [.int .i64 k]) rfl rfl 3 (.int .i64 0) 1 8 Tryz.underlying38 Tryz.infoInt rfl (by decide) rfl (ownsRow_below hown (below1 _ _)) rfl (Rd.newsAt _ #[_] _ 1 1 _ (by simp) rfl (by simp [maxLen])) (by simp [Value.oneCell']) (by unfold maxLen; omega) (by omega) (by simp; omega) ?_; intro o' w4 g1 g2 g3 g4))
    go_roundw
    case rel => exact ⟨k + 1, ys ++ [(k : Int)], by omega, by simp; omega, fun y hy => by
     rcases List.mem_append.1 hy with h' | h'
     ·exact Hys.out y h'
     ·simp at h'; subst h'; omega, by go_num, by simpa [OwnInts] using g1, (hbel.alloc hbel.size _).trans g4⟩
    case measure => simp [intOf]; omega
   ·have t0 : (x.k == kind) = false := by simp [hkind]
    clear hkind
    go_wp2_with fail
    go_roundw
    case rel => exact ⟨k + 1, ys, by omega, by omega, Hys.out, by go_num, hown, hbel⟩
    case measure => simp [intOf]; omega
  ·have hD : Dr w0 g N wr := (h.below hb1).below hbel
   have hG0 : w.grownBy wr (some g) := grown_below (hb1.trans (hbel.mono hb1.size)) _
   have hgW : g < W.heap.size := Nat.lt_of_lt_of_le h.lt hb1.size
   by_cases hz : ys.length = 0
   ·obtain ⟨_, _, rfl, _, _⟩ := (OwnInts.rd hown).open
    have t0 : ((ys.length : Int) == 0) = true := by simp [hz]
    clear hz
    go_wp2_with fail
    refine (hD.pick _ (by omega) (by decide)).mono ?_; rintro e w2 ⟨y, rfl, hy0, hy1, h2, g2⟩
    have hy1 := hy1 (by decide)
    go_wp2_with fail
    go_ret
    exact ⟨_, rfl, ⟨_, rfl, hy0, hy1⟩, h2, grown_trans hG0 g2⟩
   ·obtain ⟨q, cq, rfl, hq, hql⟩ := own_shape hown (by omega)
    have t0 : ((ys.length : Int) == 0) = false := by simp [hz]
    have hpos : 0 < ys.length := by omega
    have hcq : ys.length ≤ cq ∧ cq ≤ maxLen := by
     obtain ⟨_, _, he, h1, h2, _⟩ := (OwnInts.rd hown).open
     simp at he
     obtain ⟨_, rfl⟩ := he
     exact ⟨h1, h2⟩
    obtain ⟨hq1, hq2⟩ := hcq
    unfold maxLen at hq2
    clear hz
    go_wp2_with fail
    refine (hD.pick _ (by omega) (by omega)).mono ?_; rintro e w2 ⟨y, rfl, hy0, hy1, h2, g2⟩
    have hy1 := hy1 (by omega)
    obtain ⟨y, rfl⟩ := Int.eq_ofNat_of_zero_le hy0
    have hown2 := own_grown hown g2 (.inr (by simp [Value.ownBlock]; omega))
    have C := (hown2.cellAt y (by omega)).trans (getElem_ints (xs := ys) (by omega))
    have hx := Hys.out (nth ys y) (by rw [nth_eq (by omega)]; exact List.getElem_mem _)
    go_wp2_with fail
    go_ret
    exact ⟨_, rfl, ⟨_, rfl, hx.1, hx.2⟩, h2, grown_trans hG0 g2⟩
def wordsOk (xs : List Int) : Bool := xs.length == 4 && xs.all (inB · 0 9999)
set_option maxHeartbeats 400000 in
theorem isWord_any (n : Int) (w : World) :
 Calls Tryz.prog 159 #[.int .i64 n] w fun e w' => e = .returned (.bool (inB n 0 9999)) ∧ w = w' := by
 go_enter Tryz.func159, Tryz.ntmps159
 go_wp2_with (go_at_call 55; refine (within_any _ _ _ _).mono ?_; rintro e w' ⟨rfl, rfl⟩)
 go_ret
 exact ⟨rfl, rfl⟩
set_option maxHeartbeats 400000 in
theorem isWords1_any (n : Int) (w : World) :
 Calls Tryz.prog 182 #[.int .i64 n] w fun e w' => e = .returned (.bool (!inB n 0 9999)) ∧ w = w' := by
 go_enter Tryz.func182, Tryz.ntmps182
 go_wp2_with (go_at_call 159; refine (isWord_any _ _).mono ?_; rintro e w' ⟨rfl, rfl⟩)
 go_ret
 exact ⟨rfl, rfl⟩
theorem wordsOk_not (xs : List Int) : (!xs.any fun x => !inB x 0 9999) = xs.all (inB · 0 9999) := by
 simp [List.all_eq_not_any_not]
set_option maxHeartbeats 400000 in
theorem isWords_any (v : Value) (xs : List Int) (w : World) (h : RdInts w v xs) :
 Calls Tryz.prog 112 #[v] w fun e w' => e = .returned (.bool (wordsOk xs)) ∧ w = w' := by
 obtain ⟨a, c, rfl, hc, hcm, H0⟩ := h.open
 unfold maxLen at hcm
 by_cases h4 : xs.length = 4
 ·have e1 : wordsOk xs = xs.all (inB · 0 9999) := by simp [wordsOk, h4]
  have hb : ((xs.length : Int) == 4) = true := by simp [h4]
  have H := Lib.hid e1; clear e1
  clear h4
  go_enter Tryz.func112, Tryz.ntmps112
  go_wp2_with (go_at_call 119; refine (ContainsFunc_any 182 #[] (fun x => !inB x 0 9999) _ xs _ h (fun _ _ => by kernel_rfl) (fun x w => isWords1_any x w)).mono ?_; rintro e w' ⟨rfl, rfl⟩)
  go_ret
  exact ⟨ret_bool (by rw [H.out, wordsOk_not]), rfl⟩
 ·have e1 : wordsOk xs = false := by simp [wordsOk, h4]
  have hb : ((xs.length : Int) == 4) = false := by simp; omega
  have H := Lib.hid e1; clear e1
  clear h4
  go_enter Tryz.func112, Tryz.ntmps112
  go_wp2_with fail
  go_ret
  exact ⟨ret_bool H.out.symm, rfl⟩
structure StepV where
 k : Int
 a : Int
 x : Int
 ck : Int
 ce : Int
 ca : Int
 cb : Int
 cc : Int
 nm : ByteArray
def StepV.cells (s : StepV) : Array Value := #[.int .i64 s.k, .int .i64 s.a, .int .i64 s.x, .int .i64 s.ck, .int .i64 s.ce, .int .i64 s.ca, .int .i64 s.cb, .int .i64 s.cc, .string s.nm]
def StepV.val (s : StepV) : Value := .agg s.cells
def StepV.ok (s : StepV) : Bool := if s.k = 1 then inB s.a 0 63 else if s.k = 2 then inB s.a 0 63 && inB s.x 0 9999 else if s.k = 3 then inB s.ce 1 2 else false
set_option maxHeartbeats 400000 in
theorem isAddress_any (n : Int) (w : World) :
 Calls Tryz.prog 135 #[.int .i64 n] w fun e w' => e = .returned (.bool (inB n 0 63)) ∧ w = w' := by
 go_enter Tryz.func135, Tryz.ntmps135
 go_wp2_with (go_at_call 55; refine (within_any _ _ _ _).mono ?_; rintro e w' ⟨rfl, rfl⟩)
 go_ret
 exact ⟨rfl, rfl⟩
theorem stepOk1 {k a x ck ce ca cb cc : Int} {nm : ByteArray} (h : k = 1) : StepV.ok ⟨k, a, x, ck, ce, ca, cb, cc, nm⟩ = inB a 0 63 := by simp [StepV.ok, h]
theorem stepOk2 {k a x ck ce ca cb cc : Int} {nm : ByteArray} (h : k = 2) : StepV.ok ⟨k, a, x, ck, ce, ca, cb, cc, nm⟩ = (inB a 0 63 && inB x 0 9999) := by simp [StepV.ok, h]
theorem stepOk3 {k a x ck ce ca cb cc : Int} {nm : ByteArray} (h : k = 3) : StepV.ok ⟨k, a, x, ck, ce, ca, cb, cc, nm⟩ = inB ce 1 2 := by simp [StepV.ok, h]
theorem stepOk0 {k a x ck ce ca cb cc : Int} {nm : ByteArray} (h1 : k ≠ 1) (h2 : k ≠ 2) (h3 : k ≠ 3) : StepV.ok ⟨k, a, x, ck, ce, ca, cb, cc, nm⟩ = false := by simp [StepV.ok, h1, h2, h3]
set_option maxHeartbeats 400000 in
theorem isOther_any (n : Int) (w : World) :
 Calls Tryz.prog 160 #[.int .i64 n] w fun e w' => e = .returned (.bool (inB n 1 2)) ∧ w = w' := by
 go_enter Tryz.func160, Tryz.ntmps160
 go_wp2_with (go_at_call 55; refine (within_any _ _ _ _).mono ?_; rintro e w' ⟨rfl, rfl⟩)
 go_ret
 exact ⟨rfl, rfl⟩
set_option maxHeartbeats 400000 in
theorem l1Address_any (n : Int) (w : World) :
 Calls Tryz.prog 157 #[.int .i64 n] w fun e w' => e = .returned (.bool (inB n 0 63)) ∧ w = w' := by
 go_enter Tryz.func157, Tryz.ntmps157
 go_wp2_with (go_at_call 59; refine (l6In_any _ _ _ _).mono ?_; rintro e w' ⟨rfl, rfl⟩)
 go_ret
 exact ⟨rfl, rfl⟩
set_option maxHeartbeats 400000 in
theorem stepOk_any (s : StepV) (w : World) :
 Calls Tryz.prog 156 #[s.val] w fun e w' => e = .returned (.bool s.ok) ∧ Below w.heap.size w w' := by
 obtain ⟨k, a, x, ck, ce, ca, cb, cc, nm⟩ := s
 simp only [StepV.val, StepV.cells]
 by_cases h1 : k = 1
 ·have S := Lib.hid (stepOk1 (a := a) (x := x) (ck := ck) (ce := ce) (ca := ca) (cb := cb) (cc := cc) (nm := nm) h1)
  subst h1
  go_enter Tryz.func156, Tryz.ntmps156
  go_wp2_with (first | (go_at_call 135; refine (isAddress_any _ _).mono ?_; rintro e w' ⟨rfl, rfl⟩) | (go_at_call 159; refine (isWord_any _ _).mono ?_; rintro e w' ⟨rfl, rfl⟩) | (go_at_call 160; refine (isOther_any _ _).mono ?_; rintro e w' ⟨rfl, rfl⟩))
  go_ret
  exact ⟨ret_bool S.out.symm, (Below.refl _ _).alloc (Nat.le_refl _) _⟩
 ·have t1 : (k == 1) = false := by simp [h1]
  by_cases h2 : k = 2
  ·have S := Lib.hid (stepOk2 (a := a) (x := x) (ck := ck) (ce := ce) (ca := ca) (cb := cb) (cc := cc) (nm := nm) h2)
   subst h2
   clear h1 t1
   go_enter Tryz.func156, Tryz.ntmps156
   cases hin : inB a 0 63
   ·rw [hin] at S
    have Hin := Lib.hid hin; clear hin
    go_wp2_with (first | (go_at_call 135; refine (isAddress_any _ _).mono ?_; rintro e w' ⟨rfl, rfl⟩; rw [Hin.out]) | (go_at_call 159; refine (isWord_any _ _).mono ?_; rintro e w' ⟨rfl, rfl⟩) | (go_at_call 160; refine (isOther_any _ _).mono ?_; rintro e w' ⟨rfl, rfl⟩))
    go_ret
    exact ⟨ret_bool S.out.symm, (Below.refl _ _).alloc (Nat.le_refl _) _⟩
   ·rw [hin] at S
    have Hin := Lib.hid hin; clear hin
    go_wp2_with (first | (go_at_call 135; refine (isAddress_any _ _).mono ?_; rintro e w' ⟨rfl, rfl⟩; rw [Hin.out]) | (go_at_call 159; refine (isWord_any _ _).mono ?_; rintro e w' ⟨rfl, rfl⟩) | (go_at_call 160; refine (isOther_any _ _).mono ?_; rintro e w' ⟨rfl, rfl⟩))
    go_ret
    exact ⟨ret_bool S.out.symm, (Below.refl _ _).alloc (Nat.le_refl _) _⟩
  ·have t2 : (k == 2) = false := by simp [h2]
   by_cases h3 : k = 3
   ·have S := Lib.hid (stepOk3 (a := a) (x := x) (ck := ck) (ce := ce) (ca := ca) (cb := cb) (cc := cc) (nm := nm) h3)
    subst h3
    clear h1 t1 h2 t2
    go_enter Tryz.func156, Tryz.ntmps156
    go_wp2_with (first | (go_at_call 135; refine (isAddress_any _ _).mono ?_; rintro e w' ⟨rfl, rfl⟩) | (go_at_call 159; refine (isWord_any _ _).mono ?_; rintro e w' ⟨rfl, rfl⟩) | (go_at_call 160; refine (isOther_any _ _).mono ?_; rintro e w' ⟨rfl, rfl⟩))
    go_ret
    exact ⟨ret_bool S.out.symm, (Below.refl _ _).alloc (Nat.le_refl _) _⟩
   ·have t3 : (k == 3) = false := by simp [h3]
    have S := Lib.hid (stepOk0 (a := a) (x := x) (ck := ck) (ce := ce) (ca := ca) (cb := cb) (cc := cc) (nm := nm) h1 h2 h3)
    clear h1 h2 h3
    go_enter Tryz.func156, Tryz.ntmps156
    go_wp2_with fail
    go_ret
    exact ⟨ret_bool S.out.symm, (Below.refl _ _).alloc (Nat.le_refl _) _⟩
set_option maxHeartbeats 400000 in
theorem l41Step_any (s : StepV) (w : World) :
 Calls Tryz.prog 87 #[s.val] w fun e w' => e = .returned (.bool s.ok) ∧ Below w.heap.size w w' := by
 obtain ⟨k, a, x, ck, ce, ca, cb, cc, nm⟩ := s
 simp only [StepV.val, StepV.cells]
 by_cases h1 : k = 1
 ·have S := Lib.hid (stepOk1 (a := a) (x := x) (ck := ck) (ce := ce) (ca := ca) (cb := cb) (cc := cc) (nm := nm) h1)
  subst h1
  go_enter Tryz.func87, Tryz.ntmps87
  go_wp2_with (first | (go_at_call 157; refine (l1Address_any _ _).mono ?_; rintro e w' ⟨rfl, rfl⟩) | (go_at_call 59; refine (l6In_any _ _ _ _).mono ?_; rintro e w' ⟨rfl, rfl⟩))
  go_ret
  exact ⟨ret_bool S.out.symm, (Below.refl _ _).alloc (Nat.le_refl _) _⟩
 ·have t1 : (k == 1) = false := by simp [h1]
  by_cases h2 : k = 2
  ·have S := Lib.hid (stepOk2 (a := a) (x := x) (ck := ck) (ce := ce) (ca := ca) (cb := cb) (cc := cc) (nm := nm) h2)
   subst h2
   clear h1 t1
   go_enter Tryz.func87, Tryz.ntmps87
   cases hin : inB a 0 63
   ·rw [hin] at S
    have Hin := Lib.hid hin; clear hin
    go_wp2_with (first | (go_at_call 157; refine (l1Address_any _ _).mono ?_; rintro e w' ⟨rfl, rfl⟩; rw [Hin.out]) | (go_at_call 59; refine (l6In_any _ _ _ _).mono ?_; rintro e w' ⟨rfl, rfl⟩))
    go_ret
    exact ⟨ret_bool S.out.symm, (Below.refl _ _).alloc (Nat.le_refl _) _⟩
   ·rw [hin] at S
    have Hin := Lib.hid hin; clear hin
    go_wp2_with (first | (go_at_call 157; refine (l1Address_any _ _).mono ?_; rintro e w' ⟨rfl, rfl⟩; rw [Hin.out]) | (go_at_call 59; refine (l6In_any _ _ _ _).mono ?_; rintro e w' ⟨rfl, rfl⟩))
    go_ret
    exact ⟨ret_bool S.out.symm, (Below.refl _ _).alloc (Nat.le_refl _) _⟩
  ·have t2 : (k == 2) = false := by simp [h2]
   by_cases h3 : k = 3
   ·have S := Lib.hid (stepOk3 (a := a) (x := x) (ck := ck) (ce := ce) (ca := ca) (cb := cb) (cc := cc) (nm := nm) h3)
    subst h3
    clear h1 t1 h2 t2
    go_enter Tryz.func87, Tryz.ntmps87
    go_wp2_with (first | (go_at_call 157; refine (l1Address_any _ _).mono ?_; rintro e w' ⟨rfl, rfl⟩) | (go_at_call 59; refine (l6In_any _ _ _ _).mono ?_; rintro e w' ⟨rfl, rfl⟩))
    go_ret
    exact ⟨ret_bool S.out.symm, (Below.refl _ _).alloc (Nat.le_refl _) _⟩
   ·have t3 : (k == 3) = false := by simp [h3]
    have S := Lib.hid (stepOk0 (a := a) (x := x) (ck := ck) (ce := ce) (ca := ca) (cb := cb) (cc := cc) (nm := nm) h1 h2 h3)
    clear h1 h2 h3
    go_enter Tryz.func87, Tryz.ntmps87
    go_wp2_with fail
    go_ret
    exact ⟨ret_bool S.out.symm, (Below.refl _ _).alloc (Nat.le_refl _) _⟩
def stepCells (ss : List StepV) : List Value := ss.flatMap fun s => s.cells.toList
theorem stepCells_at {ss : List StepV} {k : Nat} {s : StepV} (h : ss[k]? = some s) {j : Nat} (hj : j < 9) : (stepCells ss)[k * 9 + j]? = s.cells[j]? := by
 induction ss generalizing k with
 | nil => simp at h
 | cons s' ss ih =>
  have hl : s'.cells.toList.length = 9 := rfl
  cases k with
  | zero =>
   simp only [List.getElem?_cons_zero, Option.some.injEq] at h
   subst h
   rw [stepCells, List.flatMap_cons, List.getElem?_append_left (by omega)]
   simp
  | succ k =>
   rw [List.getElem?_cons_succ] at h
   have := ih h
   rw [stepCells, List.flatMap_cons, List.getElem?_append_right (by omega), hl, ← this]
   congr 1
   omega
def RdSteps (w : World) (v : Value) (ss : List StepV) : Prop := Rd w v 9 ss.length (stepCells ss)
def AtSteps (w : World) (a : Option Addr) (ss : List StepV) : Prop :=
 ∀ k s, ss[k]? = some s → ∃ b off, a = some ⟨b, off, none⟩ ∧ ∀ j, j < 9 → w.cell? ⟨b, off + k * 9 + j, none⟩ = s.cells[j]?
theorem RdSteps.open {w : World} {v : Value} {ss : List StepV} (h : RdSteps w v ss) :
 ∃ a cap, v = .slice a ss.length cap ∧ ss.length ≤ cap ∧ cap ≤ maxLen ∧ AtSteps w a ss := by
 obtain ⟨a, cap, rfl, hnc, hcm, hl, _, hc⟩ := h
 refine ⟨a, cap, rfl, hnc, hcm, fun k s hk => ?_⟩
 have hlt := (List.getElem?_eq_some_iff.1 hk).1
 obtain ⟨b, off, rfl, hcell⟩ := hc (by omega)
 refine ⟨b, off, rfl, fun j hj => ?_⟩
 rw [Nat.add_assoc, hcell (k * 9 + j) (by omega), stepCells_at hk hj]
def stepsOk (ss : List StepV) : Bool := decide (ss.length ≤ 80) && ss.all StepV.ok
theorem AtSteps.cells {w w' : World} {a : Option Addr} {ss : List StepV} (h : AtSteps w a ss) (hb : Below w.heap.size w w') {k : Nat} {s : StepV} (hk : ss[k]? = some s) :
 ∃ b off, a = some ⟨b, off, none⟩ ∧ ∀ j u, s.cells[j]? = some u → w'.cell? ⟨b, off + k * 9 + j, none⟩ = some u := by
 obtain ⟨b, off, rfl, hc⟩ := h k s hk
 refine ⟨b, off, rfl, fun j u hu => ?_⟩
 have hj : j < 9 := (Array.getElem?_eq_some_iff.1 hu).1
 have := (hc j hj).trans hu
 exact (hb.cell (World.block_lt_of_cell? w _ this)).trans this
theorem AtSteps.nine {w w' : World} {a : Option Addr} {ss : List StepV} (h : AtSteps w a ss) (hb : Below w.heap.size w w') {k : Nat} {s : StepV} (hk : ss[k]? = some s) :
 ∃ b off, a = some ⟨b, off, none⟩ ∧ w'.cell? ⟨b, off + k * 9, none⟩ = some (.int .i64 s.k) ∧ w'.cell? ⟨b, off + k * 9 + 1, none⟩ = some (.int .i64 s.a) ∧ w'.cell? ⟨b, off + k * 9 + 2, none⟩ = some (.int .i64 s.x) ∧
  w'.cell? ⟨b, off + k * 9 + 3, none⟩ = some (.int .i64 s.ck) ∧ w'.cell? ⟨b, off + k * 9 + 4, none⟩ = some (.int .i64 s.ce) ∧ w'.cell? ⟨b, off + k * 9 + 5, none⟩ = some (.int .i64 s.ca) ∧
  w'.cell? ⟨b, off + k * 9 + 6, none⟩ = some (.int .i64 s.cb) ∧ w'.cell? ⟨b, off + k * 9 + 7, none⟩ = some (.int .i64 s.cc) ∧ w'.cell? ⟨b, off + k * 9 + 8, none⟩ = some (.string s.nm) := by
 obtain ⟨b, off, rfl, hc⟩ := h.cells hb hk
 exact ⟨b, off, rfl, hc 0 _ rfl, hc 1 _ rfl, hc 2 _ rfl, hc 3 _ rfl, hc 4 _ rfl, hc 5 _ rfl, hc 6 _ rfl, hc 7 _ rfl, hc 8 _ rfl⟩
theorem stepsOk_bad {ss : List StepV} {k : Nat} {s : StepV} (hs : ss[k]? = some s) (h : s.ok = false) : stepsOk ss = false := by
 simp only [stepsOk, Bool.and_eq_false_iff]
 exact .inr (List.all_eq_false.2 ⟨s, List.mem_of_getElem? hs, by simp [h]⟩)
theorem stepsOk_good {ss : List StepV} (h : ∀ (j : Nat) s, ss[j]? = some s → s.ok = true) : stepsOk ss = decide ((ss.length : Int) ≤ 80) := by
 have : ss.all StepV.ok = true := List.all_eq_true.2 fun s hs => by
  obtain ⟨j, hj⟩ := List.getElem?_of_mem hs
  exact h j s hj
 rw [stepsOk, this, Bool.and_true]
 by_cases h8 : ss.length ≤ 80
 ·have : (ss.length : Int) ≤ 80 := by omega
  simp [h8, this]
 ·have : ¬ (ss.length : Int) ≤ 80 := by omega
  simp [h8, this]
theorem steps_next {ss : List StepV} {k : Nat} {s : StepV} (h : ∀ (j : Nat) s, j < k → ss[j]? = some s → s.ok = true) (hs : ss[k]? = some s) (hok : s.ok = true) : ∀ (j : Nat) s, j < k + 1 → ss[j]? = some s → s.ok = true := by
 intro j s' hj hs'
 rcases Nat.lt_succ_iff_lt_or_eq.1 hj with h' | h'
 ·exact h j s' h' hs'
 ·subst h'
  rw [hs] at hs'
  cases hs'
  exact hok
set_option maxHeartbeats 1000000 in
theorem StepsValid_spec (v : Value) (ss : List StepV) (w : World) (h : RdSteps w v ss) :
 Calls Tryz.prog 27 #[v] w fun e w' => e = .returned (.bool (stepsOk ss)) ∧ Below w.heap.size w w' := by
 obtain ⟨a, c, hv, hc, hcm, H0⟩ := h.open
 subst hv
 unfold maxLen at hcm
 go_enter Tryz.func27, Tryz.ntmps27
 go_wp2_with fail
 go_loopw [3] (fun i wr => ∃ k : Nat, k ≤ ss.length ∧ i = .int .i64 k ∧ (∀ j s, j < k → ss[j]? = some s → s.ok = true) ∧ Below w.heap.size w wr) (fun i _ => ss.length - (intOf i).toNat)
 case atStart => exact ⟨0, Nat.zero_le _, rfl, fun j s hj => absurd hj (Nat.not_lt_zero _), Below.refl _ _⟩
 case round =>
  obtain ⟨k, hk, rfl, hpre, hbel⟩ := hrel
  have Hpre := Lib.hid hpre; clear hpre
  by_cases hlt : k < ss.length
  ·obtain ⟨s, hs⟩ : ∃ s, ss[k]? = some s := ⟨_, List.getElem?_eq_getElem hlt⟩
   obtain ⟨b, off, rfl, D0, D1, D2, D3, D4, D5, D6, D7, D8⟩ := H0.nine hbel hs
   have Hs := Lib.hid hs; clear hs
   cases hok : s.ok
   ·have S := Lib.hid (stepsOk_bad Hs.out hok)
    have Hok := Lib.hid hok; clear hok
    go_wp2_with (go_at_call 87; refine (l41Step_any s _).mono ?_; rintro e w1 ⟨rfl, hbel1⟩; rw [Hok.out])
    go_ret
    exact ⟨ret_bool S.out.symm, hbel.trans (hbel1.mono hbel.size)⟩
   ·have Hok := Lib.hid hok; clear hok
    go_wp2_with (go_at_call 87; refine (l41Step_any s _).mono ?_; rintro e w1 ⟨rfl, hbel1⟩; rw [Hok.out])
    go_roundw
    case rel => exact ⟨k + 1, by omega, by go_num, steps_next Hpre.out Hs.out Hok.out, hbel.trans (hbel1.mono hbel.size)⟩
    case measure => simp [intOf]; omega
  ·have S := Lib.hid (stepsOk_good (ss := ss) (fun j s hs => Hpre.out j s (by have := (List.getElem?_eq_some_iff.1 hs).1; omega) hs))
   go_wp2_with fail
   go_ret
   exact ⟨ret_bool S.out.symm, hbel⟩
set_option maxHeartbeats 400000 in
theorem StepsValid1_any (s : StepV) (w : World) :
 Calls Tryz.prog 155 #[s.val] w fun e w' => e = .returned (.bool (!s.ok)) ∧ Below w.heap.size w w' := by
 have Hs := Lib.hid (fun w => stepOk_any s w)
 obtain ⟨k, a, x, ck, ce, ca, cb, cc, nm⟩ := s
 simp only [StepV.val, StepV.cells] at Hs ⊢
 go_enter Tryz.func155, Tryz.ntmps155
 go_wp2_with (go_at_call 156; refine (Hs.out _).mono ?_; rintro e w1 ⟨rfl, hbel⟩)
 go_ret
 exact ⟨rfl, ((Below.refl _ _).alloc (Nat.le_refl _) _).trans (hbel.mono (by simp))⟩
def stepBad (ss : List StepV) (n : Int) : Prop := (n = -1 ∧ ss.all StepV.ok = true) ∨ (0 ≤ n ∧ ss.all StepV.ok = false)
set_option maxHeartbeats 1000000 in
theorem IndexFuncSteps_any (v : Value) (ss : List StepV) (w : World) (h : RdSteps w v ss) :
 Calls Tryz.prog 202 #[v, .func (.func 155) #[] #[]] w fun e w' => ∃ n, e = .returned (.int .i64 n) ∧ stepBad ss n ∧ Below w.heap.size w w' := by
 obtain ⟨a, c, hv, hc, hcm, H0⟩ := h.open
 subst hv
 unfold maxLen at hcm
 have hF : ∀ args w, (callFunc 155 args).run Tryz.prog w = .ok (.enter 155 args) w := fun _ _ => by kernel_rfl
 go_enter Tryz.func202, Tryz.ntmps202
 go_wp2_with fail
 go_loopw [8] (fun i wr => ∃ k : Nat, k ≤ ss.length ∧ i = .int .i64 k ∧ (∀ j s, j < k → ss[j]? = some s → s.ok = true) ∧ Below w.heap.size w wr) (fun i _ => ss.length - (intOf i).toNat)
 case atStart => exact ⟨0, Nat.zero_le _, rfl, fun j s hj => absurd hj (Nat.not_lt_zero _), Below.refl _ _⟩
 case round =>
  obtain ⟨k, hk, rfl, hpre, hbel⟩ := hrel
  have Hpre := Lib.hid hpre; clear hpre
  by_cases hlt : k < ss.length
  ·obtain ⟨s, hs⟩ : ∃ s, ss[k]? = some s := ⟨_, List.getElem?_eq_getElem hlt⟩
   obtain ⟨b, off, rfl, D0, D1, D2, D3, D4, D5, D6, D7, D8⟩ := H0.nine hbel hs
   have Hs := Lib.hid hs; clear hs
   cases hok : s.ok
   ·have S := Lib.hid (List.all_eq_false.2 ⟨s, List.mem_of_getElem? Hs.out, by simp [hok]⟩ : ss.all StepV.ok = false)
    have Hok := Lib.hid hok; clear hok
    go_wp2_with (refine (StepsValid1_any s _).mono ?_; rintro e w1 ⟨rfl, hbel1⟩; rw [Hok.out])
    go_ret
    exact ⟨k, rfl, .inr ⟨by omega, S.out⟩, hbel.trans (hbel1.mono hbel.size)⟩
   ·have Hok := Lib.hid hok; clear hok
    go_wp2_with (refine (StepsValid1_any s _).mono ?_; rintro e w1 ⟨rfl, hbel1⟩; rw [Hok.out])
    go_roundw
    case rel => exact ⟨k + 1, by omega, by go_num, steps_next Hpre.out Hs.out Hok.out, hbel.trans (hbel1.mono hbel.size)⟩
    case measure => simp [intOf]; omega
  ·have S := Lib.hid (List.all_eq_true.2 fun s hs => by
    obtain ⟨j, hj⟩ := List.getElem?_of_mem hs
    exact Hpre.out j s (by have := (List.getElem?_eq_some_iff.1 hj).1; omega) hj : ss.all StepV.ok = true)
   go_wp2_with fail
   go_ret
   exact ⟨-1, rfl, .inl ⟨rfl, S.out⟩, hbel⟩
set_option maxHeartbeats 1000000 in
theorem ContainsFuncSteps_any (v : Value) (ss : List StepV) (w : World) (h : RdSteps w v ss) :
 Calls Tryz.prog 154 #[v, .func (.func 155) #[] #[]] w fun e w' => e = .returned (.bool (!ss.all StepV.ok)) ∧ Below w.heap.size w w' := by
 go_enter Tryz.func154, Tryz.ntmps154
 go_wp2_with (go_at_call 202; refine (IndexFuncSteps_any _ ss _ h).mono ?_; rintro e w1 ⟨n, rfl, hn, hbel⟩)
 go_ret
 refine ⟨ret_bool ?_, hbel⟩
 rcases hn with ⟨rfl, h⟩ | ⟨h0, h⟩
 ·simp [h]
 ·simp [h, h0]
set_option maxHeartbeats 1000000 in
theorem StepsValid_impl (v : Value) (ss : List StepV) (w : World) (h : RdSteps w v ss) :
 Calls Tryz.prog 86 #[v] w fun e w' => e = .returned (.bool (stepsOk ss)) ∧ Below w.heap.size w w' := by
 obtain ⟨a, c, hv, hc, hcm, _⟩ := h.open
 subst hv
 unfold maxLen at hcm
 by_cases h8 : ss.length ≤ 80
 ·have S := Lib.hid (show stepsOk ss = ss.all StepV.ok by simp [stepsOk, h8])
  go_enter Tryz.func86, Tryz.ntmps86
  go_wp2_with (go_at_call 154; refine (ContainsFuncSteps_any _ ss _ h).mono ?_; rintro e w1 ⟨rfl, hbel⟩)
  go_ret
  exact ⟨ret_bool S.out.symm, hbel⟩
 ·have S := Lib.hid (show stepsOk ss = false by simp [stepsOk, h8])
  go_enter Tryz.func86, Tryz.ntmps86
  go_wp2_with fail
  go_ret
  exact ⟨ret_bool S.out.symm, Below.refl _ _⟩
def CallV.cells (c : CallV) : Array Value := #[.int .i64 c.k, .int .i64 c.e, .int .i64 c.a, .int .i64 c.b, .int .i64 c.c, .string c.nm]
def CallV.val (c : CallV) : Value := .agg c.cells
def StepV.call (s : StepV) : CallV := ⟨s.ck, s.ce, s.ca, s.cb, s.cc, s.nm⟩
theorem Tryz.infoStep : (Tryz.prog.info? 62).map (fun i => (i.zero, i.size, i.bytes)) = some (some (.agg #[.int .i64 0, .int .i64 0, .int .i64 0, .int .i64 0, .int .i64 0, .int .i64 0, .int .i64 0, .int .i64 0, .string ⟨#[]⟩]), 9, 80) := by kernel_rfl
def stepCs (s : StepV) : List Value := s.cells.toList
def OwnSteps (lo : Nat) (w : World) (v : Value) (ss : List StepV) : Prop := w.ownsRow lo 62 9 v ss.length (stepCells ss)
theorem OwnSteps.rd {lo : Nat} {w : World} {v : Value} {ss : List StepV} (h : OwnSteps lo w v ss) : RdSteps w v ss := Rd.of_owns h
theorem Tryz.infoRow : (Tryz.prog.info? 38).map (fun i => (i.zero, i.size, i.bytes)) = some (some (.slice none 0 0), 1, 24) := by kernel_rfl
theorem tyRowInt : 38 ≠ 3 := by decide
theorem own_apart {lo e sz n B : Nat} {w : World} {v u : Value} {xs : List Value} (h : w.ownsRow lo e sz v n xs) (hu : ∀ k, u.ownBlock = some k → w.heap.size ≤ k) : Apart v u := by
 intro k hk hu'
 have h1 := (h.lt k hk).2
 have h2 := hu k hu'
 omega
theorem OwnRows.push {lo : Nat} {w w1 w2 : World} {v v' u : Value} {vs : List Value} {xss : List (List Int)} {x : List Int}
 (h : OwnRows lo w v vs xss) (hb : Below w.heap.size w w1) (hlo : lo ≤ w.heap.size) (hu : OwnInts w.heap.size w1 u x)
 (h1 : w2.ownsRow lo 38 1 v' (vs.length + 1) (flat oneCs vs ++ [u])) (h2 : w1.grownBy w2 v.ownBlock) : OwnRows lo w2 v' (vs ++ [u]) (xss ++ [x]) := by
 obtain ⟨a1, a2, a3⟩ := h
 have a1' := a1.below hb
 refine ⟨?_, Both.snoc (a2.mono fun y ys hy => ?_) ?_, AllApart.snoc a3 fun y hy => ?_⟩
 ·unfold OwnF
  rw [flat_append, flat_one, List.length_append]
  exact h1
 ·have hy' := hy.below hb
  exact own_grown hy' h2 (apart_type hy' a1' (Ne.symm tyRowInt)).ne
 ·exact own_grown (own_loV hu hlo) h2 (apart_type hu a1' (Ne.symm tyRowInt)).ne
 ·obtain ⟨i, hi⟩ := List.getElem?_of_mem hy
  obtain ⟨ys, hys⟩ : ∃ ys, xss[i]? = some ys := ⟨_, List.getElem?_eq_getElem (by rw [← a2.1]; exact (List.getElem?_eq_some_iff.1 hi).1)⟩
  exact own_apart (B := 0) (a2.2 i y ys hi hys) (fun k hk => (hu.lt k hk).1)
def zeros (n : Nat) : List (List Int) := List.replicate n [0, 0, 0, 0]
set_option maxHeartbeats 2000000 in
theorem l2New_any (w : World) :
 Calls Tryz.prog 129 #[] w fun e w' => ∃ v vs, e = .returned v ∧ OwnRows w.heap.size w' v vs (zeros 12) ∧ Below w.heap.size w w' := by
 go_enter Tryz.func129, Tryz.ntmps129
 go_wp2_with fail
 go_loopw [1, 2] (fun o i wr => ∃ k : Nat, ∃ vs : List Value, k ≤ 12 ∧ vs.length = k ∧ i = .int .i64 k ∧ OwnRows w.heap.size wr o vs (zeros k) ∧ Below w.heap.size w wr) (fun _ i _ => 12 - (intOf i).toNat)
 case atStart => exact ⟨0, [], by omega, rfl, rfl, ⟨ownsRow_empty _ _ _, Both.nil, AllApart.nil⟩, below1 _ _⟩
 case round =>
  obtain ⟨k, vs, hk, hl, rfl, hO, hbel⟩ := hrel
  have Hl := Lib.hid hl; clear hl
  by_cases hlt : k < 12
  ·have hv1 : vs.length ≤ 12 := by rw [Hl.out]; omega
   go_wp2_with (first | (at_make; go_must (refine wp_make (n := 4) rfl rfl 3 (.int .i64 0) 8 Tryz.underlying38 Tryz.infoInt rfl rfl (by omega) (by unfold maxLen; omega) ?_; intro w2 hown hbel2 hsz)) | (at_builtin; go_must (refine wp_appendL (lo := w.heap.size) (n := vs.length) (xs := flat oneCs vs) (m := 1) (news := [.slice (some ⟨wr.heap.size, 0, none⟩) 4 4]) rfl rfl 38 (.slice none 0 0) 1 24 Tryz.underlying28 Tryz.infoRow rfl (by decide) rfl ((hO.below hbel2).below (below1 _ _)).1 rfl (Rd.newsAt _ #[_] _ 1 1 _ (by simp) rfl (by simp [maxLen])) (by simp [Value.oneCell']) (by unfold maxLen; omega) (by omega) (by have := hbel.size; simp; omega) ?_; intro o' w3 g1 g2 g3 g4)))
   go_roundw
   case rel =>
    have hu : OwnInts wr.heap.size w2 (.slice (some ⟨wr.heap.size, 0, none⟩) 4 4) [0, 0, 0, 0] := hown
    have hb2 := hbel2.trans ((below1 w2 (.cells #[.slice (some ⟨wr.heap.size, 0, none⟩) 4 4] 38)).mono hbel2.size)
    have hP := hO.push hb2 hbel.size (hu.below (below1 _ _)) g1 g2
    refine ⟨k + 1, vs ++ [.slice (some ⟨wr.heap.size, 0, none⟩) 4 4], by omega, by rw [List.length_append, Hl.out]; rfl, by go_num, ?_, (hbel.trans (hb2.mono hbel.size)).trans g4⟩
    rw [show zeros (k + 1) = zeros k ++ [[0, 0, 0, 0]] by simp [zeros, List.replicate_succ']]
    exact hP
   case measure => simp [intOf]; omega
  ·obtain rfl : k = 12 := by omega
   go_wp2_with fail
   go_ret
   exact ⟨_, vs, rfl, hO, hbel⟩
theorem run_append_empty {lo : Nat} {w : World} {t ty : TypeId} (e : TypeId) (z : Value) (sz bytes : Nat) (ht : Tryz.prog.underlying t = some (.slice e)) (hi : (Tryz.prog.info? e).map (fun i => (i.zero, i.size, i.bytes)) = some (some z, sz, bytes))
 (hzs : z.cells.size = sz) (hsz : 0 < sz) {g : Nat} (hb : w.heap[g]? = some (.cells #[] e (0, 0))) (hlo : lo ≤ g) {u : Value} {m : Nat} {news : List Value} (hr : Rd w u sz m news) (h1 : ∀ u ∈ news, u.oneCell' = true)
 (hbytes : m * bytes ≤ 140737488355328) : ∃ v' w', (Builtin.append_ #[t, t] ty #[.slice (some ⟨g, 0, none⟩) 0 0, u]).run Tryz.prog w = .ok v' w' ∧ w'.ownsRow lo e sz v' m news ∧ Below w.heap.size w w' ∧ (∀ k, v'.ownBlock = some k → k = g ∨ w.heap.size ≤ k) := by
 obtain ⟨i0, hi0, hz0, hz1, hz2⟩ := info_parts hi
 obtain ⟨ao, c, rfl, hmc, hcm, hl, hnil, hc⟩ := hr
 have hgl : g < w.heap.size := (Array.getElem?_eq_some_iff.1 hb).1
 have hown : ∀ l, l ≤ g → w.ownsRow l e sz (.slice (some ⟨g, 0, none⟩) 0 0) 0 [] := fun l hl => ⟨by simp, .inr ⟨g, 0, #[], rfl, hl, hb, Nat.le_refl _, by simp [maxLen], by simp, by simp⟩⟩
 rcases Nat.eq_zero_or_pos m with rfl | hm
 ·have hnews : news = [] := List.eq_nil_of_length_eq_zero (by simpa using hl)
  subst hnews
  cases ao with
  | none =>
   have hc0 := hnil rfl
   subst hc0
   exact ⟨_, w, by simp [Builtin.append_, run_underlying ht, sizeOf, typeInfo, hi0, Builtin.lenOf, Builtin.firstCells, storeCells], hown lo hlo, Below.refl _ _, fun k hk => by simp [Value.ownBlock] at hk; exact .inl hk.symm⟩
  | some a =>
   have hf := run_firstCells_some (P := Tryz.prog) w i0.size 0 a 0 c [] (by simp) (by simp)
   exact ⟨_, w, by simp [Builtin.append_, run_underlying ht, sizeOf, typeInfo, hi0, Builtin.lenOf, hf, storeCells], hown lo hlo, Below.refl _ _, fun k hk => by simp [Value.ownBlock] at hk; exact .inl hk.symm⟩
 ·obtain ⟨b, off, rfl, hcell⟩ := hc hm
  obtain ⟨v', w', hrun, r1, r2⟩ := run_append_arg_grows (P := Tryz.prog) w t ty e i0 z sz bytes ht hi0 hz0 hz1 hz2 hzs hsz ⟨g, 0, none⟩ 0 0 [] (by simp) (by simp) ⟨b, off, none⟩ m c news hl (by
   intro j u hu
   have hj : j < news.length := (List.getElem?_eq_some_iff.1 hu).1
   have hadd : (⟨b, off, none⟩ : Addr).add j = ⟨b, off + j, none⟩ := by unfold Addr.add; split <;> simp_all
   rw [hadd, hcell j (by omega), hu]) (by omega) (by omega) (by rw [Nat.zero_add]; exact hbytes)
  have hB := Below.of_grown r2
  have r1' : w'.ownsRow w.heap.size e sz v' m news := by simpa using r1
  exact ⟨v', w', hrun, own_loV r1' (by omega), hB, fun k hk => .inr (r1'.lt k hk).1⟩
end Go.Proofs.YtjacdlekgdnndaaGreatDoor
