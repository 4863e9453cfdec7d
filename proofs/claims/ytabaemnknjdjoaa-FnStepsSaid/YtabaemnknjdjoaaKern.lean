/-
  Kernels as data: what their values read as, and who owns their memory.
-/
import Derived.Test.YtabaemnknjdjoaaReg
set_option linter.unusedVariables false
namespace Go.Proofs.Ytabaemnknjdjoaa
open Go.RowKit

/-- What is known of a frame. -/
structure InfoV where
  k : Int
  g : ByteArray
  r : Int
def infoCs (x : InfoV) : List Value := [.int .i64 x.k, .string x.g, .int .i64 x.r]
theorem infoCs_len (x : InfoV) : (infoCs x).length = 3 := rfl
def InfoV.val (x : InfoV) : Value := .agg #[.int .i64 x.k, .string x.g, .int .i64 x.r]
def InfoV.zero : InfoV := ⟨0, ⟨#[]⟩, 0⟩

/-- A translation. -/
structure CachedV where
  e : Int
  p : Int
  f : Int
  w : Bool
def cachedCs (x : CachedV) : List Value := [.int .i64 x.e, .int .i64 x.p, .int .i64 x.f, .bool x.w]
theorem cachedCs_len (x : CachedV) : (cachedCs x).length = 4 := rfl
def CachedV.val (x : CachedV) : Value := .agg #[.int .i64 x.e, .int .i64 x.p, .int .i64 x.f, .bool x.w]

/-- An environment. -/
structure EnvV where
  rights : List ByteArray
  root : Int

structure KernV where
  mem : List (List Int)
  infos : List InfoV
  envs : List EnvV
  cache : List CachedV

def strCs (s : ByteArray) : List Value := [.string s]
theorem strCs_len (s : ByteArray) : (strCs s).length = 1 := rfl
def oneCs (v : Value) : List Value := [v]
theorem oneCs_len (v : Value) : (oneCs v).length = 1 := rfl
def pairCs (p : Value × Int) : List Value := [p.1, .int .i64 p.2]
theorem pairCs_len (p : Value × Int) : (pairCs p).length = 2 := rfl

/-- v reads as the elements xs, each of which lies in sz cells. -/
def RdF {α : Type} (sz : Nat) (cs : α → List Value) (w : World) (v : Value) (xs : List α) : Prop := Rd w v sz xs.length (flat cs xs)
/-- v owns a row of the elements xs, from block lo on. -/
def OwnF {α : Type} (lo e sz : Nat) (cs : α → List Value) (w : World) (v : Value) (xs : List α) : Prop := w.ownsRow lo e sz v xs.length (flat cs xs)

section
variable {α : Type} {sz lo e : Nat} {cs : α → List Value} {w w' : World} {v : Value} {xs : List α}
theorem RdF.below (h : RdF sz cs w v xs) (hb : Below w.heap.size w w') : RdF sz cs w' v xs := Rd.below h hb
theorem OwnF.rd (h : OwnF lo e sz cs w v xs) : RdF sz cs w v xs := Rd.of_owns h
theorem OwnF.below (h : OwnF lo e sz cs w v xs) (hb : Below w.heap.size w w') : OwnF lo e sz cs w' v xs := ownsRow_below h hb
theorem OwnF.grown {row : Option Nat} (h : OwnF lo e sz cs w v xs) (hg : w.grownBy w' row) (hne : v.ownBlock = none ∨ v.ownBlock ≠ row) : OwnF lo e sz cs w' v xs := own_grown h hg hne
theorem OwnF.lower {lo' : Nat} (h : OwnF lo e sz cs w v xs) (hl : lo' ≤ lo) : OwnF lo' e sz cs w v xs := own_loV h hl
theorem RdF.shape (h : RdF sz cs w v xs) : ∃ a cap, v = .slice a xs.length cap ∧ xs.length ≤ cap ∧ cap ≤ maxLen := Rd.shape h
theorem RdF.open (hs : ∀ x, (cs x).length = sz) (hsz : 0 < sz) (h : RdF sz cs w v xs) : ∃ a cap, v = .slice a xs.length cap ∧ xs.length ≤ cap ∧ cap ≤ maxLen ∧ AtF sz cs w a xs := by
  obtain ⟨a, cap, rfl, h1, h2⟩ := Rd.shape h
  exact ⟨a, cap, rfl, h1, h2, AtF.of hs hsz h⟩
end

abbrev RdInfos (w : World) (v : Value) (xs : List InfoV) : Prop := RdF 3 infoCs w v xs
abbrev RdCache (w : World) (v : Value) (xs : List CachedV) : Prop := RdF 4 cachedCs w v xs
abbrev RdStrs (w : World) (v : Value) (xs : List ByteArray) : Prop := RdF 1 strCs w v xs

/-- Two lists walk together. -/
def Both {α β : Type} (R : α → β → Prop) (xs : List α) (ys : List β) : Prop := xs.length = ys.length ∧ ∀ (i : Nat) x y, xs[i]? = some x → ys[i]? = some y → R x y
theorem Both.mono {α β : Type} {R S : α → β → Prop} {xs : List α} {ys : List β} (h : Both R xs ys) (hRS : ∀ x y, R x y → S x y) : Both S xs ys := ⟨h.1, fun i x y hx hy => hRS _ _ (h.2 i x y hx hy)⟩
theorem Both.nil {α β : Type} {R : α → β → Prop} : Both R [] [] := ⟨rfl, fun i x y h => by simp at h⟩
theorem Both.snoc {α β : Type} {R : α → β → Prop} {xs : List α} {ys : List β} {x : α} {y : β} (h : Both R xs ys) (hxy : R x y) : Both R (xs ++ [x]) (ys ++ [y]) := by
  refine ⟨by simp [h.1], fun i a b ha hb => ?_⟩
  by_cases hi : i < xs.length
  · rw [List.getElem?_append_left hi] at ha
    rw [List.getElem?_append_left (by rw [← h.1]; exact hi)] at hb
    exact h.2 i a b ha hb
  · have h1 := (List.getElem?_eq_some_iff.1 ha).1
    simp at h1
    obtain rfl : i = xs.length := by omega
    simp at ha
    rw [h.1] at hb
    simp at hb
    subst ha hb
    exact hxy

/-- v reads as the lists of numbers xss. -/
def RdRows (w : World) (v : Value) (xss : List (List Int)) : Prop := ∃ vs, RdF 1 oneCs w v vs ∧ Both (RdInts w) vs xss
/-- v reads as the lists of texts. -/
def RdTexts (w : World) (v : Value) (tss : List (List ByteArray)) : Prop := ∃ vs, RdF 1 oneCs w v vs ∧ Both (RdStrs w) vs tss
/-- v reads as the environments es. -/
def RdEnvs (w : World) (v : Value) (es : List EnvV) : Prop := ∃ ps, RdF 2 pairCs w v ps ∧ Both (fun p e => RdStrs w p.1 e.rights ∧ p.2 = e.root) ps es

/-- The cells of a kernel. -/
def RdK (w : World) (m i e c : Value) (k : KernV) : Prop := RdRows w m k.mem ∧ RdInfos w i k.infos ∧ RdEnvs w e k.envs ∧ RdCache w c k.cache

section
variable {w w' : World} {v : Value}
theorem RdRows.below {xss : List (List Int)} (h : RdRows w v xss) (hb : Below w.heap.size w w') : RdRows w' v xss := by
  obtain ⟨vs, h1, h2⟩ := h
  exact ⟨vs, h1.below hb, h2.mono fun _ _ h => RdInts.below h hb⟩
theorem RdTexts.below {tss : List (List ByteArray)} (h : RdTexts w v tss) (hb : Below w.heap.size w w') : RdTexts w' v tss := by
  obtain ⟨vs, h1, h2⟩ := h
  exact ⟨vs, h1.below hb, h2.mono fun _ _ h => RdF.below h hb⟩
theorem RdEnvs.below {es : List EnvV} (h : RdEnvs w v es) (hb : Below w.heap.size w w') : RdEnvs w' v es := by
  obtain ⟨ps, h1, h2⟩ := h
  exact ⟨ps, h1.below hb, h2.mono fun _ _ h => ⟨RdF.below h.1 hb, h.2⟩⟩
theorem RdK.below {m i e c : Value} {k : KernV} (h : RdK w m i e c k) (hb : Below w.heap.size w w') : RdK w' m i e c k := ⟨h.1.below hb, h.2.1.below hb, h.2.2.1.below hb, h.2.2.2.below hb⟩
end

/-- No two of some rows share a block. -/
def AllApart (vs : List Value) : Prop := ∀ (i j : Nat) u u', i ≠ j → vs[i]? = some u → vs[j]? = some u' → Apart u u'
theorem AllApart.nil : AllApart [] := fun i j u u' _ h => by simp at h
theorem AllApart.snoc {vs : List Value} {v : Value} (h : AllApart vs) (hv : ∀ u ∈ vs, Apart u v) : AllApart (vs ++ [v]) := by
  intro i j u u' hij hi hj
  have h1 := (List.getElem?_eq_some_iff.1 hi).1
  have h2 := (List.getElem?_eq_some_iff.1 hj).1
  simp at h1 h2
  by_cases hi' : i < vs.length
  · rw [List.getElem?_append_left hi'] at hi
    by_cases hj' : j < vs.length
    · rw [List.getElem?_append_left hj'] at hj
      exact h i j u u' hij hi hj
    · obtain rfl : j = vs.length := by omega
      simp at hj
      subst hj
      exact hv u (List.mem_of_getElem? hi)
  · obtain rfl : i = vs.length := by omega
    simp at hi
    subst hi
    rw [List.getElem?_append_left (by omega)] at hj
    exact (hv u' (List.mem_of_getElem? hj)).symm

/-- v owns the rows vs, which own the lists of numbers xss. -/
def OwnRows (lo : Nat) (w : World) (v : Value) (vs : List Value) (xss : List (List Int)) : Prop := OwnF lo 30 1 oneCs w v vs ∧ Both (OwnInts lo w) vs xss ∧ AllApart vs
/-- v owns the environments es, whose rights lie in the rows ps. -/
def OwnEnvs (lo : Nat) (w : World) (v : Value) (ps : List (Value × Int)) (es : List EnvV) : Prop := OwnF lo 85 2 pairCs w v ps ∧ Both (fun p e => OwnF lo 9 1 strCs w p.1 e.rights ∧ p.2 = e.root) ps es ∧ AllApart (ps.map (·.1))
theorem OwnRows.rd {lo : Nat} {w : World} {v : Value} {vs : List Value} {xss : List (List Int)} (h : OwnRows lo w v vs xss) : RdRows w v xss := ⟨vs, h.1.rd, h.2.1.mono fun _ _ h => OwnInts.rd h⟩
theorem OwnEnvs.rd {lo : Nat} {w : World} {v : Value} {ps : List (Value × Int)} {es : List EnvV} (h : OwnEnvs lo w v ps es) : RdEnvs w v es := ⟨ps, h.1.rd, h.2.1.mono fun _ _ h => ⟨h.1.rd, h.2⟩⟩
theorem OwnRows.below {lo : Nat} {w w' : World} {v : Value} {vs : List Value} {xss : List (List Int)} (h : OwnRows lo w v vs xss) (hb : Below w.heap.size w w') : OwnRows lo w' v vs xss := ⟨h.1.below hb, h.2.1.mono fun _ _ h => OwnInts.below h hb, h.2.2⟩
theorem OwnEnvs.below {lo : Nat} {w w' : World} {v : Value} {ps : List (Value × Int)} {es : List EnvV} (h : OwnEnvs lo w v ps es) (hb : Below w.heap.size w w') : OwnEnvs lo w' v ps es := ⟨h.1.below hb, h.2.1.mono fun _ _ h => ⟨h.1.below hb, h.2⟩, h.2.2⟩

theorem OwnRows.lower {lo lo' : Nat} {w : World} {v : Value} {vs : List Value} {xss : List (List Int)} (h : OwnRows lo w v vs xss) (hl : lo' ≤ lo) : OwnRows lo' w v vs xss := ⟨h.1.lower hl, h.2.1.mono fun _ _ h => own_loV h hl, h.2.2⟩
theorem OwnEnvs.lower {lo lo' : Nat} {w : World} {v : Value} {ps : List (Value × Int)} {es : List EnvV} (h : OwnEnvs lo w v ps es) (hl : lo' ≤ lo) : OwnEnvs lo' w v ps es := ⟨h.1.lower hl, h.2.1.mono fun _ _ h => ⟨h.1.lower hl, h.2⟩, h.2.2⟩
theorem own_empty {α : Type} (cs : α → List Value) (w : World) (e sz : Nat) : OwnF w.heap.size e sz cs (w.alloc (.cells #[] e)) (.slice (some ⟨w.heap.size, 0, none⟩) 0 0) [] := ownsRow_empty w e sz

/-- A kernel of its own, from block lo on. -/
def OwnK (lo : Nat) (w : World) (m i e c : Value) (k : KernV) : Prop :=
  (∃ vs, OwnRows lo w m vs k.mem) ∧ OwnF lo 92 3 infoCs w i k.infos ∧ (∃ ps, OwnEnvs lo w e ps k.envs) ∧ OwnF lo 110 4 cachedCs w c k.cache
theorem OwnK.rd {lo : Nat} {w : World} {m i e c : Value} {k : KernV} (h : OwnK lo w m i e c k) : RdK w m i e c k := ⟨h.1.choose_spec.rd, h.2.1.rd, h.2.2.1.choose_spec.rd, h.2.2.2.rd⟩
theorem OwnK.below {lo : Nat} {w w' : World} {m i e c : Value} {k : KernV} (h : OwnK lo w m i e c k) (hb : Below w.heap.size w w') : OwnK lo w' m i e c k :=
  ⟨⟨_, h.1.choose_spec.below hb⟩, h.2.1.below hb, ⟨_, h.2.2.1.choose_spec.below hb⟩, h.2.2.2.below hb⟩

theorem own_type {w : World} {lo e sz n : Nat} {v : Value} {xs : List Value} (h : w.ownsRow lo e sz v n xs) : ∀ g, v.ownBlock = some g → ∃ cur, w.heap[g]? = some (.cells cur e (0, 0)) := by
  intro g hg
  rcases h.2 with ⟨rfl, _⟩ | ⟨g', cap, cur, rfl, _, hh, _⟩
  · simp [Value.ownBlock] at hg
  · simp [Value.ownBlock] at hg
    subst hg
    exact ⟨cur, hh⟩
/-- Rows of different elements lie apart. -/
theorem apart_type {w : World} {lo lo' e e' sz sz' n n' : Nat} {v v' : Value} {xs xs' : List Value} (h : w.ownsRow lo e sz v n xs) (h' : w.ownsRow lo' e' sz' v' n' xs') (hne : e ≠ e') : Apart v v' := by
  intro g hg hg'
  obtain ⟨c1, h1⟩ := own_type h g hg
  obtain ⟨c2, h2⟩ := own_type h' g hg'
  rw [h1] at h2
  simp at h2
  exact hne h2.2

theorem blk_cells4 {w : World} {g t : Nat} {m i e c : Value} (h : w.heap[g]? = some (.cells #[m, i, e, c] t (0, 0))) : w.cell? ⟨g, 0, none⟩ = some m ∧ w.cell? ⟨g, 1, none⟩ = some i ∧ w.cell? ⟨g, 2, none⟩ = some e ∧ w.cell? ⟨g, 3, none⟩ = some c :=
  ⟨cell_of_row w g 0 _ _ _ h, cell_of_row w g 1 _ _ _ h, cell_of_row w g 2 _ _ _ h, cell_of_row w g 3 _ _ _ h⟩
theorem blk_frozen {w : World} {g t : Nat} {cs : Array Value} (h : w.heap[g]? = some (.cells cs t (0, 0))) : ∀ j, w.frozen? ⟨g, j, none⟩ = false := fun j => frozen_of_row w g j _ _ h
theorem blk_lt {w : World} {g : Nat} {o : Obj} (h : w.heap[g]? = some o) : g < w.heap.size := (Array.getElem?_eq_some_iff.1 h).1
theorem blk_below {w w' : World} {g : Nat} {o : Obj} (h : w.heap[g]? = some o) (hb : Below w.heap.size w w') : w'.heap[g]? = some o := (hb.block g (blk_lt h)).trans h
theorem blk_set4 {w : World} {g t : Nat} {m i e c m' i' e' c' : Value} (h : w.heap[g]? = some (.cells #[m, i, e, c] t (0, 0))) :
    ((((w.setCell ⟨g, 0, none⟩ m').setCell ⟨g, 1, none⟩ i').setCell ⟨g, 2, none⟩ e').setCell ⟨g, 3, none⟩ c').heap[g]? = some (.cells #[m', i', e', c'] t (0, 0)) := by
  have h0 := heap_setCell_same w g 0 _ t m' h
  have h1 := heap_setCell_same _ g 1 _ t i' h0
  have h2 := heap_setCell_same _ g 2 _ t e' h1
  have h3 := heap_setCell_same _ g 3 _ t c' h2
  simpa using h3

theorem own_far {w w' : World} {lo e sz n g T : Nat} {v : Value} {xs : List Value} {cur : Array Value} {fr : Nat × Nat} (h : w.ownsRow lo e sz v n xs) (hg : w.grownBy w' (some g)) (hb : w.heap[g]? = some (.cells cur T fr)) (hne : e ≠ T) : w'.ownsRow lo e sz v n xs := by
  refine own_grown h hg ?_
  cases hv : v.ownBlock with
  | none => exact .inl rfl
  | some k =>
    refine .inr fun he => ?_
    simp only [Option.some.injEq] at he
    subst he
    obtain ⟨c1, h1⟩ := own_type h k hv
    rw [h1] at hb
    simp at hb
    exact hne hb.2.1
section
variable {w w' : World} {lo g T : Nat} {v : Value} {cur : Array Value} {fr : Nat × Nat}
theorem OwnF.far {α : Type} {e sz : Nat} {cs : α → List Value} {xs : List α} (h : OwnF lo e sz cs w v xs) (hg : w.grownBy w' (some g)) (hb : w.heap[g]? = some (.cells cur T fr)) (hne : e ≠ T) : OwnF lo e sz cs w' v xs := own_far h hg hb hne
theorem OwnRows.far {vs : List Value} {xss : List (List Int)} (h : OwnRows lo w v vs xss) (hg : w.grownBy w' (some g)) (hb : w.heap[g]? = some (.cells cur T fr)) (h1 : 30 ≠ T) (h2 : 3 ≠ T) : OwnRows lo w' v vs xss :=
  ⟨h.1.far hg hb h1, h.2.1.mono fun _ _ h => own_far h hg hb h2, h.2.2⟩
theorem OwnEnvs.far {ps : List (Value × Int)} {es : List EnvV} (h : OwnEnvs lo w v ps es) (hg : w.grownBy w' (some g)) (hb : w.heap[g]? = some (.cells cur T fr)) (h1 : 85 ≠ T) (h2 : 9 ≠ T) : OwnEnvs lo w' v ps es :=
  ⟨h.1.far hg hb h1, h.2.1.mono fun _ _ h => ⟨h.1.far hg hb h2, h.2⟩, h.2.2⟩
end
theorem OwnRows.kept {w w' : World} {lo lo' e sz n : Nat} {v u : Value} {vs xs : List Value} {xss : List (List Int)} (h : OwnRows lo w v vs xss) (hg : w.grownBy w' u.ownBlock) (hu : w.ownsRow lo' e sz u n xs) (h1 : 30 ≠ e) (h2 : 3 ≠ e) : OwnRows lo w' v vs xss :=
  ⟨own_grown h.1 hg (apart_type h.1 hu h1).ne, h.2.1.mono fun _ _ h => own_grown h hg (apart_type h hu h2).ne, h.2.2⟩
theorem grown_set (w : World) (g j : Nat) (u : Value) : w.grownBy (w.setCell ⟨g, j, none⟩ u) (some g) := ⟨rfl, rfl, rfl, by simp, fun k _ hk => heap_setCell_other w ⟨g, j, none⟩ k u (fun e => hk (by simp [e]))⟩
theorem grown_set' {w0 w : World} {g : Nat} (h : w0.grownBy w (some g)) (j : Nat) (u : Value) : w0.grownBy (w.setCell ⟨g, j, none⟩ u) (some g) := grown_trans h (grown_set w g j u)
end Go.Proofs.Ytabaemnknjdjoaa
