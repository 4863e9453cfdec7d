/-
  Packed: 13 texts.
-/
import Derived.Test.YtjacdlekgdnndaaGreatDoorY2
import Derived.Test.YtjacdlekgdnndaaGreatDoorY1
import Derived.Lib.QuietBelow
import Derived.Outline
import Derived.Lib.SliceRun
import Derived.StillTailTactics
set_option linter.unusedVariables false
set_option linter.unusedSimpArgs false
namespace Go.Proofs.YtjacdlekgdnndaaGreatDoor
def rootOf (k : KernV) (e : Nat) : Int := (envAt k.envs e).root
def rightsOf (k : KernV) (e : Nat) : List ByteArray := (envAt k.envs e).rights
def kindAt (k : KernV) (f : Nat) : Int := (infoAt k.infos f).k
def KGok (x : InfoV) : Prop := (x.k = 0 ∧ x.g = ⟨#[]⟩) ∨ (1 ≤ x.k ∧ x.k ≤ 3 ∧ rightOk x.g = true)
def cnt (m : List (List Int)) (infos : List InfoV) (g t : Nat) : Nat := if tabK (infoAt infos t).k then (named (rowAt m t)).count g else 0
theorem countP_eq {m : List (List Int)} {infos : List InfoV} {g : Nat} : countP m infos g = ((List.range 12).map (cnt m infos g)).sum := rfl
theorem tabK_iff {k : Int} : tabK k = true ↔ k = 2 ∨ k = 3 := by simp [tabK]
structure KOk (k : KernV) : Prop where
 mem : memOk k.mem = true
 len : k.infos.length = 12
 inf : ∀ f, f < 12 → KGok (infoAt k.infos f)
 cache : cacheOk k.cache = true
 envl : k.envs.length = 3
 rights : ∀ e, e < 3 → rightsOk (rightsOf k e) = true
 roots : ∀ e, e < 3 → rootOf k e = -1 ∨ (0 ≤ rootOf k e ∧ rootOf k e ≤ 11 ∧ kindAt k (rootOf k e).toNat = 3)
 allow : ∀ e, e < 3 → ∀ f, f ∈ reachL k.mem (rootOf k e) → mayP (rightsOf k e) (infoAt k.infos f).g = true
 tabs : ∀ f, f < 12 → tabK (kindAt k f) = true → ∀ w ∈ rowAt k.mem f, (entG w = true ∧ entF w ≠ f ∧ kindAt k (entF w) = kindAt k f - 1) ∨ w = 0
 refs : ∀ f, f < 12 → (infoAt k.infos f).r = (countP k.mem k.infos f : Int) + (rootsP k.envs f : Int)
 trans : ∀ x ∈ k.cache, transOk k x = true
theorem rootsP_eq {envs : List EnvV} (h : envs.length = 3) (g : Nat) : rootsP envs g = b2n (decide ((envAt envs 0).root = (g : Int))) + b2n (decide ((envAt envs 1).root = (g : Int))) + b2n (decide ((envAt envs 2).root = (g : Int))) := by
 match envs, h with
 | [a, b, c], _ =>
  simp only [rootsP, List.countP_cons, List.countP_nil, envAt, b2n]
  simp
  omega
section
variable {k : KernV} (h : KOk k)
include h
theorem KOk.row {f : Nat} (hf : f < 12) : (rowAt k.mem f).length = 4 := (rowOk_iff.1 ((memOk_iff.1 h.mem).2 f hf)).1
theorem KOk.word {f i : Nat} (hf : f < 12) (hi : i < 4) : 0 ≤ wdAt k.mem f i ∧ wdAt k.mem f i ≤ 9999 := (rowOk_iff.1 ((memOk_iff.1 h.mem).2 f hf)).2 _ (getD_mem (by rw [h.row hf]; exact hi))
theorem KOk.named {f g : Nat} (hf : f < 12) (ht : tabK (kindAt k f) = true) (hg : g ∈ named (rowAt k.mem f)) : g < 12 ∧ g ≠ f ∧ kindAt k g = kindAt k f - 1 := by
 obtain ⟨w, hw, h1, rfl⟩ := named_mem.1 hg
 rcases h.tabs f hf ht w hw with ⟨_, a, b⟩ | rfl
 ·exact ⟨entF_lt h1, a, b⟩
 ·simp [entG] at h1
theorem KOk.root_kind {e : Nat} (he : e < 3) (hr : 0 ≤ rootOf k e) : (rootOf k e).toNat < 12 ∧ kindAt k (rootOf k e).toNat = 3 := by
 rcases h.roots e he with a | ⟨a, b, c⟩
 ·omega
 ·exact ⟨by omega, c⟩
theorem KOk.low_kind {e t : Nat} (he : e < 3) (hr : 0 ≤ rootOf k e) (ht : t ∈ Go.Proofs.YtjacdlekgdnndaaGreatDoor.named (rowAt k.mem (rootOf k e).toNat)) : t < 12 ∧ kindAt k t = 2 := by
 obtain ⟨a, b⟩ := h.root_kind he hr
 have := h.named a (by rw [b]; rfl) ht
 exact ⟨this.1, by omega⟩
theorem KOk.data_kind {e t f : Nat} (he : e < 3) (hr : 0 ≤ rootOf k e) (ht : t ∈ Go.Proofs.YtjacdlekgdnndaaGreatDoor.named (rowAt k.mem (rootOf k e).toNat)) (hf : f ∈ Go.Proofs.YtjacdlekgdnndaaGreatDoor.named (rowAt k.mem t)) : f < 12 ∧ kindAt k f = 1 := by
 obtain ⟨a, b⟩ := h.low_kind he hr ht
 have := h.named a (by rw [b]; rfl) hf
 exact ⟨this.1, by omega⟩
theorem KOk.reach_lt {e f : Nat} (he : e < 3) (hf : f ∈ reachL k.mem (rootOf k e)) : f < 12 ∧ 1 ≤ kindAt k f := by
 obtain ⟨hr, h1⟩ := reach_mem.1 hf
 rcases h1 with rfl | h1 | ⟨t, ht, h1⟩
 ·have := h.root_kind he hr; exact ⟨this.1, by omega⟩
 ·have := h.low_kind he hr h1; exact ⟨this.1, by omega⟩
 ·have := h.data_kind he hr ht h1; exact ⟨this.1, by omega⟩
theorem KOk.cnt_zero {g : Nat} (hg : g < 12) : cnt k.mem k.infos g g = 0 := by
 unfold cnt
 split
 ·rename_i ht
  rw [List.count_eq_zero]
  intro hm
  exact (h.named hg ht hm).2.1 rfl
 ·rfl
theorem KOk.cnt_le {g t : Nat} (ht : t < 12) : cnt k.mem k.infos g t ≤ 4 := by
 unfold cnt
 split
 ·have h1 : (Go.Proofs.YtjacdlekgdnndaaGreatDoor.named (rowAt k.mem t)).count g ≤ _ := List.count_le_length
  have h2 := named_len (r := rowAt k.mem t)
  rw [h.row ht] at h2
  omega
 ·omega
theorem KOk.count_le {g : Nat} (hg : g < 12) : countP k.mem k.infos g ≤ 44 := by
 have : ((List.range 12).map (cnt k.mem k.infos g)).sum + 4 ≤ 4 * 12 := sum_le_but hg (fun t ht => h.cnt_le (g := g) ht) (h.cnt_zero hg)
 rw [countP_eq]
 omega
theorem KOk.refs_le {f : Nat} (hf : f < 12) : 0 ≤ (infoAt k.infos f).r ∧ (infoAt k.infos f).r ≤ 47 := by
 have h1 := h.count_le hf
 have h2 : rootsP k.envs f ≤ 3 := by
  have := List.countP_le_length (p := fun e : EnvV => decide (e.root = (f : Int))) (l := k.envs)
  rw [h.envl] at this
  exact this
 rw [h.refs f hf]
 omega
theorem KOk.unused {f : Nat} (hf : f < 12) (h0 : (infoAt k.infos f).r = 0) : (∀ t, t < 12 → tabK (kindAt k t) = true → f ∉ Go.Proofs.YtjacdlekgdnndaaGreatDoor.named (rowAt k.mem t)) ∧ ∀ e, e < 3 → rootOf k e ≠ (f : Int) := by
 have h1 := h.refs f hf
 have h2 : countP k.mem k.infos f = 0 := by omega
 have h3 : rootsP k.envs f = 0 := by omega
 rw [countP_eq, sum_zero] at h2
 constructor
 ·intro t ht htab hm
  have := h2 t ht
  unfold cnt kindAt at *
  rw [if_pos htab, List.count_eq_zero] at this
  exact this hm
 ·intro e he
  rw [rootsP_eq h.envl] at h3
  unfold b2n at h3
  have : e = 0 ∨ e = 1 ∨ e = 2 := by omega
  intro hr
  unfold rootOf at hr
  rcases this with rfl | rfl | rfl <;> simp [hr] at h3
theorem KOk.free_unused {f : Nat} (hf : f < 12) (h0 : kindAt k f = 0) : (infoAt k.infos f).r = 0 := by
 rw [h.refs f hf]
 have h2 : countP k.mem k.infos f = 0 := by
  rw [countP_eq, sum_zero]
  intro t ht
  unfold cnt
  split
  ·rename_i htab
   rw [List.count_eq_zero]
   intro hm
   have := (h.named ht htab hm).2.2
   have : kindAt k t = 2 ∨ kindAt k t = 3 := tabK_iff.1 htab
   omega
  ·rfl
 have h3 : rootsP k.envs f = 0 := by
  rw [rootsP_eq h.envl]
  have key : ∀ e, e < 3 → b2n (decide ((envAt k.envs e).root = (f : Int))) = 0 := by
   intro e he
   unfold b2n
   by_cases hr : (envAt k.envs e).root = (f : Int)
   ·exfalso
    have : rootOf k e = (f : Int) := hr
    have := h.root_kind he (by omega)
    rw [‹rootOf k e = (f : Int)›] at this
    simp at this
    omega
   ·simp [hr]
  rw [key 0 (by omega), key 1 (by omega), key 2 (by omega)]
 omega
theorem KOk.walk_data {e a : Nat} (he : e < 3) (hr : 0 ≤ rootOf k e) (hw : (walkP k.mem (rootOf k e).toNat a).1 = 0) : (walkP k.mem (rootOf k e).toNat a).2.1 < 12 ∧ kindAt k (walkP k.mem (rootOf k e).toNat a).2.1 = 1 ∧ (walkP k.mem (rootOf k e).toNat a).2.1 ∈ reachL k.mem (rootOf k e) := by
 unfold walkP at hw ⊢
 split at hw
 ·rename_i h1
  split at hw
  ·rename_i h2
   rw [if_pos h1, if_pos h2]
   have m1 := wd_named h1
   have m2 := wd_named h2
   have := h.data_kind he hr m1 m2
   exact ⟨this.1, this.2, reach_mem.2 ⟨hr, .inr (.inr ⟨_, m1, m2⟩)⟩⟩
  ·simp at hw
 ·simp at hw
end
theorem infoOk_of {x : InfoV} (h : KGok x) (h0 : 0 ≤ x.r) (h1 : x.r ≤ 50) (hz : x.k = 0 → x.r = 0) : infoOk x = true := by
 rcases h with ⟨a, b⟩ | ⟨a, b, c⟩
 ·have : x = InfoV.zero := by
   obtain ⟨k, g, r⟩ := x
   simp at a b hz
   subst a b
   simp [InfoV.zero, hz rfl]
  simp [infoOk, this]
 ·simp [infoOk, inB, a, b, c, h0, h1]
theorem infoOk_kg {x : InfoV} (h : infoOk x = true) : KGok x := by
 unfold infoOk at h
 simp only [Bool.or_eq_true, decide_eq_true_eq, Bool.and_eq_true, inB_iff] at h
 rcases h with rfl | ⟨⟨⟨a, b⟩, c⟩, _⟩
 ·exact .inl ⟨rfl, rfl⟩
 ·exact .inr ⟨a, b, c⟩
theorem infosOk_iff {l : List InfoV} : infosOk l = true ↔ l.length = 12 ∧ ∀ f, f < 12 → infoOk (infoAt l f) = true := by
 simp only [infosOk, Bool.and_eq_true, List.all_eq_true, decide_eq_true_eq]
 constructor
 ·rintro ⟨h1, h2⟩
  exact ⟨h2, fun f hf => h1 _ (getD_mem (by omega))⟩
 ·rintro ⟨h1, h2⟩
  refine ⟨fun r hr => ?_, h1⟩
  obtain ⟨i, hi, rfl⟩ := mem_getD (d := InfoV.zero) hr
  exact h2 i (by omega)
theorem goodW_iff {infos : List InfoV} {f : Nat} {kind : Int} {rights : List ByteArray} {w : Int} : goodW infos f kind rights w = true ↔ (entG w = true ∧ entF w ≠ f ∧ (infoAt infos (entF w)).k = kind - 1 ∧ mayP rights (infoAt infos (entF w)).g = true) ∨ (entG w = false ∧ w = 0) := by
 unfold goodW
 cases h : entG w <;> simp [and_assoc]
theorem goodP_iff {m : List (List Int)} {infos : List InfoV} {f : Nat} {kind : Int} {rights : List ByteArray} : goodP m infos f kind rights = true ↔ ∀ w ∈ rowAt m f, goodW infos f kind rights w = true := by simp [goodP, List.all_eq_true]
theorem env_cases {envs : List EnvV} (h : envs.length = 3) {p : EnvV → Bool} : envs.all p = true ↔ ∀ e, e < 3 → p (envAt envs e) = true := by
 rw [List.all_eq_true]
 constructor
 ·intro hp e he
  exact hp _ (getD_mem (by omega))
 ·intro hp x hx
  obtain ⟨i, hi, rfl⟩ := mem_getD (d := ⟨[], 0⟩) hx
  exact hp i (by omega)
theorem kernOk_iff {k : KernV} : kernOk k = true ↔ KOk k := by
 unfold kernOk
 simp only [Bool.and_eq_true, range_all]
 constructor
 ·rintro ⟨⟨⟨⟨⟨⟨h1, h2⟩, h3⟩, h4⟩, h5⟩, h6⟩, h7⟩
  unfold envsOk at h4
  simp only [Bool.and_eq_true, decide_eq_true_eq] at h4
  obtain ⟨h4, hl⟩ := h4
  rw [env_cases hl] at h4
  rw [infosOk_iff] at h2
  have hE : ∀ e, e < 3 → rightsOk (rightsOf k e) = true ∧ (rootOf k e = -1 ∨ (0 ≤ rootOf k e ∧ rootOf k e ≤ 11) ∧ kindAt k (rootOf k e).toNat = 3) ∧ allowedP k.infos (reachL k.mem (rootOf k e)) (rightsOf k e) = true := by
   intro e he
   have := h4 e he
   unfold envOk at this
   simp only [Bool.and_eq_true, Bool.or_eq_true, decide_eq_true_eq, inB_iff] at this
   exact ⟨this.1.1, this.1.2, this.2⟩
  refine ⟨h1, h2.1, fun f hf => infoOk_kg (h2.2 f hf), h3, hl, fun e he => (hE e he).1, fun e he => ?_, fun e he => allowed_iff.1 (hE e he).2.2, fun f hf ht w hw => ?_, fun f hf => ?_, fun x hx => List.all_eq_true.1 h7 x hx⟩
  ·rcases (hE e he).2.1 with a | ⟨⟨a, b⟩, c⟩
   ·exact .inl a
   ·exact .inr ⟨a, b, c⟩
  ·have := h5 f hf
   unfold tableOk at this
   unfold kindAt at ht
   rw [ht, Bool.not_true, Bool.false_or, goodP_iff] at this
   rcases goodW_iff.1 (this w hw) with ⟨a, b, c, _⟩ | ⟨_, a⟩
   ·exact .inl ⟨a, b, c⟩
   ·exact .inr a
  ·have := h6 f hf
   simpa [refOk] using this
 ·intro h
  refine ⟨⟨⟨⟨⟨⟨h.mem, ?_⟩, h.cache⟩, ?_⟩, fun f hf => ?_⟩, fun f hf => ?_⟩, List.all_eq_true.2 h.trans⟩
  ·rw [infosOk_iff]
   refine ⟨h.len, fun f hf => infoOk_of (h.inf f hf) (h.refs_le hf).1 (by have := (h.refs_le hf).2; omega) (fun h0 => h.free_unused hf h0)⟩
  ·unfold envsOk
   simp only [Bool.and_eq_true, decide_eq_true_eq]
   refine ⟨?_, h.envl⟩
   rw [env_cases h.envl]
   intro e he
   unfold envOk
   simp only [Bool.and_eq_true, Bool.or_eq_true, decide_eq_true_eq, inB_iff]
   refine ⟨⟨h.rights e he, ?_⟩, allowed_iff.2 (h.allow e he)⟩
   rcases h.roots e he with a | ⟨a, b, c⟩
   ·exact .inl a
   ·exact .inr ⟨⟨a, b⟩, c⟩
  ·unfold tableOk
   simp only [Bool.or_eq_true, Bool.not_eq_true']
   cases ht : tabK (infoAt k.infos f).k
   ·exact .inl rfl
   ·right
    rw [goodP_iff]
    intro w hw
    rw [goodW_iff]
    rcases h.tabs f hf ht w hw with ⟨a, b, c⟩ | rfl
    ·exact .inl ⟨a, b, c, mayP_all _⟩
    ·exact .inr ⟨rfl, rfl⟩
  ·simp [refOk, h.refs f hf]
theorem infoAt_set {l : List InfoV} {f g : Nat} {x : InfoV} : infoAt (l.set f x) g = if g = f ∧ f < l.length then x else infoAt l g := getD_set
theorem infoAt_mod {l : List InfoV} {f g : Nat} {u : InfoV → InfoV} : infoAt (modAt l f u) g = if g = f ∧ f < l.length then u (infoAt l f) else infoAt l g := modAt_getD
theorem envAt_mod {l : List EnvV} {f g : Nat} {u : EnvV → EnvV} : envAt (modAt l f u) g = if g = f ∧ f < l.length then u (envAt l f) else envAt l g := modAt_getD
theorem KOk.data {k : KernV} (h : KOk k) {f : Nat} (hf : f < 12) (hk : kindAt k f = 0 ∨ kindAt k f = 1) {row : List Int} (hrow : rowOk row = true) {x : InfoV} (hx : KGok x) (hx1 : x.k = 0 ∨ x.k = 1) (hr : x.r = (infoAt k.infos f).r)
 (hsame : (x.k = kindAt k f ∧ x.g = (infoAt k.infos f).g) ∨ (infoAt k.infos f).r = 0) {cache : List CachedV} (hc : cacheOk cache = true) (ht : ∀ y ∈ cache, transOk k y = true) : KOk ⟨k.mem.set f row, k.infos.set f x, k.envs, cache⟩ := by
 have hml := (memOk_iff.1 h.mem).1
 have hrow' : ∀ g, g ≠ f → rowAt (k.mem.set f row) g = rowAt k.mem g := fun g hg => by rw [rowAt_set, if_neg (by rintro ⟨a, _⟩; exact hg a)]
 have hinf' : ∀ g, g ≠ f → infoAt (k.infos.set f x) g = infoAt k.infos g := fun g hg => by rw [infoAt_set, if_neg (by rintro ⟨a, _⟩; exact hg a)]
 have hinff : infoAt (k.infos.set f x) f = x := by rw [infoAt_set, if_pos ⟨rfl, by rw [h.len]; exact hf⟩]
 have htab : ∀ t, tabK (infoAt (k.infos.set f x) t).k = true → t ≠ f ∧ tabK (kindAt k t) = true := by
  intro t ht
  by_cases e : t = f
  ·subst e
   rw [hinff, tabK_iff] at ht
   omega
  ·rw [hinf' t e] at ht
   exact ⟨e, ht⟩
 have hnf : ∀ t, tabK (kindAt k t) = true → t ≠ f := by
  intro t ht e
  subst e
  rw [tabK_iff] at ht
  omega
 have hkeep : ∀ t g, t < 12 → tabK (kindAt k t) = true → g ∈ Go.Proofs.YtjacdlekgdnndaaGreatDoor.named (rowAt k.mem t) → (infoAt (k.infos.set f x) g).k = kindAt k g ∧ (infoAt (k.infos.set f x) g).g = (infoAt k.infos g).g := by
  intro t g ht htb hg
  by_cases e : g = f
  ·subst e
   rw [hinff]
   rcases hsame with hs | h0
   ·exact hs
   ·exact absurd hg ((h.unused hf h0).1 t ht htb)
  ·rw [hinf' g e]; exact ⟨rfl, rfl⟩
 have hroot : ∀ e, e < 3 → 0 ≤ rootOf k e → (rootOf k e).toNat ≠ f := fun e he h0 => hnf _ (by rw [(h.root_kind he h0).2]; rfl)
 have hlow : ∀ e, e < 3 → 0 ≤ rootOf k e → ∀ t, t ∈ Go.Proofs.YtjacdlekgdnndaaGreatDoor.named (rowAt k.mem (rootOf k e).toNat) → t ≠ f := fun e he h0 t ht => hnf _ (by rw [(h.low_kind he h0 ht).2]; rfl)
 have hreach : ∀ e, e < 3 → ∀ g, g ∈ reachL (k.mem.set f row) (rootOf k e) ↔ g ∈ reachL k.mem (rootOf k e) := fun e he => reach_congr (fun h0 => hrow' _ (hroot e he h0)) (fun h0 t ht => hrow' _ (hlow e he h0 t ht))
 refine ⟨memOk_set h.mem hrow, by simp [h.len], fun g hg => ?_, hc, h.envl, h.rights, fun e he => ?_, fun e he g hg => ?_, fun t ht htb w hw => ?_, fun g hg => ?_, fun y hy => ?_⟩
 ·by_cases e : g = f
  ·subst e; rw [hinff]; exact hx
  ·rw [hinf' g e]; exact h.inf g hg
 ·rcases h.roots e he with a | ⟨a, b, c⟩
  ·exact .inl a
  ·refine .inr ⟨a, b, ?_⟩
   show (infoAt (k.infos.set f x) (rootOf k e).toNat).k = 3
   rw [hinf' _ (hroot e he a)]
   exact c
 ·have hg' := (hreach e he g).1 hg
  have hm := h.allow e he g hg'
  show mayP (rightsOf k e) (infoAt (k.infos.set f x) g).g = true
  obtain ⟨h0, h1⟩ := reach_mem.1 hg'
  have hrk := h.root_kind he h0
  have e : (infoAt (k.infos.set f x) g).g = (infoAt k.infos g).g := by
   rcases h1 with rfl | h1 | ⟨t, h1, h2⟩
   ·rw [hinf' _ (hroot e he h0)]
   ·exact (hkeep _ g hrk.1 (by rw [hrk.2]; rfl) h1).2
   ·have hlk := h.low_kind he h0 h1
    exact (hkeep _ g hlk.1 (by rw [hlk.2]; rfl) h2).2
  rw [e]
  exact hm
 ·obtain ⟨hne, htb'⟩ := htab t htb
  rw [show rowAt (k.mem.set f row) t = rowAt k.mem t from hrow' t hne] at hw
  rcases h.tabs t ht htb' w hw with ⟨a, b, c⟩ | rfl
  ·refine .inl ⟨a, b, ?_⟩
   have := (hkeep t (entF w) ht htb' (named_mem.2 ⟨w, hw, a, rfl⟩)).1
   show (infoAt (k.infos.set f x) (entF w)).k = (infoAt (k.infos.set f x) t).k - 1
   rw [this, hinf' t hne]
   exact c
  ·exact .inr rfl
 ·have hcount : countP (k.mem.set f row) (k.infos.set f x) g = countP k.mem k.infos g := by
   rw [countP_eq, countP_eq]
   refine sum_congr fun t ht => ?_
   unfold cnt
   by_cases e : t = f
   ·subst e
    rw [hinff, if_neg (by rw [tabK_iff]; omega), if_neg (by rw [tabK_iff]; unfold kindAt at hk; omega)]
   ·rw [hinf' t e, hrow' t e]
  show (infoAt (k.infos.set f x) g).r = (countP (k.mem.set f row) (k.infos.set f x) g : Int) + (rootsP k.envs g : Int)
  rw [hcount, ← h.refs g hg]
  by_cases e : g = f
  ·subst e; rw [hinff, hr]
  ·rw [hinf' g e]
 ·have h1 := ht y hy
  have hyc := (cacheOk_iff.1 hc).1 y hy
  unfold cachedOk at hyc
  simp only [Bool.and_eq_true, inB_iff] at hyc
  have he : y.e.toNat < 3 := by omega
  unfold transOk at h1 ⊢
  simp only [Bool.and_eq_true, decide_eq_true_eq] at h1 ⊢
  refine ⟨h1.1, ?_⟩
  have hw := walk_congr (m := k.mem) (m' := k.mem.set f row) (root := (rootOf k y.e.toNat).toNat) (a := 4 * y.p.toNat) (hrow' _ (hroot _ he h1.1)) (fun t ht => hrow' _ (hlow _ he h1.1 t ht))
  exact hw.trans h1.2
theorem refer_len {infos : List InfoV} {fs : List Nat} {n : Int} : (referP infos fs n).length = infos.length := by
 unfold referP
 induction fs generalizing infos with
 | nil => rfl
 | cons f fs ih => rw [List.foldl_cons, ih, modAt_len]
theorem refer_at {infos : List InfoV} {fs : List Nat} {n : Int} {g : Nat} (hg : g < infos.length) : infoAt (referP infos fs n) g = { infoAt infos g with r := (infoAt infos g).r + n * (fs.count g : Int) } := by
 unfold referP
 induction fs generalizing infos with
 | nil => simp
 | cons f fs ih =>
  rw [List.foldl_cons, ih (by rw [modAt_len]; exact hg), infoAt_mod, List.count_cons]
  by_cases e : g = f
  ·subst e
   rw [if_pos ⟨rfl, hg⟩]
   simp [addR]
   rw [Int.mul_add]
   omega
  ·rw [if_neg (by rintro ⟨a, _⟩; exact e a)]
   have e' : ¬ f = g := fun a => e a.symm
   simp [e']
theorem KOk.retype {k : KernV} (h : KOk k) {f : Nat} (hf : f < 12) (h0 : (infoAt k.infos f).r = 0) {kind n : Int} (hk1 : 1 ≤ kind) (hk3 : kind ≤ 3) (hfk : kindAt k f ≠ 0)
 (hn : (n = 1 ∧ tabK (kindAt k f) = false ∧ tabK kind = true) ∨ (n = -1 ∧ tabK (kindAt k f) = true ∧ tabK kind = false))
 (hgood : tabK kind = true → ∀ w ∈ rowAt k.mem f, (entG w = true ∧ entF w ≠ f ∧ kindAt k (entF w) = kind - 1) ∨ w = 0) :
 KOk { k with infos := modAt (referP k.infos (Go.Proofs.YtjacdlekgdnndaaGreatDoor.named (rowAt k.mem f)) n) f (setK kind) } := by
 obtain ⟨u1, u2⟩ := h.unused hf h0
 have hl : (referP k.infos (Go.Proofs.YtjacdlekgdnndaaGreatDoor.named (rowAt k.mem f)) n).length = 12 := by rw [refer_len, h.len]
 have hat : ∀ g, g < 12 → infoAt (modAt (referP k.infos (Go.Proofs.YtjacdlekgdnndaaGreatDoor.named (rowAt k.mem f)) n) f (setK kind)) g = { (infoAt k.infos g) with k := if g = f then kind else kindAt k g, r := (infoAt k.infos g).r + n * ((Go.Proofs.YtjacdlekgdnndaaGreatDoor.named (rowAt k.mem f)).count g : Int) } := by
  intro g hg
  rw [infoAt_mod, hl]
  by_cases e : g = f
  ·subst e
   rw [if_pos ⟨rfl, hf⟩, refer_at (by rw [h.len]; exact hg)]
   simp [setK]
  ·rw [if_neg (by rintro ⟨a, _⟩; exact e a), refer_at (by rw [h.len]; exact hg)]
   simp [e, kindAt]
 have hself : f ∉ Go.Proofs.YtjacdlekgdnndaaGreatDoor.named (rowAt k.mem f) := by
  intro hm
  rcases hn with ⟨_, _, c⟩ | ⟨_, b, _⟩
  ·obtain ⟨w, hw, h1, h2⟩ := named_mem.1 hm
   rcases hgood c w hw with ⟨_, a, _⟩ | rfl
   ·exact a h2
   ·simp [entG] at h1
  ·exact u1 f hf b hm
 refine ⟨h.mem, by rw [modAt_len]; exact hl, fun g hg => ?_, h.cache, h.envl, h.rights, fun e he => ?_, fun e he g hg => ?_, fun t ht htb w hw => ?_, fun g hg => ?_, h.trans⟩
 ·show KGok (infoAt (modAt _ f (setK kind)) g)
  rw [hat g hg]
  by_cases e : g = f
  ·subst e
   rcases h.inf g hg with ⟨a, b⟩ | ⟨a, b, c⟩
   ·exact absurd a hfk
   ·right; simp; exact ⟨hk1, hk3, c⟩
  ·simp only [e, if_false]
   exact h.inf g hg
 ·rcases h.roots e he with a | ⟨a, b, c⟩
  ·exact .inl a
  ·refine .inr ⟨a, b, ?_⟩
   show (infoAt (modAt _ f (setK kind)) (rootOf k e).toNat).k = 3
   rw [hat _ (by omega)]
   have : (rootOf k e).toNat ≠ f := fun e' => u2 e he (by omega)
   simp only [this, if_false]
   exact c
 ·show mayP (rightsOf k e) (infoAt (modAt _ f (setK kind)) g).g = true
  have := h.allow e he g hg
  rw [hat _ (h.reach_lt he hg).1]
  exact this
 ·have htb2 : tabK (infoAt (modAt (referP k.infos (Go.Proofs.YtjacdlekgdnndaaGreatDoor.named (rowAt k.mem f)) n) f (setK kind)) t).k = true := htb
  rw [hat t ht] at htb2
  show (entG w = true ∧ entF w ≠ t ∧ (infoAt (modAt (referP k.infos (Go.Proofs.YtjacdlekgdnndaaGreatDoor.named (rowAt k.mem f)) n) f (setK kind)) (entF w)).k = (infoAt (modAt (referP k.infos (Go.Proofs.YtjacdlekgdnndaaGreatDoor.named (rowAt k.mem f)) n) f (setK kind)) t).k - 1) ∨ w = 0
  rw [hat t ht]
  by_cases e : t = f
  ·subst e
   simp only [if_true] at htb2
   rcases hgood htb2 w hw with ⟨a, b, c⟩ | rfl
   ·refine .inl ⟨a, b, ?_⟩
    rw [hat _ (entF_lt a)]
    simp only [if_true, b, if_false]
    exact c
   ·exact .inr rfl
  ·simp only [e, if_false] at htb2
   rcases h.tabs t ht htb2 w hw with ⟨a, b, c⟩ | rfl
   ·refine .inl ⟨a, b, ?_⟩
    rw [hat _ (entF_lt a)]
    have : entF w ≠ f := fun e' => u1 t ht htb2 (named_mem.2 ⟨w, hw, a, e'⟩)
    simp only [this, if_false, e]
    exact c
   ·exact .inr rfl
 ·show (infoAt (modAt (referP k.infos (Go.Proofs.YtjacdlekgdnndaaGreatDoor.named (rowAt k.mem f)) n) f (setK kind)) g).r = (countP k.mem (modAt (referP k.infos (Go.Proofs.YtjacdlekgdnndaaGreatDoor.named (rowAt k.mem f)) n) f (setK kind)) g : Int) + (rootsP k.envs g : Int)
  rw [hat g hg]
  have hsum := sum_one (F := cnt k.mem (modAt (referP k.infos (Go.Proofs.YtjacdlekgdnndaaGreatDoor.named (rowAt k.mem f)) n) f (setK kind)) g) (G := cnt k.mem k.infos g) hf (fun t ht hne => by
   unfold cnt
   rw [hat t ht]
   simp only [hne, if_false]
   rfl)
  rw [← countP_eq, ← countP_eq] at hsum
  have c1 : cnt k.mem (modAt (referP k.infos (Go.Proofs.YtjacdlekgdnndaaGreatDoor.named (rowAt k.mem f)) n) f (setK kind)) g f = if tabK kind then (Go.Proofs.YtjacdlekgdnndaaGreatDoor.named (rowAt k.mem f)).count g else 0 := by
   unfold cnt
   rw [hat f hf]
   simp
  have c2 : cnt k.mem k.infos g f = if tabK (kindAt k f) then (Go.Proofs.YtjacdlekgdnndaaGreatDoor.named (rowAt k.mem f)).count g else 0 := rfl
  rw [c1, c2] at hsum
  have := h.refs g hg
  rcases hn with ⟨rfl, a, b⟩ | ⟨rfl, a, b⟩
  ·rw [a, b] at hsum
   simp at hsum ⊢
   omega
  ·rw [a, b] at hsum
   simp at hsum ⊢
   omega
theorem freeP_some {infos : List InfoV} (h : ¬ freeP infos < 0) : (freeP infos).toNat < infos.length ∧ (infoAt infos (freeP infos).toNat).k = 0 ∧ 0 ≤ freeP infos := by
 unfold freeP at h ⊢
 split
 ·rename_i ha
  obtain ⟨x, hx, hs⟩ := any_mem.1 ha
  have hl : infos.findIdx (fun x => decide (x.k = 0)) < infos.length := List.findIdx_lt_length.2 ⟨x, hx, hs⟩
  refine ⟨by simpa using hl, ?_, by omega⟩
  have := List.findIdx_getElem (w := hl)
  simpa [infoAt, hl] using this
 ·rename_i ha
  rw [if_neg ha] at h
  omega
theorem set_self {α : Type} {l : List α} {i : Nat} {d : α} : l.set i (l.getD i d) = l := by
 apply List.ext_getElem?
 intro j
 rw [List.getElem?_set]
 by_cases h : i = j
 ·subst h
  by_cases h2 : i < l.length
  ·simp [h2]
  ·simp [h2]
 ·simp [h]
theorem takeP_ok {k : KernV} (h : KOk k) {c : CallV} : KOk (takeP k c).1 := by
 unfold takeP
 split
 ·exact h
 ·rename_i hn
  split
  ·exact h
  ·split
   ·exact h
   ·rename_i hf
    obtain ⟨a, b, _⟩ := freeP_some hf
    rw [h.len] at a
    have hr := h.free_unused a b
    refine h.data (x := ⟨1, c.nm, 0⟩) a (.inl b) (by decide) (.inr ⟨by show (1 : Int) ≤ 1; omega, by show (1 : Int) ≤ 3; omega, by simpa using hn⟩) (.inr rfl) hr.symm (.inr hr) h.cache h.trans
theorem giveP_ok {k : KernV} (h : KOk k) {c : CallV} (ha : c.a.toNat < 12) : KOk (giveP k c).1 := by
 unfold giveP
 split
 ·exact h
 ·rename_i hk
  split
  ·exact h
  ·rename_i hr
   have hr : (infoAt k.infos c.a.toNat).r = 0 := by omega
   have := h.data (x := InfoV.zero) ha (.inr (by unfold kindAt; omega)) ((memOk_iff.1 h.mem).2 _ ha) (.inl ⟨rfl, rfl⟩) (.inl rfl) hr.symm (.inr hr) h.cache h.trans
   rw [show k.mem.set c.a.toNat (rowAt k.mem c.a.toNat) = k.mem from set_self] at this
   exact this
theorem poke_ok {k : KernV} (h : KOk k) {f i : Nat} {w : Int} (hf : f < 12) (hk : kindAt k f = 1) (hw : wordOk w = true) {cache : List CachedV} (hc : cacheOk cache = true) (ht : ∀ y ∈ cache, transOk k y = true) : KOk { k with mem := setWd k.mem f i w, cache := cache } := by
 have := h.data (x := infoAt k.infos f) hf (.inr hk) (rowOk_set (i := i) (w := w) ((memOk_iff.1 h.mem).2 _ hf) hw) (h.inf f hf) (.inr hk) rfl (.inl ⟨rfl, rfl⟩) hc ht
 rw [show k.infos.set f (infoAt k.infos f) = k.infos from set_self] at this
 rw [setWd_eq]
 exact this
theorem pokeP_ok {k : KernV} (h : KOk k) {c : CallV} (ha : c.a.toNat < 12) : KOk (pokeP k c).1 := by
 unfold pokeP
 split
 ·exact h
 ·rename_i hn
  simp only [not_or] at hn
  obtain ⟨h1, h2, h3⟩ := hn
  exact poke_ok h ha (by unfold kindAt; omega) (by simpa using h3) h.cache h.trans
theorem pinned_ok {k : KernV} (h : KOk k) {r : List InfoV × Int} (hr : r.2 = 0 → KOk { k with infos := r.1 }) : KOk (pinnedP k r).1 := by
 unfold pinnedP
 split
 ·exact hr ‹_›
 ·exact h
theorem pinP_ok {k : KernV} (h : KOk k) {f : Nat} (hf : f < 12) {kind : Int} {rights : List ByteArray} (hk : tabK kind = true) : (pinP k.mem k.infos f kind rights).2 = 0 → KOk { k with infos := (pinP k.mem k.infos f kind rights).1 } := by
 unfold pinP
 split
 ·intro h; simp at h
 ·rename_i hn
  simp only [not_or, Decidable.not_not] at hn
  split
  ·intro h; simp at h
  ·rename_i hg
   have hg : goodP k.mem k.infos f kind rights = true := by simpa using hg
   split
   ·intro _
    have hkk := tabK_iff.1 hk
    refine h.retype hf hn.2 (by omega) (by omega) (by unfold kindAt; omega) (.inl ⟨rfl, ?_, hk⟩) (fun _ w hw => ?_)
    ·unfold kindAt; rw [hn.1]; rfl
    ·rcases goodW_iff.1 (goodP_iff.1 hg w hw) with ⟨a, b, c, _⟩ | ⟨_, a⟩
     ·exact .inl ⟨a, b, c⟩
     ·exact .inr a
   ·intro h; simp at h
theorem unpinP_ok {k : KernV} (h : KOk k) {f : Nat} (hf : f < 12) : (unpinP k.mem k.infos f).2 = 0 → KOk { k with infos := (unpinP k.mem k.infos f).1 } := by
 unfold unpinP
 split
 ·intro h; simp at h
 ·rename_i hn
  simp only [not_or, Decidable.not_not, Bool.not_eq_false] at hn
  split
  ·intro _
   have hkk := tabK_iff.1 hn.1
   exact h.retype hf hn.2 (by omega) (by omega) (by unfold kindAt; omega) (.inr ⟨rfl, hn.1, rfl⟩) (fun hh => by simp [tabK] at hh)
  ·intro h; simp at h
theorem refer1_len {infos : List InfoV} {w n : Int} : (refer1 infos w n).length = infos.length := by
 unfold refer1
 split
 ·exact modAt_len
 ·rfl
theorem refer1_at {infos : List InfoV} {w n : Int} {g : Nat} (hl : infos.length = 12) : infoAt (refer1 infos w n) g = { infoAt infos g with r := (infoAt infos g).r + n * (b2n (names g w) : Int) } := by
 unfold refer1
 split
 ·rename_i hg
  rw [infoAt_mod]
  by_cases e : g = entF w
  ·subst e
   rw [if_pos ⟨rfl, by rw [hl]; exact entF_lt hg⟩]
   simp [addR, names, hg, b2n]
  ·have e' : ¬ entF w = g := fun x => e x.symm
   rw [if_neg (by rintro ⟨a, _⟩; exact e a)]
   simp [names, hg, b2n, e']
 ·rename_i hg
  simp [names, hg, b2n]
theorem users_mem {k : KernV} {a e : Nat} : e ∈ usersP k a ↔ e < 3 ∧ a ∈ reachL k.mem (rootOf k e) := by
 simp [usersP, rootOf]
theorem setP_ok {k : KernV} (h : KOk k) {c : CallV} (ha : c.a.toNat < 12) (hw9 : 0 ≤ c.c → c.c ≤ 9999 ∨ entG c.c = true ∨ c.c = 0 → wordOk c.c = true) : KOk (setP k c).1 := by
 unfold setP
 split
 ·exact h
 rename_i hn
 simp only [not_or, Bool.not_eq_false] at hn
 obtain ⟨h1, h2, h3⟩ := hn
 unfold wordFits at h3
 split
 ·exact h
 rename_i hall
 have hall : ((usersP k c.a.toNat).all fun e => allowedP k.infos (neededP k c.c) (envAt k.envs e).rights) = true := by simpa using hall
 split
 ·exact h
 rename_i hmay
 generalize hfd : c.a.toNat = f at *
 have hb : c.b.toNat < 4 := by have := inB_iff.1 h2; omega
 generalize hbd : c.b.toNat = b at *
 generalize hwd : c.c = w at *
 have hl := h.len
 have hml := (memOk_iff.1 h.mem).1
 have hrl := h.row ha
 have hwG : entG w = true → kindAt k (entF w) = kindAt k f - 1 := by
  intro hg
  rw [if_pos hg] at h3
  simpa [kindAt] using h3
 have hw0 : entG w = false → w = 0 := by
  intro hg
  rw [if_neg (by simp [hg])] at h3
  simpa using h3
 have hkf := tabK_iff.1 h1
 have hword : wordOk w = true := by
  cases hg : entG w
  ·rw [hw0 hg]; rfl
  ·have hg' := hg
   simp only [entG, Bool.and_eq_true, decide_eq_true_eq] at hg'
   refine inB_iff.2 ⟨by omega, by omega⟩
 have hwne : entG w = true → entF w ≠ f := by
  intro hg e
  have := hwG hg
  rw [e] at this
  omega
 have hat : ∀ g, infoAt (refer1 (refer1 k.infos (wdAt k.mem f b) (-1)) w 1) g = { infoAt k.infos g with r := (infoAt k.infos g).r + (-1) * (b2n (names g (wdAt k.mem f b)) : Int) + 1 * (b2n (names g w) : Int) } := by
  intro g
  rw [refer1_at (by rw [refer1_len]; exact hl), refer1_at hl]
 have hkind : ∀ g, (infoAt (refer1 (refer1 k.infos (wdAt k.mem f b) (-1)) w 1) g).k = kindAt k g := fun g => by rw [hat]; rfl
 have hguard : ∀ g, (infoAt (refer1 (refer1 k.infos (wdAt k.mem f b) (-1)) w 1) g).g = (infoAt k.infos g).g := fun g => by rw [hat]
 have hrowf : rowAt (setWd k.mem f b w) f = (rowAt k.mem f).set b w := by rw [rowAt_setWd, if_pos ⟨rfl, by omega⟩]
 have hrow : ∀ g, g ≠ f → rowAt (setWd k.mem f b w) g = rowAt k.mem g := fun g hg => by rw [rowAt_setWd, if_neg (by rintro ⟨a, _⟩; exact hg a)]
 have hnamed : ∀ t g, g ∈ Go.Proofs.YtjacdlekgdnndaaGreatDoor.named (rowAt (setWd k.mem f b w) t) → g ∈ Go.Proofs.YtjacdlekgdnndaaGreatDoor.named (rowAt k.mem t) ∨ (t = f ∧ entG w = true ∧ entF w = g) := by
  intro t g hg
  by_cases e : t = f
  ·subst e
   rw [hrowf] at hg
   rcases named_set_mem hg with a | a
   ·exact .inl a
   ·exact .inr ⟨rfl, a⟩
  ·rw [hrow t e] at hg
   exact .inl hg
 have hnu : ∀ e, e < 3 → f ∉ reachL k.mem (rootOf k e) → (0 ≤ rootOf k e → rowAt (setWd k.mem f b w) (rootOf k e).toNat = rowAt k.mem (rootOf k e).toNat) ∧ (0 ≤ rootOf k e → ∀ t, t ∈ Go.Proofs.YtjacdlekgdnndaaGreatDoor.named (rowAt k.mem (rootOf k e).toNat) → rowAt (setWd k.mem f b w) t = rowAt k.mem t) := by
  intro e he hnr
  rw [reach_mem] at hnr
  refine ⟨fun h0 => hrow _ (fun e' => hnr ⟨h0, .inl e'.symm⟩), fun h0 t ht => hrow _ (fun e' => hnr ⟨h0, .inr (.inl (e' ▸ ht))⟩)⟩
 refine ⟨?_, by rw [refer1_len, refer1_len]; exact hl, fun g hg => ?_, drops_ok h.cache, h.envl, h.rights, fun e he => ?_, fun e he g hg => ?_, fun t ht htb x hx => ?_, fun g hg => ?_, fun y hy => ?_⟩
 ·show memOk (setWd k.mem f b w) = true
  rw [setWd_eq]
  exact memOk_set h.mem (rowOk_set ((memOk_iff.1 h.mem).2 f ha) hword)
 ·show KGok (infoAt (refer1 (refer1 k.infos (wdAt k.mem f b) (-1)) w 1) g)
  rw [hat]
  exact h.inf g hg
 ·rcases h.roots e he with x | ⟨x, y, z⟩
  ·exact .inl x
  ·exact .inr ⟨x, y, by show (infoAt (refer1 (refer1 k.infos (wdAt k.mem f b) (-1)) w 1) (rootOf k e).toNat).k = 3; rw [hkind]; exact z⟩
 ·show mayP (rightsOf k e) (infoAt (refer1 (refer1 k.infos (wdAt k.mem f b) (-1)) w 1) g).g = true
  rw [hguard]
  by_cases hr : f ∈ reachL k.mem (rootOf k e)
  ·have hu : ∀ g, g ∈ neededP k w → mayP (rightsOf k e) (infoAt k.infos g).g = true := allowed_iff.1 (List.all_eq_true.1 hall e (users_mem.2 ⟨he, hr⟩))
   have hneed : ∀ g, entG w = true → (entF w = g ∨ (tabK (kindAt k (entF w)) = true ∧ g ∈ Go.Proofs.YtjacdlekgdnndaaGreatDoor.named (rowAt k.mem (entF w)))) → g ∈ neededP k w := by
    intro g hg hh
    unfold neededP
    rw [if_pos hg]
    rcases hh with rfl | ⟨h1, h2⟩
    ·exact List.mem_cons_self ..
    ·unfold kindAt at h1
     rw [if_pos h1]
     exact List.mem_cons_of_mem _ h2
   obtain ⟨h0, hg'⟩ := reach_mem.1 hg
   change 0 ≤ rootOf k e at h0
   have old : ∀ g, (g = (rootOf k e).toNat ∨ g ∈ Go.Proofs.YtjacdlekgdnndaaGreatDoor.named (rowAt k.mem (rootOf k e).toNat) ∨ ∃ t, t ∈ Go.Proofs.YtjacdlekgdnndaaGreatDoor.named (rowAt k.mem (rootOf k e).toNat) ∧ g ∈ Go.Proofs.YtjacdlekgdnndaaGreatDoor.named (rowAt k.mem t)) → mayP (rightsOf k e) (infoAt k.infos g).g = true := fun g hh => h.allow e he g (reach_mem.2 ⟨h0, hh⟩)
   rcases hg' with hg' | hg' | ⟨t, ht, hg'⟩
   ·exact old g (.inl hg')
   ·rcases hnamed _ _ hg' with a | ⟨_, a, b⟩
    ·exact old g (.inr (.inl a))
    ·exact hu g (hneed g a (.inl b))
   ·rcases hnamed _ _ hg' with a | ⟨_, a, b⟩
    ·rcases hnamed _ _ ht with a' | ⟨er, a', b'⟩
     ·exact old g (.inr (.inr ⟨t, a', a⟩))
     ·have hrk := (h.root_kind he h0).2
      change (rootOf k e).toNat = f at er
      rw [er] at hrk
      refine hu g (hneed g a' (.inr ⟨?_, by rw [b']; exact a⟩))
      rw [hwG a', hrk]; rfl
    ·exact hu g (hneed g a (.inl b))
  ·obtain ⟨r0, r1⟩ := hnu e he hr
   exact h.allow e he g ((reach_congr r0 r1 g).1 hg)
 ·have htb2 : tabK (infoAt (refer1 (refer1 k.infos (wdAt k.mem f b) (-1)) w 1) t).k = true := htb
  rw [hkind] at htb2
  show (entG x = true ∧ entF x ≠ t ∧ (infoAt (refer1 (refer1 k.infos (wdAt k.mem f b) (-1)) w 1) (entF x)).k = (infoAt (refer1 (refer1 k.infos (wdAt k.mem f b) (-1)) w 1) t).k - 1) ∨ x = 0
  rw [hkind, hkind]
  have hx2 : x ∈ rowAt (setWd k.mem f b w) t := hx
  by_cases e : t = f
  ·subst e
   rw [hrowf] at hx2
   rcases List.mem_or_eq_of_mem_set hx2 with hx2 | rfl
   ·exact h.tabs t ht htb2 x hx2
   ·cases hg : entG x
    ·exact .inr (hw0 hg)
    ·exact .inl ⟨rfl, hwne hg, hwG hg⟩
  ·rw [hrow t e] at hx2
   exact h.tabs t ht htb2 x hx2
 ·show (infoAt (refer1 (refer1 k.infos (wdAt k.mem f b) (-1)) w 1) g).r = (countP (setWd k.mem f b w) (refer1 (refer1 k.infos (wdAt k.mem f b) (-1)) w 1) g : Int) + (rootsP k.envs g : Int)
  have hsum := sum_one (F := cnt (setWd k.mem f b w) (refer1 (refer1 k.infos (wdAt k.mem f b) (-1)) w 1) g) (G := cnt k.mem k.infos g) ha (fun t ht hne => by
   unfold cnt
   rw [hkind, hrow t hne]
   rfl)
  rw [← countP_eq, ← countP_eq] at hsum
  have c1 : cnt (setWd k.mem f b w) (refer1 (refer1 k.infos (wdAt k.mem f b) (-1)) w 1) g f = (Go.Proofs.YtjacdlekgdnndaaGreatDoor.named ((rowAt k.mem f).set b w)).count g := by
   unfold cnt
   rw [hkind, hrowf]
   exact if_pos h1
  have c2 : cnt k.mem k.infos g f = (Go.Proofs.YtjacdlekgdnndaaGreatDoor.named (rowAt k.mem f)).count g := if_pos h1
  have c3 : (Go.Proofs.YtjacdlekgdnndaaGreatDoor.named ((rowAt k.mem f).set b w)).count g + b2n (names g (wdAt k.mem f b)) = (Go.Proofs.YtjacdlekgdnndaaGreatDoor.named (rowAt k.mem f)).count g + b2n (names g w) := named_set (show b < (rowAt k.mem f).length by omega)
  rw [c1, c2] at hsum
  have := h.refs g hg
  rw [hat]
  simp only
  omega
 ·obtain ⟨hy1, hy2⟩ := drops_mem.1 hy
  have h4 := h.trans y hy1
  have hyc := (cacheOk_iff.1 h.cache).1 y hy1
  unfold cachedOk at hyc
  simp only [Bool.and_eq_true, inB_iff] at hyc
  have he : y.e.toNat < 3 := by omega
  have hnr : f ∉ reachL k.mem (rootOf k y.e.toNat) := fun hr => hy2 y.e.toNat (users_mem.2 ⟨he, hr⟩) (by omega)
  obtain ⟨r0, r1⟩ := hnu _ he hnr
  unfold transOk at h4 ⊢
  simp only [Bool.and_eq_true, decide_eq_true_eq] at h4 ⊢
  exact ⟨h4.1, (walk_congr (a := 4 * y.p.toNat) (r0 h4.1) (r1 h4.1)).trans h4.2⟩
def rooted (infos : List InfoV) (old new : Int) : List InfoV :=
 if 0 ≤ new then modAt (if 0 ≤ old then modAt infos old.toNat (addR (-1)) else infos) new.toNat (addR 1) else (if 0 ≤ old then modAt infos old.toNat (addR (-1)) else infos)
theorem rooted_len {infos : List InfoV} {old new : Int} : (rooted infos old new).length = infos.length := by
 unfold rooted
 split <;> split <;> simp [modAt_len]
theorem rooted_at {infos : List InfoV} {old new : Int} {g : Nat} (hl : infos.length = 12) (hg : g < 12) : infoAt (rooted infos old new) g = { infoAt infos g with r := (infoAt infos g).r - (b2n (decide (old = (g : Int))) : Int) + (b2n (decide (new = (g : Int))) : Int) } := by
 have h1 : infoAt (if 0 ≤ old then modAt infos old.toNat (addR (-1)) else infos) g = { infoAt infos g with r := (infoAt infos g).r - (b2n (decide (old = (g : Int))) : Int) } := by
  split
  ·rw [infoAt_mod]
   by_cases e : g = old.toNat
   ·rw [if_pos ⟨e, by omega⟩, ← e]
    have : old = (g : Int) := by omega
    simp [addR, b2n, this]
    omega
   ·rw [if_neg (by rintro ⟨a, _⟩; exact e a)]
    have : ¬ old = (g : Int) := by omega
    simp [b2n, this]
  ·have : ¬ old = (g : Int) := by omega
   simp [b2n, this]
 have h2 : (if 0 ≤ old then modAt infos old.toNat (addR (-1)) else infos).length = 12 := by split <;> simp [modAt_len, hl]
 unfold rooted
 split
 ·rw [infoAt_mod, h2]
  by_cases e : g = new.toNat
  ·rw [if_pos ⟨e, by omega⟩, ← e, h1]
   have : new = (g : Int) := by omega
   simp [addR, b2n, this]
  ·rw [if_neg (by rintro ⟨a, _⟩; exact e a), h1]
   have : ¬ new = (g : Int) := by omega
   simp [b2n, this]
 ·rw [h1]
  have : ¬ new = (g : Int) := by omega
  simp [b2n, this]
theorem roots_mod {envs : List EnvV} (hl : envs.length = 3) {e g : Nat} (he : e < 3) {n : Int} : rootsP (modAt envs e (setRoot n)) g + b2n (decide ((envAt envs e).root = (g : Int))) = rootsP envs g + b2n (decide (n = (g : Int))) := by
 rw [rootsP_eq (by rw [modAt_len]; exact hl), rootsP_eq hl]
 simp only [envAt_mod, hl]
 have : e = 0 ∨ e = 1 ∨ e = 2 := by omega
 rcases this with rfl | rfl | rfl <;> simp [setRoot] <;> omega
theorem roots_same {envs : List EnvV} (hl : envs.length = 3) {e g : Nat} {ss : List ByteArray} : rootsP (modAt envs e (setRights ss)) g = rootsP envs g := by
 rw [rootsP_eq (by rw [modAt_len]; exact hl), rootsP_eq hl]
 simp only [envAt_mod]
 by_cases h0 : 0 = e ∧ e < envs.length <;> by_cases h1 : 1 = e ∧ e < envs.length <;> by_cases h2 : 2 = e ∧ e < envs.length <;> simp only [h0, h1, h2, if_true, if_false, setRights] <;> (try (obtain ⟨rfl, _⟩ := h0)) <;> (try (obtain ⟨rfl, _⟩ := h1)) <;> (try (obtain ⟨rfl, _⟩ := h2)) <;> simp
theorem rootP_ok {k : KernV} (h : KOk k) {c : CallV} (he : 0 ≤ c.e ∧ c.e ≤ 2) : KOk (rootP k c).1 := by
 unfold rootP
 split
 ·exact h
 rename_i h1
 split
 ·exact h
 rename_i h2
 have h2 : allowedP k.infos (reachL k.mem c.a) (rightsOf k c.e.toNat) = true := by simpa [rightsOf] using h2
 rw [allowed_iff] at h2
 have hen : c.e.toNat < 3 := by omega
 generalize hed : c.e.toNat = e at *
 generalize c.a = n at *
 have h1 : n = -1 ∨ (0 ≤ n ∧ n ≤ 11 ∧ kindAt k n.toNat = 3) := by
  by_cases hn : n = -1
  ·exact .inl hn
  ·right
   have h1 : ¬ (inB n 0 11 = false ∨ (infoAt k.infos n.toNat).k ≠ 3) := fun hh => h1 ⟨hn, hh⟩
   simp only [not_or, Bool.not_eq_false, Decidable.not_not] at h1
   have := inB_iff.1 h1.1
   exact ⟨this.1, this.2, h1.2⟩
 show KOk ⟨k.mem, rooted k.infos (rootOf k e) n, modAt k.envs e (setRoot n), dropC k.cache c.e⟩
 have hat := fun g (hg : g < 12) => rooted_at (infos := k.infos) (old := rootOf k e) (new := n) (g := g) h.len hg
 have henv : ∀ j, envAt (modAt k.envs e (setRoot n)) j = if j = e then ⟨rightsOf k e, n⟩ else envAt k.envs j := by
  intro j
  rw [envAt_mod, h.envl]
  by_cases hj : j = e
  ·rw [if_pos ⟨hj, hen⟩, if_pos hj]; rfl
  ·rw [if_neg (by rintro ⟨a, _⟩; exact hj a), if_neg hj]
 refine ⟨h.mem, by rw [rooted_len]; exact h.len, fun g hg => ?_, dropC_ok h.cache, by rw [modAt_len]; exact h.envl, fun j hj => ?_, fun j hj => ?_, fun j hj g hg => ?_, fun t ht htb x hx => ?_, fun g hg => ?_, fun y hy => ?_⟩
 ·show KGok (infoAt (rooted _ _ _) g)
  rw [hat g hg]
  exact h.inf g hg
 ·show rightsOk (envAt (modAt k.envs e (setRoot n)) j).rights = true
  rw [henv]
  split
  ·exact h.rights e hen
  ·exact h.rights j hj
 ·show (envAt (modAt k.envs e (setRoot n)) j).root = -1 ∨ (0 ≤ (envAt (modAt k.envs e (setRoot n)) j).root ∧ (envAt (modAt k.envs e (setRoot n)) j).root ≤ 11 ∧ (infoAt (rooted k.infos (rootOf k e) n) (envAt (modAt k.envs e (setRoot n)) j).root.toNat).k = 3)
  rw [henv]
  split
  ·rcases h1 with h1 | ⟨a, b, d⟩
   ·exact .inl h1
   ·refine .inr ⟨a, b, ?_⟩
    rw [hat _ (by simp; omega)]
    exact d
  ·rcases h.roots j hj with x | ⟨x, y, z⟩
   ·exact .inl x
   ·refine .inr ⟨x, y, ?_⟩
    have hx : (envAt k.envs j).root = rootOf k j := rfl
    rw [hx, hat _ (by omega)]
    exact z
 ·have hg2 : g ∈ reachL k.mem (envAt (modAt k.envs e (setRoot n)) j).root := hg
  show mayP (envAt (modAt k.envs e (setRoot n)) j).rights (infoAt (rooted k.infos (rootOf k e) n) g).g = true
  rw [henv] at hg2 ⊢
  by_cases hj' : j = e
  ·simp only [hj', if_true] at hg2 ⊢
   have hg12 : g < 12 := by
    obtain ⟨h0, hh⟩ := reach_mem.1 hg2
    rcases hh with rfl | hh | ⟨t, _, hh⟩
    ·rcases h1 with h1 | h1 <;> omega
    ·exact named_lt hh
    ·exact named_lt hh
   rw [hat g hg12]
   exact h2 g hg2
  ·simp only [hj', if_false] at hg2 ⊢
   rw [hat g (h.reach_lt hj hg2).1]
   exact h.allow j hj g hg2
 ·have htb2 : tabK (infoAt (rooted k.infos (rootOf k e) n) t).k = true := htb
  rw [hat t ht] at htb2
  show (entG x = true ∧ entF x ≠ t ∧ (infoAt (rooted k.infos (rootOf k e) n) (entF x)).k = (infoAt (rooted k.infos (rootOf k e) n) t).k - 1) ∨ x = 0
  rcases h.tabs t ht htb2 x hx with ⟨a, b, d⟩ | rfl
  ·refine .inl ⟨a, b, ?_⟩
   rw [hat t ht, hat _ (entF_lt a)]
   exact d
  ·exact .inr rfl
 ·show (infoAt (rooted k.infos (rootOf k e) n) g).r = (countP k.mem (rooted k.infos (rootOf k e) n) g : Int) + (rootsP (modAt k.envs e (setRoot n)) g : Int)
  have hc : countP k.mem (rooted k.infos (rootOf k e) n) g = countP k.mem k.infos g := by
   rw [countP_eq, countP_eq]
   refine sum_congr fun t ht => ?_
   unfold cnt
   rw [hat t ht]
  have hr := roots_mod (g := g) h.envl hen (n := n)
  have := h.refs g hg
  rw [hc, hat g hg]
  have e' : (envAt k.envs e).root = rootOf k e := rfl
  rw [e'] at hr
  simp only
  omega
 ·obtain ⟨hy1, hy2⟩ := dropC_mem.1 hy
  have h4 := h.trans y hy1
  have hyc := (cacheOk_iff.1 h.cache).1 y hy1
  unfold cachedOk at hyc
  simp only [Bool.and_eq_true, inB_iff] at hyc
  have hne : y.e.toNat ≠ e := by omega
  unfold transOk at h4 ⊢
  rw [show envAt (KernV.envs ⟨k.mem, rooted k.infos (rootOf k e) n, modAt k.envs e (setRoot n), dropC k.cache c.e⟩) y.e.toNat = envAt k.envs y.e.toNat from by show envAt (modAt k.envs e (setRoot n)) y.e.toNat = _; rw [henv, if_neg hne]]
  exact h4
theorem KOk.rights_turn {k : KernV} (h : KOk k) {e : Nat} (he : e < 3) {ss : List ByteArray} (hs : rightsOk ss = true) (ha : ∀ f, f ∈ reachL k.mem (rootOf k e) → mayP ss (infoAt k.infos f).g = true) : KOk { k with envs := modAt k.envs e (setRights ss) } := by
 have henv : ∀ j, envAt (modAt k.envs e (setRights ss)) j = if j = e then ⟨ss, rootOf k e⟩ else envAt k.envs j := by
  intro j
  rw [envAt_mod, h.envl]
  by_cases hj : j = e
  ·rw [if_pos ⟨hj, he⟩, if_pos hj]; rfl
  ·rw [if_neg (by rintro ⟨a, _⟩; exact hj a), if_neg hj]
 have hroot : ∀ j, (envAt (modAt k.envs e (setRights ss)) j).root = rootOf k j := by
  intro j
  rw [henv]
  split
  ·rename_i hj; rw [hj]
  ·rfl
 refine ⟨h.mem, h.len, h.inf, h.cache, by rw [modAt_len]; exact h.envl, fun j hj => ?_, fun j hj => ?_, fun j hj g hg => ?_, h.tabs, fun g hg => ?_, fun y hy => ?_⟩
 ·show rightsOk (envAt (modAt k.envs e (setRights ss)) j).rights = true
  rw [henv]
  split
  ·exact hs
  ·exact h.rights j hj
 ·show (envAt (modAt k.envs e (setRights ss)) j).root = -1 ∨ (0 ≤ (envAt (modAt k.envs e (setRights ss)) j).root ∧ (envAt (modAt k.envs e (setRights ss)) j).root ≤ 11 ∧ (infoAt k.infos (envAt (modAt k.envs e (setRights ss)) j).root.toNat).k = 3)
  rw [hroot]
  exact h.roots j hj
 ·have hg2 : g ∈ reachL k.mem (envAt (modAt k.envs e (setRights ss)) j).root := hg
  show mayP (envAt (modAt k.envs e (setRights ss)) j).rights (infoAt k.infos g).g = true
  rw [hroot] at hg2
  rw [henv]
  split
  ·rename_i hj'
   rw [hj'] at hg2
   exact ha g hg2
  ·exact h.allow j hj g hg2
 ·show (infoAt k.infos g).r = (countP k.mem k.infos g : Int) + (rootsP (modAt k.envs e (setRights ss)) g : Int)
  rw [roots_same h.envl]
  exact h.refs g hg
 ·have h4 := h.trans y hy
  unfold transOk at h4 ⊢
  rw [show (envAt (KernV.envs { k with envs := modAt k.envs e (setRights ss) }) y.e.toNat).root = (envAt k.envs y.e.toNat).root from hroot _]
  exact h4
theorem grantP_ok {k : KernV} (h : KOk k) {c : CallV} : KOk (grantP k c).1 := by
 unfold grantP
 split
 ·exact h
 rename_i h1
 simp only [not_or, Bool.not_eq_false] at h1
 have := inB_iff.1 h1.1
 split
 ·exact h
 split
 ·exact h
 exact h.rights_turn (by omega) (add_ok (h.rights _ (by omega)) h1.2) (fun f hf => mayP_mono (fun s hs => add_mono hs) (h.allow _ (by omega) f hf))
theorem revokeP_ok {k : KernV} (h : KOk k) {c : CallV} : KOk (revokeP k c).1 := by
 unfold revokeP
 split
 ·exact h
 rename_i h1
 simp only [not_or, Bool.not_eq_false] at h1
 have := inB_iff.1 h1.1
 split
 ·exact h
 split
 ·exact h
 rename_i h3
 have h3 := allowed_iff.1 (show allowedP k.infos (reachL k.mem (rootOf k c.a.toNat)) (rightsDropP (envAt k.envs c.a.toNat).rights c.nm) = true by simpa [rootOf] using h3)
 exact h.rights_turn (by omega) (filter_ok (h.rights _ (by omega))) h3
theorem useP_ok {k : KernV} (h : KOk k) {c : CallV} (he : 0 ≤ c.e ∧ c.e ≤ 2) : KOk (useP k c).1 := by
 unfold useP
 simp only
 split
 ·exact h
 rename_i h1
 simp only [not_or, Bool.not_eq_false] at h1
 obtain ⟨ha, hr, hb⟩ := h1
 split
 ·exact h
 rename_i hw
 split
 ·exact h
 have hen : c.e.toNat < 3 := by omega
 have hr : 0 ≤ rootOf k c.e.toNat := by unfold rootOf; omega
 have hw : (walkP k.mem (rootOf k c.e.toNat).toNat c.a.toNat).1 = 0 := by simpa [rootOf] using hw
 obtain ⟨hf, hk, _⟩ := h.walk_data hen hr hw
 have ha := inB_iff.1 ha
 have hC : cacheOk (if findC k.cache c.e (c.a / 4) < 0 then putC k.cache ⟨c.e, c.a / 4, ((walkP k.mem (rootOf k c.e.toNat).toNat c.a.toNat).2.1 : Nat), (walkP k.mem (rootOf k c.e.toNat).toNat c.a.toNat).2.2⟩ else k.cache) = true := by
  split
  ·refine putC_ok h.cache ?_
   simp only [cachedOk, Bool.and_eq_true, inB_iff]
   omega
  ·exact h.cache
 have hT : ∀ y ∈ (if findC k.cache c.e (c.a / 4) < 0 then putC k.cache ⟨c.e, c.a / 4, ((walkP k.mem (rootOf k c.e.toNat).toNat c.a.toNat).2.1 : Nat), (walkP k.mem (rootOf k c.e.toNat).toNat c.a.toNat).2.2⟩ else k.cache), transOk k y = true := by
  intro y hy
  split at hy
  ·rcases putC_mem hy with rfl | hy
   ·unfold transOk
    simp only [Bool.and_eq_true, decide_eq_true_eq]
    refine ⟨hr, ?_⟩
    have e1 : 4 * (c.a / 4).toNat / 16 = c.a.toNat / 16 := by omega
    have e2 : 4 * (c.a / 4).toNat / 4 % 4 = c.a.toNat / 4 % 4 := by omega
    have e3 : walkP k.mem (envAt k.envs c.e.toNat).root.toNat (4 * (c.a / 4).toNat) = walkP k.mem (rootOf k c.e.toNat).toNat c.a.toNat := by
     unfold walkP
     rw [e1, e2]
     rfl
    rw [e3, Int.toNat_natCast]
    exact Prod.ext hw rfl
   ·exact h.trans y hy
  ·exact h.trans y hy
 split
 ·rename_i h11
  refine poke_ok h hf hk ?_ hC hT
  simp only [not_and, Bool.not_eq_false] at hb
  exact hb h11
 ·have := h.data (x := infoAt k.infos (walkP k.mem (rootOf k c.e.toNat).toNat c.a.toNat).2.1) hf (.inr hk) ((memOk_iff.1 h.mem).2 _ hf) (h.inf _ hf) (.inr hk) rfl (.inl ⟨rfl, rfl⟩) hC hT
  rw [show k.infos.set _ (infoAt k.infos (walkP k.mem (rootOf k c.e.toNat).toNat c.a.toNat).2.1) = k.infos from set_self, show k.mem.set _ (rowAt k.mem (walkP k.mem (rootOf k c.e.toNat).toNat c.a.toNat).2.1) = k.mem from set_self] at this
  exact this
theorem frameP_ok {k : KernV} (h : KOk k) {c : CallV} : KOk (frameP k c).1 := by
 unfold frameP
 split
 ·exact h
 rename_i h1
 simp only [not_or, Bool.not_eq_false, not_and] at h1
 have ha := inB_iff.1 h1.1
 have han : c.a.toNat < 12 := by omega
 split
 ·exact h
 split
 ·exact giveP_ok h han
 split
 ·exact pokeP_ok h han
 split
 ·rename_i h4
  exact pinned_ok h (pinP_ok h han (h1.2.2 h4))
 split
 ·exact pinned_ok h (unpinP_ok h han)
 exact setP_ok h han (fun h0 hh => by
  rcases hh with hh | hh | hh
  ·exact inB_iff.2 ⟨h0, hh⟩
  ·simp only [entG, Bool.and_eq_true, decide_eq_true_eq] at hh
   exact inB_iff.2 ⟨by omega, by omega⟩
  ·rw [hh]; rfl)
theorem callP_ok {k : KernV} (h : KOk k) {c : CallV} (he : 0 ≤ c.e ∧ c.e ≤ 2) : KOk (callP k c).1 := by
 unfold callP
 split
 ·exact takeP_ok h
 split
 ·exact frameP_ok h
 split
 ·exact rootP_ok h he
 split
 ·exact grantP_ok h
 split
 ·exact revokeP_ok h
 split
 ·exact useP_ok h he
 ·exact h
structure PageV where
 w : Int
 a : Int
 u : Bool
 deriving DecidableEq
structure PagerV where
 kern : KernV
 swap : List (List Int)
 low : List Int
 pages : List PageV
 hand : Int
 limit : Int
 deriving DecidableEq
def gA : ByteArray := ⟨#[97]⟩
def pageAt (l : List PageV) (n : Nat) : PageV := l.getD n ⟨0, 0, false⟩
def lowAt (l : List Int) (n : Nat) : Int := l.getD n 0
def swapOk (s : List (List Int)) : Bool := s.all (fun r => r.isEmpty || rowOk r) && decide (s.length = 16)
def ent (f : Int) : Int := 4 * f + 3
def mineP (infos : List InfoV) (f : Nat) : Bool := decide ((infoAt infos f).g = gA) && decide ((infoAt infos f).r = 1)
def lowOkP (p : PagerV) (i : Nat) : Bool := inB (lowAt p.low i) 0 11 && decide (wdAt p.kern.mem (rootOf p.kern 0).toNat i = ent (lowAt p.low i)) && mineP p.kern.infos (lowAt p.low i).toNat
def tablesOkP (p : PagerV) : Bool := decide (0 ≤ rootOf p.kern 0) && decide (p.low.length = 4) && mineP p.kern.infos (rootOf p.kern 0).toNat && (List.range 4).all (lowOkP p)
def tabWord (p : PagerV) (n : Nat) : Int := wdAt p.kern.mem (lowAt p.low (n / 4)).toNat (n % 4)
def pageOkP (p : PagerV) (n : Nat) : Bool :=
 if (pageAt p.pages n).w = 0 then decide ((pageAt p.pages n).a = 0) && !(pageAt p.pages n).u && decide (tabWord p n = 0)
 else if (pageAt p.pages n).w = 1 then inB (pageAt p.pages n).a 0 11 && decide (tabWord p n = ent (pageAt p.pages n).a) && mineP p.kern.infos (pageAt p.pages n).a.toNat
 else if (pageAt p.pages n).w = 2 then inB (pageAt p.pages n).a 0 15 && !(rowAt p.swap (pageAt p.pages n).a.toNat).isEmpty && !(pageAt p.pages n).u && decide (tabWord p n = 0)
 else false
def atSlot (s : Nat) (x : PageV) : Bool := decide (x.w = 2) && decide (x.a = (s : Int))
def slotUse (pages : List PageV) (s : Nat) : Nat := pages.countP (atSlot s)
def slotOkP (p : PagerV) (s : Nat) : Bool := decide (slotUse p.pages s = if (rowAt p.swap s).isEmpty then 0 else 1)
def aloneP (k : KernV) : Bool := mayP (rightsOf k 0) gA && !mayP (rightsOf k 1) gA && !mayP (rightsOf k 2) gA
def isW (w : Int) (x : PageV) : Bool := decide (x.w = w)
def countW (pages : List PageV) (w : Int) : Nat := pages.countP (isW w)
def pagerOk (p : PagerV) : Bool :=
 kernOk p.kern && swapOk p.swap && aloneP p.kern && tablesOkP p && decide (p.pages.length = 16) && (List.range 16).all (slotOkP p) && (List.range 16).all (pageOkP p) && inB p.hand 0 15 && inB p.limit 1 6 && decide ((countW p.pages 1 : Int) ≤ p.limit)
def pgCall (kind a b c : Int) : CallV := ⟨kind, 0, a, b, c, gA⟩
def setCall (p : PagerV) (n : Nat) (w : Int) : CallV := pgCall 6 (lowAt p.low (n / 4)) ((n % 4 : Nat) : Int) w
def nextHand (h : Int) : Int := (h + 1) % 16
def unuse (x : PageV) : PageV := { x with u := false }
def victimP : Nat → List PageV → Int → List PageV × Int × Option Nat
 | 0, pages, hand => (pages, hand, none)
 | n + 1, pages, hand =>
  if (pageAt pages hand.toNat).w = 1 ∧ (pageAt pages hand.toNat).u = false then (pages, nextHand hand, some hand.toNat)
  else victimP n (pages.set hand.toNat (unuse (pageAt pages hand.toNat))) (nextHand hand)
def freeSlot (s : List (List Int)) : Int := if s.any List.isEmpty then (s.findIdx List.isEmpty : Nat) else -1
def outP (p : PagerV) (n : Nat) : PagerV :=
 { p with kern := (callP (callP p.kern (setCall p n 0)).1 (pgCall 2 (pageAt p.pages n).a 0 0)).1, swap := p.swap.set (freeSlot p.swap).toNat (rowAt p.kern.mem (pageAt p.pages n).a.toNat), pages := p.pages.set n ⟨2, freeSlot p.swap, false⟩ }
def pokes (k : KernV) (f : Int) (ws : List Int) : KernV := (List.range 4).foldl (fun k i => (callP k (pgCall 3 f (i : Nat) (ws.getD i 0))).1) k
def inP (p : PagerV) (n : Nat) : PagerV × Bool :=
 let r := callP p.kern (pgCall 1 0 0 0)
 if r.2.2 ≠ 0 then (p, false)
 else
  let x := pageAt p.pages n
  let k2 := if x.w = 2 then pokes r.1 r.2.1 (rowAt p.swap x.a.toNat) else r.1
  ({ p with kern := (callP k2 (setCall p n (ent r.2.1))).1, swap := if x.w = 2 then p.swap.set x.a.toNat [] else p.swap, pages := p.pages.set n ⟨1, r.2.1, true⟩ }, true)
def useAt (pages : List PageV) (n : Nat) : List PageV := pages.set n { pageAt pages n with u := true }
def fullP (p : PagerV) : Bool := decide (freeP p.kern.infos < 0) || decide ((countW p.pages 1 : Int) = p.limit)
def touchP (p : PagerV) (n : Nat) : PagerV × Bool :=
 if (pageAt p.pages n).w = 1 then ({ p with pages := useAt p.pages n }, true)
 else if freeP p.kern.infos < 0 ∧ countW p.pages 1 = 0 then (p, false)
 else if fullP p then
  match victimP 32 p.pages p.hand with
  | (pages, hand, some m) => inP (outP { p with pages := pages, hand := hand } m) n
  | (_, _, none) => (p, false)
 else inP p n
def loadP (p : PagerV) (a : Nat) : PagerV × Int × Bool :=
 let t := touchP p (a / 4)
 if t.2 then ({ t.1 with kern := (callP t.1.kern (pgCall 10 (a : Int) 0 0)).1 }, (callP t.1.kern (pgCall 10 (a : Int) 0 0)).2.1, true) else (t.1, 0, false)
def storeP (p : PagerV) (a : Nat) (w : Int) : PagerV × Bool :=
 let t := touchP p (a / 4)
 if t.2 then ({ t.1 with kern := (callP t.1.kern (pgCall 11 (a : Int) w 0)).1 }, true) else (t.1, false)
def otherP (p : PagerV) (c : CallV) : PagerV × Int := ({ p with kern := (callP p.kern c).1 }, (callP p.kern c).2.2)
def wordP (p : PagerV) (a : Nat) : Int :=
 if (pageAt p.pages (a / 4)).w = 1 then wdAt p.kern.mem (pageAt p.pages (a / 4)).a.toNat (a % 4)
 else if (pageAt p.pages (a / 4)).w = 2 then wdAt p.swap (pageAt p.pages (a / 4)).a.toNat (a % 4) else 0
def Mine (infos : List InfoV) (f : Nat) : Prop := (infoAt infos f).g = gA ∧ (infoAt infos f).r = 1
theorem mineP_iff {infos : List InfoV} {f : Nat} : mineP infos f = true ↔ Mine infos f := by simp [mineP, Mine]
def PageOk (p : PagerV) (n : Nat) : Prop :=
 ((pageAt p.pages n).w = 0 ∧ (pageAt p.pages n).a = 0 ∧ (pageAt p.pages n).u = false ∧ tabWord p n = 0) ∨
 ((pageAt p.pages n).w = 1 ∧ (0 ≤ (pageAt p.pages n).a ∧ (pageAt p.pages n).a ≤ 11) ∧ tabWord p n = ent (pageAt p.pages n).a ∧ Mine p.kern.infos (pageAt p.pages n).a.toNat) ∨
 ((pageAt p.pages n).w = 2 ∧ (0 ≤ (pageAt p.pages n).a ∧ (pageAt p.pages n).a ≤ 15) ∧ rowAt p.swap (pageAt p.pages n).a.toNat ≠ [] ∧ (pageAt p.pages n).u = false ∧ tabWord p n = 0)
theorem isEmpty_iff' {α : Type} {l : List α} : l.isEmpty = true ↔ l = [] := List.isEmpty_iff
theorem pageOk_iff {p : PagerV} {n : Nat} : pageOkP p n = true ↔ PageOk p n := by
 unfold pageOkP PageOk
 by_cases h0 : (pageAt p.pages n).w = 0
 ·simp [h0, and_assoc]
 ·by_cases h1 : (pageAt p.pages n).w = 1
  ·simp [h1, and_assoc, inB_iff, mineP_iff]
  ·by_cases h2 : (pageAt p.pages n).w = 2
   ·simp [h2, and_assoc, inB_iff]
   ·simp [h0, h1, h2]
structure POk (p : PagerV) : Prop where
 k : KOk p.kern
 swapl : p.swap.length = 16
 swapr : ∀ s, s < 16 → rowAt p.swap s = [] ∨ rowOk (rowAt p.swap s) = true
 may : mayP (rightsOf p.kern 0) gA = true
 alone : ∀ e, 1 ≤ e → e < 3 → mayP (rightsOf p.kern e) gA = false
 root : 0 ≤ rootOf p.kern 0
 lowl : p.low.length = 4
 mroot : Mine p.kern.infos (rootOf p.kern 0).toNat
 lows : ∀ i, i < 4 → 0 ≤ lowAt p.low i ∧ lowAt p.low i ≤ 11 ∧ wdAt p.kern.mem (rootOf p.kern 0).toNat i = ent (lowAt p.low i) ∧ Mine p.kern.infos (lowAt p.low i).toNat
 pagel : p.pages.length = 16
 slots : ∀ s, s < 16 → slotUse p.pages s = if (rowAt p.swap s).isEmpty then 0 else 1
 pages : ∀ n, n < 16 → PageOk p n
 hand : 0 ≤ p.hand ∧ p.hand ≤ 15
 limit : 1 ≤ p.limit ∧ p.limit ≤ 6
 count : (countW p.pages 1 : Int) ≤ p.limit
theorem swapOk_iff {s : List (List Int)} : swapOk s = true ↔ s.length = 16 ∧ ∀ i, i < 16 → rowAt s i = [] ∨ rowOk (rowAt s i) = true := by
 simp only [swapOk, Bool.and_eq_true, List.all_eq_true, decide_eq_true_eq, Bool.or_eq_true, isEmpty_iff']
 constructor
 ·rintro ⟨h1, h2⟩
  exact ⟨h2, fun f hf => h1 _ (getD_mem (by omega))⟩
 ·rintro ⟨h1, h2⟩
  refine ⟨fun r hr => ?_, h1⟩
  obtain ⟨i, hi, rfl⟩ := mem_getD (d := []) hr
  exact h2 i (by omega)
theorem pagerOk_iff {p : PagerV} : pagerOk p = true ↔ POk p := by
 unfold pagerOk tablesOkP aloneP
 simp only [Bool.and_eq_true, range_all, pageOk_iff, inB_iff, decide_eq_true_eq, kernOk_iff, swapOk_iff, slotOkP, lowOkP, mineP_iff, Bool.not_eq_true']
 constructor
 ·rintro ⟨⟨⟨⟨⟨⟨⟨⟨⟨h1, h2⟩, h3⟩, h4⟩, h5⟩, h6⟩, h7⟩, h8⟩, h9⟩, h10⟩
  obtain ⟨⟨⟨a, b⟩, c⟩, d⟩ := h4
  refine ⟨h1, h2.1, h2.2, h3.1.1, fun e he he' => ?_, a, b, c, fun i hi => ?_, h5, h6, h7, h8, h9, h10⟩
  ·have : e = 1 ∨ e = 2 := by omega
   rcases this with rfl | rfl
   ·exact h3.1.2
   ·exact h3.2
  ·obtain ⟨⟨x, y⟩, z⟩ := d i hi
   exact ⟨x.1, x.2, y, z⟩
 ·intro h
  exact ⟨⟨⟨⟨⟨⟨⟨⟨⟨h.k, h.swapl, h.swapr⟩, ⟨h.may, h.alone 1 (by omega) (by omega)⟩, h.alone 2 (by omega) (by omega)⟩, ⟨⟨h.root, h.lowl⟩, h.mroot⟩, fun i hi => by
   obtain ⟨x, y, z, u⟩ := h.lows i hi
   exact ⟨⟨⟨x, y⟩, z⟩, u⟩⟩, h.pagel⟩, h.slots⟩, h.pages⟩, h.hand⟩, h.limit⟩, h.count⟩
theorem ent_names {f : Int} (h0 : 0 ≤ f) (h1 : f ≤ 11) : entG (ent f) = true ∧ entF (ent f) = f.toNat ∧ entW (ent f) = true := by
 unfold entG entF entW ent
 simp only [Bool.and_eq_true, decide_eq_true_eq]
 refine ⟨⟨⟨?_, ?_⟩, ?_⟩, ?_, ?_⟩ <;> omega
theorem two_le_sum {F : Nat → Nat} {n a b : Nat} (ha : a < n) (hb : b < n) (hne : a ≠ b) (h1 : 1 ≤ F a) (h2 : 1 ≤ F b) : 2 ≤ ((List.range n).map F).sum := by
 have e1 := sum_one (F := F) (G := fun t => if t = a then 0 else F t) ha (fun t _ hne => by simp [hne])
 have e2 := sum_one (F := fun t => if t = a then 0 else F t) (G := fun t => if t = b then 0 else if t = a then 0 else F t) hb (fun t _ hne => by simp [hne])
 have hba : ¬ b = a := fun e => hne e.symm
 simp only [if_true, hba, if_false] at e1 e2
 omega
theorem one_le_sum {F : Nat → Nat} {n a : Nat} (ha : a < n) : F a ≤ ((List.range n).map F).sum := by
 have e1 := sum_one (F := F) (G := fun t => if t = a then 0 else F t) ha (fun t _ hne => by simp [hne])
 simp only [if_true] at e1
 omega
theorem count_two {r : List Int} {p : Int → Bool} {i j : Nat} (hi : i < r.length) (hj : j < r.length) (hne : i ≠ j) (h1 : p (r.getD i 0) = true) (h2 : p (r.getD j 0) = true) : 2 ≤ r.countP p := by
 induction r generalizing i j with
 | nil => simp at hi
 | cons x r ih =>
  rw [List.countP_cons]
  cases i with
  | zero =>
   cases j with
   | zero => omega
   | succ j =>
    simp at h1 h2 hj
    have : 0 < r.countP p := List.countP_pos_iff.2 ⟨_, getD_mem (d := 0) hj, by simpa using h2⟩
    rw [if_pos (by simpa using h1)]; omega
  | succ i =>
   cases j with
   | zero =>
    simp at h1 h2 hi
    have : 0 < r.countP p := List.countP_pos_iff.2 ⟨_, getD_mem (d := 0) hi, by simpa using h1⟩
    rw [if_pos (by simpa using h2)]; omega
   | succ j =>
    have := ih (i := i) (j := j) (by simpa using hi) (by simpa using hj) (by omega) (by simpa using h1) (by simpa using h2)
    omega
section
variable {k : KernV} (h : KOk k)
include h
theorem KOk.cnt_pos {f t i : Nat} (ht : t < 12) (htb : tabK (kindAt k t) = true) (hi : i < 4) (hn : names f (wdAt k.mem t i) = true) : 1 ≤ cnt k.mem k.infos f t := by
 unfold cnt
 unfold kindAt at htb
 rw [if_pos htb, named_count]
 exact List.countP_pos_iff.2 ⟨_, getD_mem (d := 0) (by rw [h.row ht]; exact hi), hn⟩
theorem KOk.once {f t i t' i' : Nat} (hf : f < 12) (h1 : (infoAt k.infos f).r = 1) (ht : t < 12) (htb : tabK (kindAt k t) = true) (hi : i < 4) (hn : names f (wdAt k.mem t i) = true)
 (ht' : t' < 12) (htb' : tabK (kindAt k t') = true) (hi' : i' < 4) (hn' : names f (wdAt k.mem t' i') = true) : t = t' ∧ i = i' := by
 have hr := h.refs f hf
 have hc : countP k.mem k.infos f ≤ 1 := by omega
 rw [countP_eq] at hc
 by_cases e : t = t'
 ·subst e
  refine ⟨rfl, ?_⟩
  by_cases e : i = i'
  ·exact e
  ·exfalso
   have h2 : 2 ≤ cnt k.mem k.infos f t := by
    unfold cnt
    unfold kindAt at htb
    rw [if_pos htb, named_count]
    exact count_two (by rw [h.row ht]; exact hi) (by rw [h.row ht]; exact hi') e hn hn'
   have := one_le_sum (F := cnt k.mem k.infos f) ht
   omega
 ·exfalso
  have := two_le_sum (F := cnt k.mem k.infos f) ht ht' e (h.cnt_pos ht htb hi hn) (h.cnt_pos ht' htb' hi' hn')
  omega
end
section
variable {p : PagerV} (h : POk p)
include h
theorem POk.root_lt : (rootOf p.kern 0).toNat < 12 ∧ kindAt p.kern (rootOf p.kern 0).toNat = 3 := h.k.root_kind (by omega) h.root
theorem POk.low_names {i : Nat} (hi : i < 4) : names (lowAt p.low i).toNat (wdAt p.kern.mem (rootOf p.kern 0).toNat i) = true := by
 obtain ⟨a, b, c, _⟩ := h.lows i hi
 obtain ⟨x, y, _⟩ := ent_names a b
 rw [c]
 simp [names, x, y]
theorem POk.low_kind {i : Nat} (hi : i < 4) : (lowAt p.low i).toNat < 12 ∧ kindAt p.kern (lowAt p.low i).toNat = 2 := by
 obtain ⟨a, b, c, _⟩ := h.lows i hi
 obtain ⟨x, y, _⟩ := ent_names a b
 have hm := wd_named (m := p.kern.mem) (f := (rootOf p.kern 0).toNat) (i := i) (by rw [c]; exact x)
 rw [c, y] at hm
 exact h.k.low_kind (by omega) h.root hm
theorem POk.low_inj {i j : Nat} (hi : i < 4) (hj : j < 4) (e : (lowAt p.low i).toNat = (lowAt p.low j).toNat) : i = j := by
 have hr := h.root_lt
 have hl := h.low_kind hi
 have h1 := h.low_names hi
 have h2 := h.low_names hj
 rw [← e] at h2
 exact (h.k.once hl.1 (h.lows i hi).2.2.2.2 hr.1 (by rw [hr.2]; rfl) hi h1 hr.1 (by rw [hr.2]; rfl) hj h2).2
theorem POk.frame_names {n : Nat} (hn : n < 16) (hw : (pageAt p.pages n).w = 1) : names (pageAt p.pages n).a.toNat (tabWord p n) = true ∧ (0 ≤ (pageAt p.pages n).a ∧ (pageAt p.pages n).a ≤ 11) ∧ Mine p.kern.infos (pageAt p.pages n).a.toNat := by
 rcases h.pages n hn with ⟨a, _⟩ | ⟨_, b, c, d⟩ | ⟨a, _⟩
 ·omega
 ·obtain ⟨x, y, _⟩ := ent_names b.1 b.2
  refine ⟨?_, b, d⟩
  rw [c]
  simp [names, x, y]
 ·omega
theorem POk.frame_kind {n : Nat} (hn : n < 16) (hw : (pageAt p.pages n).w = 1) : (pageAt p.pages n).a.toNat < 12 ∧ kindAt p.kern (pageAt p.pages n).a.toNat = 1 := by
 obtain ⟨a, b, _⟩ := h.frame_names hn hw
 have hl := h.low_kind (i := n / 4) (by omega)
 have ha : entG (tabWord p n) = true ∧ entF (tabWord p n) = (pageAt p.pages n).a.toNat := by simpa [names] using a
 have hm := wd_named (m := p.kern.mem) (f := (lowAt p.low (n / 4)).toNat) (i := n % 4) ha.1
 have := h.k.named hl.1 (by rw [hl.2]; rfl) hm
 have e : entF (wdAt p.kern.mem (lowAt p.low (n / 4)).toNat (n % 4)) = (pageAt p.pages n).a.toNat := ha.2
 rw [e] at this
 exact ⟨this.1, by omega⟩
theorem POk.frame_inj {n m : Nat} (hn : n < 16) (hm : m < 16) (hw : (pageAt p.pages n).w = 1) (hw' : (pageAt p.pages m).w = 1) (e : (pageAt p.pages n).a.toNat = (pageAt p.pages m).a.toNat) : n = m := by
 obtain ⟨a, b, c⟩ := h.frame_names hn hw
 obtain ⟨a', _, _⟩ := h.frame_names hm hw'
 rw [← e] at a'
 have hl := h.low_kind (i := n / 4) (by omega)
 have hl' := h.low_kind (i := m / 4) (by omega)
 have hk := h.frame_kind hn hw
 have := h.k.once hk.1 c.2 hl.1 (by rw [hl.2]; rfl) (i := n % 4) (by omega) a hl'.1 (by rw [hl'.2]; rfl) (i' := m % 4) (by omega) a'
 have := h.low_inj (by omega) (by omega) this.1
 omega
end
theorem may0 {k : KernV} (h : mayP (rightsOf k 0) gA = true) {g : ByteArray} (hg : g = gA) : mayE k 0 g = true := by subst hg; exact h
theorem frame_done {k : KernV} {kind a b c : Int} (h1 : 2 ≤ kind) (h6 : kind ≤ 6) (ha0 : 0 ≤ a) (ha : a ≤ 11) (hk : kindAt k a.toNat ≠ 0) (h4 : kind ≠ 4) (hm : mayP (rightsOf k 0) gA = true) (hg : (infoAt k.infos a.toNat).g = gA) :
 callP k (pgCall kind a b c) = if kind = 2 then giveP k (pgCall kind a b c) else if kind = 3 then pokeP k (pgCall kind a b c) else if kind = 5 then pinnedP k (unpinP k.mem k.infos a.toNat) else setP k (pgCall kind a b c) := by
 have e1 : ¬ (pgCall kind a b c).k = 1 := by show ¬ kind = 1; omega
 have e2 : inB (pgCall kind a b c).k 2 6 = true := inB_iff.2 ⟨h1, h6⟩
 have e3 : ¬ (inB (pgCall kind a b c).a 0 11 = false ∨ (infoAt k.infos (pgCall kind a b c).a.toNat).k = 0 ∨ ((pgCall kind a b c).k = 4 ∧ tabK (pgCall kind a b c).b = false)) := by
  rintro (x | x | x)
  ·rw [show inB (pgCall kind a b c).a 0 11 = true from inB_iff.2 ⟨ha0, ha⟩] at x; cases x
  ·exact hk x
  ·exact h4 x.1
 have e4 : ¬ mayE k (pgCall kind a b c).e (infoAt k.infos (pgCall kind a b c).a.toNat).g = false := by
  rw [show mayE k (pgCall kind a b c).e (infoAt k.infos (pgCall kind a b c).a.toNat).g = true from may0 hm hg]; simp
 unfold callP frameP
 rw [if_neg e1, if_pos e2, if_neg e3, if_neg e4]
 show (if kind = 2 then _ else if kind = 3 then _ else if kind = 4 then _ else if kind = 5 then _ else _) = _
 rw [if_neg h4]
 rfl
def kernSet (k : KernV) (t b : Nat) (w : Int) : KernV := { k with mem := setWd k.mem t b w, infos := refer1 (refer1 k.infos (wdAt k.mem t b) (-1)) w 1, cache := (usersP k t).foldl (fun c e => dropC c (e : Nat)) k.cache }
theorem set_done {k : KernV} (h : KOk k) (hm : mayP (rightsOf k 0) gA = true) (hal : ∀ e, 1 ≤ e → e < 3 → mayP (rightsOf k e) gA = false) {a : Int} (ha0 : 0 ≤ a) (ha : a ≤ 11) (htk : kindAt k a.toNat = 2) (hg : (infoAt k.infos a.toNat).g = gA) {b : Nat} (hb : b < 4) {w : Int}
 (hw : w = 0 ∨ ∃ f, 0 ≤ f ∧ f ≤ 11 ∧ w = ent f ∧ kindAt k f.toNat = 1 ∧ (infoAt k.infos f.toNat).g = gA) : callP k (pgCall 6 a b w) = (kernSet k a.toNat b w, 0, 0) := by
 rw [frame_done (by omega) (by omega) ha0 ha (by omega) (by omega) hm hg, if_neg (by omega), if_neg (by omega), if_neg (by omega)]
 have hf : wordFits k (pgCall 6 a b w) = true := by
  unfold wordFits
  show (if entG w then decide ((infoAt k.infos (entF w)).k = (infoAt k.infos a.toNat).k - 1) else decide (w = 0)) = true
  rcases hw with rfl | ⟨f, f0, f1, rfl, fk, fg⟩
  ·simp [entG]
  ·obtain ⟨x, y, _⟩ := ent_names f0 f1
   rw [if_pos x, y]
   unfold kindAt at fk htk
   rw [fk, htk]; rfl
 have e1 : ¬ (tabK (infoAt k.infos (pgCall 6 a b w).a.toNat).k = false ∨ inB (pgCall 6 a b w).b 0 3 = false ∨ wordFits k (pgCall 6 a b w) = false) := by
  rintro (x | x | x)
  ·have : tabK (infoAt k.infos (pgCall 6 a b w).a.toNat).k = true := tabK_iff.2 (.inl htk)
   rw [this] at x; cases x
  ·rw [show inB (pgCall 6 a b w).b 0 3 = true from inB_iff.2 ⟨by show (0 : Int) ≤ (b : Int); omega, by show (b : Int) ≤ 3; omega⟩] at x; cases x
  ·rw [hf] at x; cases x
 have hneed : ∀ g, g ∈ neededP k w → (infoAt k.infos g).g = gA := by
  intro g hg
  rcases hw with rfl | ⟨f, f0, f1, rfl, fk, fg⟩
  ·simp [neededP, entG] at hg
  ·obtain ⟨x, y, _⟩ := ent_names f0 f1
   unfold neededP at hg
   rw [if_pos x, y] at hg
   unfold kindAt at fk
   rw [if_neg (by rw [fk]; decide)] at hg
   simp at hg
   rw [hg]; exact fg
 have e2 : ¬ (usersP k (pgCall 6 a b w).a.toNat).all (fun e => allowedP k.infos (neededP k (pgCall 6 a b w).c) (envAt k.envs e).rights) = false := by
  rw [Bool.not_eq_false, List.all_eq_true]
  intro e he
  rw [allowed_iff]
  intro g hg'
  obtain ⟨u1, u2⟩ := users_mem.1 he
  rw [hneed g hg']
  rcases Nat.eq_zero_or_pos e with h0 | h0
  ·rw [h0]; exact hm
  ·have := h.allow e u1 _ u2
   rw [show (infoAt k.infos (pgCall 6 a b w).a.toNat).g = gA from hg, hal e h0 u1] at this
   cases this
 have e3 : ¬ (entG (pgCall 6 a b w).c = true ∧ mayE k (pgCall 6 a b w).e (infoAt k.infos (entF (pgCall 6 a b w).c)).g = false) := by
  rintro ⟨x, y⟩
  have x' : entG w = true := x
  have y' : mayE k 0 (infoAt k.infos (entF w)).g = false := y
  rw [may0 hm (hneed (entF w) (by unfold neededP; rw [if_pos x']; exact List.mem_cons_self ..))] at y'
  cases y'
 unfold setP
 rw [if_neg e1, if_neg e2, if_neg e3]
 rfl
theorem give_done {k : KernV} (hm : mayP (rightsOf k 0) gA = true) {a b c : Int} (ha0 : 0 ≤ a) (ha : a ≤ 11) (hk : kindAt k a.toNat = 1) (hg : (infoAt k.infos a.toNat).g = gA) (hr : (infoAt k.infos a.toNat).r = 0) :
 callP k (pgCall 2 a b c) = ({ k with infos := k.infos.set a.toNat InfoV.zero }, 0, 0) := by
 rw [frame_done (by omega) (by omega) ha0 ha (by omega) (by omega) hm hg, if_pos rfl]
 unfold giveP
 rw [if_neg (by show ¬ (infoAt k.infos a.toNat).k ≠ 1; unfold kindAt at hk; omega), if_neg (by show ¬ (infoAt k.infos a.toNat).r ≠ 0; omega)]
 rfl
theorem poke_done {k : KernV} (hm : mayP (rightsOf k 0) gA = true) {a w : Int} (ha0 : 0 ≤ a) (ha : a ≤ 11) (hk : kindAt k a.toNat = 1) (hg : (infoAt k.infos a.toNat).g = gA) {i : Nat} (hi : i < 4) (hw : wordOk w = true) :
 callP k (pgCall 3 a i w) = ({ k with mem := setWd k.mem a.toNat i w }, 0, 0) := by
 rw [frame_done (by omega) (by omega) ha0 ha (by omega) (by omega) hm hg, if_neg (by omega), if_pos rfl]
 unfold pokeP
 rw [if_neg]
 ·rfl
 ·rintro (x | x | x)
  ·exact x hk
  ·rw [show inB (pgCall 3 a i w).b 0 3 = true from inB_iff.2 ⟨by show (0 : Int) ≤ (i : Int); omega, by show (i : Int) ≤ 3; omega⟩] at x; cases x
  ·rw [show wordOk (pgCall 3 a i w).c = true from hw] at x; cases x
theorem take_done {k : KernV} (hm : mayP (rightsOf k 0) gA = true) (hf : 0 ≤ freeP k.infos) {a b c : Int} :
 callP k (pgCall 1 a b c) = ({ k with infos := k.infos.set (freeP k.infos).toNat ⟨1, gA, 0⟩, mem := k.mem.set (freeP k.infos).toNat [0, 0, 0, 0] }, freeP k.infos, 0) := by
 unfold callP
 rw [if_pos (show (pgCall 1 a b c).k = 1 from rfl)]
 unfold takeP
 rw [if_neg, if_neg, if_neg]
 ·rfl
 ·omega
 ·rw [show mayE k (pgCall 1 a b c).e (pgCall 1 a b c).nm = true from may0 hm rfl]; simp
 ·rw [show rightOk (pgCall 1 a b c).nm = true from (by decide : rightOk gA = true)]; simp
theorem countP_setP {α : Type} {q : α → Bool} {l : List α} {n : Nat} {y d : α} (hn : n < l.length) : (l.set n y).countP q + b2n (q (l.getD n d)) = l.countP q + b2n (q y) := by
 induction l generalizing n with
 | nil => simp at hn
 | cons x r ih =>
  cases n with
  | zero =>
   simp only [List.set_cons_zero, List.countP_cons, List.getD_cons_zero, b2n]
   omega
  | succ n =>
   simp only [List.set_cons_succ, List.countP_cons, List.getD_cons_succ]
   have := ih (n := n) (by simpa using hn)
   omega
theorem pageAt_set {l : List PageV} {n m : Nat} {x : PageV} : pageAt (l.set n x) m = if m = n ∧ n < l.length then x else pageAt l m := getD_set
theorem count_set {l : List PageV} {n : Nat} {y : PageV} {w : Int} (hn : n < l.length) : countW (l.set n y) w + b2n (isW w (pageAt l n)) = countW l w + b2n (isW w y) := countP_setP hn
theorem slot_set {l : List PageV} {n s : Nat} {y : PageV} (hn : n < l.length) : slotUse (l.set n y) s + b2n (atSlot s (pageAt l n)) = slotUse l s + b2n (atSlot s y) := countP_setP hn
theorem slots_one (m : Nat) (x : PageV) : ((List.range m).map fun s => b2n (atSlot s x)).sum ≤ b2n (isW 2 x) := by
 by_cases hw : x.w = 2
 ·have h1 : b2n (isW 2 x) = 1 := by simp [isW, hw, b2n]
  rw [h1]
  induction m with
  | zero => simp
  | succ m ih =>
   rw [List.range_succ, List.map_append, List.sum_append]
   simp only [List.map_cons, List.map_nil, List.sum_cons, List.sum_nil, Nat.add_zero]
   by_cases ha : x.a = (m : Int)
   ·have h0 : ((List.range m).map fun s => b2n (atSlot s x)).sum = 0 := by
     rw [sum_zero]
     intro t ht
     have : ¬ x.a = (t : Int) := by omega
     simp [atSlot, this, b2n]
    rw [h0]
    unfold b2n; split <;> omega
   ·have : b2n (atSlot m x) = 0 := by simp [atSlot, ha, b2n]
    omega
 ·have h0 : ((List.range m).map fun s => b2n (atSlot s x)).sum = 0 := by
   rw [sum_zero]
   intro t ht
   simp [atSlot, hw, b2n]
  omega
theorem sum_add {F G : Nat → Nat} {n : Nat} : ((List.range n).map fun t => F t + G t).sum = ((List.range n).map F).sum + ((List.range n).map G).sum := by
 induction n with
 | zero => rfl
 | succ n ih =>
  rw [List.range_succ, List.map_append, List.map_append, List.map_append, List.sum_append, List.sum_append, List.sum_append, ih]
  simp
  omega
theorem slots_all (m : Nat) (l : List PageV) : ((List.range m).map fun s => slotUse l s).sum ≤ countW l 2 := by
 induction l with
 | nil =>
  have : ((List.range m).map fun s => slotUse [] s).sum = 0 := by
   rw [sum_zero]
   intro t _
   rfl
  omega
 | cons x l ih =>
  have e : ∀ s, s < m → slotUse (x :: l) s = slotUse l s + b2n (atSlot s x) := fun s _ => by
   unfold slotUse b2n
   rw [List.countP_cons]
  rw [sum_congr e, sum_add]
  have e2 : countW (x :: l) 2 = countW l 2 + b2n (isW 2 x) := by
   unfold countW b2n
   rw [List.countP_cons]
  have := slots_one m x
  have ih' : ((List.range m).map (slotUse l)).sum ≤ countW l 2 := ih
  omega
theorem count_le {l : List PageV} {n : Nat} (hn : n < l.length) {w : Int} (hw : (pageAt l n).w ≠ w) : countW l w + 1 ≤ l.length := by
 have h1 := count_set (y := ⟨w, 0, false⟩) (w := w) hn
 have h2 : countW (l.set n ⟨w, 0, false⟩) w ≤ (l.set n ⟨w, 0, false⟩).length := List.countP_le_length
 rw [List.length_set] at h2
 have h3 : b2n (isW w (pageAt l n)) = 0 := by simp [isW, hw, b2n]
 have h4 : b2n (isW w ⟨w, 0, false⟩) = 1 := by simp [isW, b2n]
 omega
theorem freeSlot_some {s : List (List Int)} (h : ∃ i, i < s.length ∧ rowAt s i = []) : 0 ≤ freeSlot s ∧ (freeSlot s).toNat < s.length ∧ rowAt s (freeSlot s).toNat = [] := by
 obtain ⟨i, hi, he⟩ := h
 have ha : s.any List.isEmpty = true := any_mem.2 ⟨_, getD_mem (d := []) hi, by unfold rowAt at he; rw [he]; rfl⟩
 unfold freeSlot
 rw [if_pos ha]
 have hl : s.findIdx List.isEmpty < s.length := List.findIdx_lt_length.2 (any_mem.1 ha)
 refine ⟨by omega, by simpa using hl, ?_⟩
 have := List.findIdx_getElem (w := hl)
 unfold rowAt
 simpa [hl] using this
theorem POk.slot {p : PagerV} (h : POk p) {n : Nat} (hn : n < 16) (hw : (pageAt p.pages n).w ≠ 2) : 0 ≤ freeSlot p.swap ∧ (freeSlot p.swap).toNat < 16 ∧ rowAt p.swap (freeSlot p.swap).toNat = [] := by
 rw [← h.swapl]
 refine freeSlot_some (Classical.byContradiction fun hno => ?_)
 have h1 : ∀ s, s < 16 → slotUse p.pages s = 1 := by
  intro s hs
  have := h.slots s hs
  rw [if_neg] at this
  ·exact this
  ·intro he
   exact hno ⟨s, by rw [h.swapl]; exact hs, isEmpty_iff'.1 he⟩
 have h2 := slots_all 16 p.pages
 rw [sum_congr h1] at h2
 have h3 := count_le (l := p.pages) (n := n) (by rw [h.pagel]; exact hn) hw
 rw [h.pagel] at h3
 have h4 : ((List.range 16).map fun _ => 1).sum = 16 := by decide
 omega
theorem outP_kern {p : PagerV} (h : POk p) {n : Nat} (hn : n < 16) (hw : (pageAt p.pages n).w = 1) :
 (outP p n).kern = { kernSet p.kern (lowAt p.low (n / 4)).toNat (n % 4) 0 with infos := (kernSet p.kern (lowAt p.low (n / 4)).toNat (n % 4) 0).infos.set (pageAt p.pages n).a.toNat InfoV.zero } := by
 have hl := h.lows (n / 4) (by omega)
 have hlk := h.low_kind (i := n / 4) (by omega)
 obtain ⟨f1, f2, f3⟩ := h.frame_names hn hw
 have fk := h.frame_kind hn hw
 unfold outP setCall
 rw [set_done h.k h.may h.alone hl.1 hl.2.1 hlk.2 hl.2.2.2.1 (by omega) (.inl rfl)]
 have hn1 : names (pageAt p.pages n).a.toNat (wdAt p.kern.mem (lowAt p.low (n / 4)).toNat (n % 4)) = true := f1
 have hat : infoAt (kernSet p.kern (lowAt p.low (n / 4)).toNat (n % 4) 0).infos (pageAt p.pages n).a.toNat = { infoAt p.kern.infos (pageAt p.pages n).a.toNat with r := 0 } := by
  unfold kernSet
  show infoAt (refer1 (refer1 p.kern.infos (wdAt p.kern.mem (lowAt p.low (n / 4)).toNat (n % 4)) (-1)) 0 1) _ = _
  rw [refer1_at (by rw [refer1_len]; exact h.k.len), refer1_at h.k.len, hn1, f3.2]
  simp [names, entG, b2n]
 rw [give_done (k := kernSet p.kern (lowAt p.low (n / 4)).toNat (n % 4) 0) h.may f2.1 f2.2]
 ·show (infoAt (kernSet p.kern (lowAt p.low (n / 4)).toNat (n % 4) 0).infos (pageAt p.pages n).a.toNat).k = 1
  rw [hat]; exact fk.2
 ·rw [hat]; exact f3.1
 ·rw [hat]
theorem setWd_at {m : List (List Int)} {t b f i : Nat} {w : Int} (ht : t < m.length) (hb : b < (rowAt m t).length) : wdAt (setWd m t b w) f i = if f = t ∧ i = b then w else wdAt m f i := by
 unfold wdAt
 rw [rowAt_setWd]
 by_cases e : f = t
 ·subst e
  rw [if_pos ⟨rfl, ht⟩, getD_set]
  by_cases e2 : i = b
  ·simp [e2, hb]
  ·simp [e2]
 ·simp [e]
end Go.Proofs.YtjacdlekgdnndaaGreatDoor
set_option linter.unusedVariables false
namespace Go.Proofs.YtjacdlekgdnndaaGreatDoor
open Go.RowKit
theorem RegB {P : Program} {f : FuncId} {args : Array Value} {w1 : World} {v : Value} (h : ∀ w', Below w1.heap.size w1 w' → Calls P f args w' fun e w'' => e = .returned v ∧ Below w'.heap.size w' w'') :
 ∀ d os, Calls P f args (Sort.grow (redrawn w1 d) os) fun e w'' => e = .returned v ∧ ∃ p : Regrown, w'' = Sort.grow (redrawn w1 p.d) p.os := fun d os => Calls.regrown_of (h _ (below_regrown w1 d os))
theorem RegS {P : Program} {f : FuncId} {args : Array Value} {w1 : World} {v : Value} (h : ∀ w', Calls P f args w' fun e w'' => e = .returned v ∧ w' = w'') :
 ∀ d os, Calls P f args (Sort.grow (redrawn w1 d) os) fun e w'' => e = .returned v ∧ ∃ p : Regrown, w'' = Sort.grow (redrawn w1 p.d) p.os := RegB fun w' _ => (h w').mono fun e w'' ⟨he, hw⟩ => ⟨he, hw ▸ Below.refl _ _⟩
theorem same_below {P : Program} {f : FuncId} {args : Array Value} {w : World} {v : Value} (h : Calls P f args w fun e w' => e = .returned v ∧ w = w') : Calls P f args w fun e w' => e = .returned v ∧ Below w.heap.size w w' := h.mono fun e w'' ⟨he, hw⟩ => ⟨he, hw ▸ Below.refl _ _⟩
theorem quiet_below' {P : Program} {f : FuncId} {args : Array Value} {w : World} {v : Value} (h : Calls P f args w fun e w' => e = .returned v ∧ ∃ n, w' = w.drewN n) : Calls P f args w fun e w' => e = .returned v ∧ Below w.heap.size w w' :=
 h.mono fun e w'' ⟨he, n, hw⟩ => ⟨he, hw ▸ below_drewN (Below.refl _ _) n⟩
theorem ret_of {a b : Value} (h : a = b) : Ending.returned a = .returned b := by rw [h]
section
variable {w : World} {a : Option Addr}
theorem AtF.infoCells {xs : List InfoV} (h : AtF 3 infoCs w a xs) {k : Nat} (hk : k < xs.length) : ∃ b off, a = some ⟨b, off, none⟩ ∧ b < w.heap.size ∧ w.cell? ⟨b, off + k * 3, none⟩ = some (.int .i64 (infoAt xs k).k) ∧ w.cell? ⟨b, off + k * 3 + 1, none⟩ = some (.string (infoAt xs k).g) ∧ w.cell? ⟨b, off + k * 3 + 2, none⟩ = some (.int .i64 (infoAt xs k).r) := by
 obtain ⟨b, off, rfl, hlt, hc⟩ := h k (infoAt xs k) (by simp [infoAt, hk])
 exact ⟨b, off, rfl, hlt, hc 0 _ rfl, hc 1 _ rfl, hc 2 _ rfl⟩
theorem AtF.cachedCells {xs : List CachedV} (h : AtF 4 cachedCs w a xs) {k : Nat} (hk : k < xs.length) : ∃ b off, a = some ⟨b, off, none⟩ ∧ b < w.heap.size ∧ w.cell? ⟨b, off + k * 4, none⟩ = some (.int .i64 (cacheAt xs k).e) ∧ w.cell? ⟨b, off + k * 4 + 1, none⟩ = some (.int .i64 (cacheAt xs k).p) ∧ w.cell? ⟨b, off + k * 4 + 2, none⟩ = some (.int .i64 (cacheAt xs k).f) ∧ w.cell? ⟨b, off + k * 4 + 3, none⟩ = some (.bool (cacheAt xs k).w) := by
 obtain ⟨b, off, rfl, hlt, hc⟩ := h k (cacheAt xs k) (by simp [cacheAt, hk])
 exact ⟨b, off, rfl, hlt, hc 0 _ rfl, hc 1 _ rfl, hc 2 _ rfl, hc 3 _ rfl⟩
end
theorem AtInts.cellAt {w : World} {a : Option Addr} {xs : List Int} (h : AtInts w a xs) {k : Nat} (hk : k < xs.length) : ∃ b off, a = some ⟨b, off, none⟩ ∧ b < w.heap.size ∧ w.cell? ⟨b, off + k, none⟩ = some (.int .i64 (nth xs k)) := by
 obtain ⟨b, off, rfl, hc⟩ := h.at hk
 exact ⟨b, off, rfl, World.block_lt_of_cell? w _ hc, hc⟩
def AtRows (w : World) (a : Option Addr) (m : List (List Int)) : Prop := ∀ f, f < m.length → ∃ b off u, a = some ⟨b, off, none⟩ ∧ b < w.heap.size ∧ w.cell? ⟨b, off + f, none⟩ = some u ∧ RdInts w u (rowAt m f)
theorem RdRows.open {w : World} {v : Value} {m : List (List Int)} (h : RdRows w v m) : ∃ a cap, v = .slice a m.length cap ∧ m.length ≤ cap ∧ cap ≤ maxLen ∧ AtRows w a m := by
 obtain ⟨vs, h1, h2⟩ := h
 obtain ⟨a, cap, rfl, hc, hcm, H⟩ := RdF.open oneCs_len (by decide) h1
 refine ⟨a, cap, by rw [h2.1], by rw [← h2.1]; exact hc, hcm, fun f hf => ?_⟩
 have hv : f < vs.length := by rw [h2.1]; exact hf
 obtain ⟨b, off, rfl, hlt, hcell⟩ := H f _ (List.getElem?_eq_getElem hv)
 refine ⟨b, off, vs[f], rfl, hlt, by simpa using hcell 0 _ rfl, h2.2 f _ _ (List.getElem?_eq_getElem hv) ?_⟩
 unfold rowAt
 exact getD_lt hf
theorem AtRows.below {w w' : World} {a : Option Addr} {m : List (List Int)} (h : AtRows w a m) (hb : Below w.heap.size w w') : AtRows w' a m := by
 intro f hf
 obtain ⟨b, off, u, rfl, hlt, hc, hr⟩ := h f hf
 exact ⟨b, off, u, rfl, Nat.lt_of_lt_of_le hlt hb.size, (hb.cell (p := ⟨b, off + f, none⟩) hlt).trans hc, hr.below hb⟩
set_option maxHeartbeats 400000 in
theorem isFrame_any (n : Int) (w : World) : Calls Tryz.prog 49 #[.int .i64 n] w fun e w' => e = .returned (.bool (inB n 0 11)) ∧ w = w' := by
 go_enter Tryz.func49, Tryz.ntmps49
 go_wp2_with (go_at_call 55; refine (within_any _ _ _ _).mono ?_; rintro e w' ⟨rfl, rfl⟩)
 go_ret
 exact ⟨rfl, rfl⟩
set_option maxHeartbeats 400000 in
theorem isPlace_any (n : Int) (w : World) : Calls Tryz.prog 224 #[.int .i64 n] w fun e w' => e = .returned (.bool (inB n 0 3)) ∧ w = w' := by
 go_enter Tryz.func224, Tryz.ntmps224
 go_wp2_with (go_at_call 55; refine (within_any _ _ _ _).mono ?_; rintro e w' ⟨rfl, rfl⟩)
 go_ret
 exact ⟨rfl, rfl⟩
set_option maxHeartbeats 400000 in
theorem isPage_any (n : Int) (w : World) : Calls Tryz.prog 184 #[.int .i64 n] w fun e w' => e = .returned (.bool (inB n 0 15)) ∧ w = w' := by
 go_enter Tryz.func184, Tryz.ntmps184
 go_wp2_with (go_at_call 55; refine (within_any _ _ _ _).mono ?_; rintro e w' ⟨rfl, rfl⟩)
 go_ret
 exact ⟨rfl, rfl⟩
set_option maxHeartbeats 400000 in
theorem EntryPut_yes (f : Int) (w : World) (h0 : 0 ≤ f) (h1 : f ≤ 11) : Calls Tryz.prog 57 #[.int .i64 f, .bool true] w fun e w' => e = .returned (.tuple #[.int .i64 (ent f), .bool true]) ∧ w = w' := by
 have H := Lib.hid (show inB f 0 11 = true from inB_iff.2 ⟨h0, h1⟩)
 go_enter Tryz.func57, Tryz.ntmps57
 go_wp2_with (go_at_call 49; refine (isFrame_any _ _).mono ?_; rintro e w' ⟨rfl, rfl⟩; rw [H.out])
 go_ret2
 exact ⟨rfl, rfl⟩
set_option maxHeartbeats 400000 in
theorem EntryPut_no (f : Int) (b : Bool) (w : World) (h : inB f 0 11 = false) : Calls Tryz.prog 57 #[.int .i64 f, .bool b] w fun e w' => e = .returned (.tuple #[.int .i64 0, .bool false]) ∧ w = w' := by
 have H := Lib.hid h; clear h
 go_enter Tryz.func57, Tryz.ntmps57
 go_wp2_with (go_at_call 49; refine (isFrame_any _ _).mono ?_; rintro e w' ⟨rfl, rfl⟩; rw [H.out])
 go_ret2
 exact ⟨rfl, rfl⟩
theorem entG_bounds {x : Int} (h : entG x = true) : 0 < x ∧ x < 48 ∧ x % 2 = 1 := by
 simp only [entG, Bool.and_eq_true, decide_eq_true_eq] at h
 omega
theorem entF_int {x : Int} (h : entG x = true) : ((entF x : Nat) : Int) = x / 4 := by
 have := entG_bounds h
 unfold entF
 omega
def entV (x : Int) : Value := .tuple #[.int .i64 (if entG x then ((entF x : Nat) : Int) else 0), .bool (entG x && entW x), .bool (entG x)]
theorem entV_yes {x : Int} (h : entG x = true) : entV x = .tuple #[.int .i64 ((entF x : Nat) : Int), .bool (entW x), .bool true] := by simp [entV, h]
theorem entV_no {x : Int} (h : entG x = false) : entV x = .tuple #[.int .i64 0, .bool false, .bool false] := by simp [entV, h]
set_option maxHeartbeats 1000000 in
theorem EntryGet_any (x : Int) (w : World) (hx : x ≤ 9223372036854775807) : Calls Tryz.prog 118 #[.int .i64 x] w fun e w' => e = .returned (entV x) ∧ w = w' := by
 by_cases h0 : x < 0
 ·have E := Lib.hid (entV_no (x := x) (by simp [entG]; omega))
  go_enter Tryz.func118, Tryz.ntmps118
  go_wp2_with fail
  go_ret3
  exact ⟨ret_of E.out.symm, rfl⟩
 ·have h0' : 0 ≤ x := by omega
  by_cases h1 : x % 2 = 0
  ·have E := Lib.hid (entV_no (x := x) (by simp [entG]; omega))
   have t : (x % 2 == 0) = true := by simp [h1]
   clear h1
   go_enter Tryz.func118, Tryz.ntmps118
   go_wp2_with fail
   go_ret3
   exact ⟨ret_of E.out.symm, rfl⟩
  ·have t : (x % 2 == 0) = false := by simp; omega
   cases hb : inB (x / 4) 0 11
   ·have E := Lib.hid (entV_no (x := x) (by have := inB_no.1 hb; simp [entG]; omega))
    have H := Lib.hid hb; clear hb h1
    go_enter Tryz.func118, Tryz.ntmps118
    go_wp2_with (go_at_call 49; refine (isFrame_any _ _).mono ?_; rintro e w' ⟨rfl, rfl⟩; rw [H.out])
    go_ret3
    exact ⟨ret_of E.out.symm, rfl⟩
   ·have hg : entG x = true := by have := inB_iff.1 hb; simp [entG]; omega
    have W : entW x = (x % 4 == 3) := by cases h : (x % 4 == 3) <;> simp_all [entW]
    have E := Lib.hid (show entV x = .tuple #[.int .i64 (x / 4), .bool (x % 4 == 3), .bool true] by rw [entV_yes hg, entF_int hg, W])
    clear W
    have H := Lib.hid hb; clear hb h1 hg
    go_enter Tryz.func118, Tryz.ntmps118
    go_wp2_with (go_at_call 49; refine (isFrame_any _ _).mono ?_; rintro e w' ⟨rfl, rfl⟩; rw [H.out])
    go_ret3
    exact ⟨ret_of E.out.symm, rfl⟩
set_option maxHeartbeats 400000 in
theorem AddressCut_yes (a : Nat) (w : World) (h : a < 64) : Calls Tryz.prog 126 #[.int .i64 (a : Int)] w fun e w' => e = .returned (.tuple #[.int .i64 ((a / 16 : Nat) : Int), .int .i64 ((a / 4 % 4 : Nat) : Int), .int .i64 ((a % 4 : Nat) : Int), .bool true]) ∧ w = w' := by
 have H := Lib.hid (show inB (a : Int) 0 63 = true from inB_iff.2 (by omega))
 have e1 : (a : Int) / 16 = ((a / 16 : Nat) : Int) := by omega
 have e2 : (a : Int) / 4 % 4 = ((a / 4 % 4 : Nat) : Int) := by omega
 have e3 : (a : Int) % 4 = ((a % 4 : Nat) : Int) := by omega
 have E := Lib.hid (And.intro e1 (And.intro e2 e3))
 clear e1 e2 e3
 go_enter Tryz.func126, Tryz.ntmps126
 go_wp2_with (go_at_call 135; refine (isAddress_any _ _).mono ?_; rintro e w' ⟨rfl, rfl⟩; rw [H.out])
 refine bodyPost_ret (v := .tuple #[.int .i64 ((a : Int) / 16), .int .i64 ((a : Int) / 4 % 4), .int .i64 ((a : Int) % 4), .bool true]) (by simp [results, Tryz.results126, go_sem]) rfl ⟨?_, rfl⟩
 rw [E.out.1, E.out.2.1, E.out.2.2]
set_option maxHeartbeats 400000 in
theorem TableNeeds_any (k : Int) (w : World) : Calls Tryz.prog 125 #[.int .i64 k] w fun e w' => e = .returned (.int .i64 (needs k)) ∧ w = w' := by
 by_cases h3 : k = 3
 ·subst h3
  go_enter Tryz.func125, Tryz.ntmps125
  go_wp2_with fail
  go_ret
  exact ⟨rfl, rfl⟩
 ·have t3 : (k == 3) = false := by simp [h3]
  by_cases h2 : k = 2
  ·subst h2
   go_enter Tryz.func125, Tryz.ntmps125
   go_wp2_with fail
   go_ret
   exact ⟨rfl, rfl⟩
  ·have t2 : (k == 2) = false := by simp [h2]
   have E := Lib.hid (show needs k = 0 by simp [needs, tabK, h2, h3])
   clear h2 h3
   go_enter Tryz.func125, Tryz.ntmps125
   go_wp2_with fail
   go_ret
   exact ⟨ret_int E.out.symm, rfl⟩
set_option maxHeartbeats 400000 in
theorem isTable_any (k : Int) (w : World) : Calls Tryz.prog 52 #[.int .i64 k] w fun e w' => e = .returned (.bool (tabK k)) ∧ w = w' := by
 by_cases h2 : k = 2
 ·subst h2
  go_enter Tryz.func52, Tryz.ntmps52
  go_wp2_with fail
  go_ret
  exact ⟨rfl, rfl⟩
 ·have t2 : (k == 2) = false := by simp [h2]
  have E := Lib.hid (show tabK k = (k == 3) by cases h : (k == 3) <;> simp_all [tabK])
  clear h2
  go_enter Tryz.func52, Tryz.ntmps52
  go_wp2_with fail
  go_ret
  exact ⟨ret_bool E.out.symm, rfl⟩
set_option maxHeartbeats 400000 in
theorem pinCode_any (k : Int) (w : World) : Calls Tryz.prog 226 #[.int .i64 k] w fun e w' => e = .returned (.int .i64 (pinCode k)) ∧ w = w' := by
 by_cases h3 : k = 0
 ·subst h3
  go_enter Tryz.func226, Tryz.ntmps226
  go_wp2_with fail
  go_ret
  exact ⟨rfl, rfl⟩
 ·have t3 : (k == 0) = false := by simp [h3]
  by_cases h2 : k = 1
  ·subst h2
   go_enter Tryz.func226, Tryz.ntmps226
   go_wp2_with fail
   go_ret
   exact ⟨rfl, rfl⟩
  ·have t2 : (k == 1) = false := by simp [h2]
   have E := Lib.hid (show pinCode k = 3 by simp [pinCode, h2, h3])
   clear h2 h3
   go_enter Tryz.func226, Tryz.ntmps226
   go_wp2_with fail
   go_ret
   exact ⟨ret_int E.out.symm, rfl⟩
def findIx {α : Type} (p : α → Bool) (xs : List α) : Int := if xs.any p then (xs.findIdx p : Int) else -1
section
variable {α : Type} {p : α → Bool} {xs : List α}
theorem findIx_none (h : ∀ (j : Nat) x, xs[j]? = some x → p x = false) : findIx p xs = -1 := by
 unfold findIx
 have : xs.any p = false := by
  rw [List.any_eq_false]
  intro x hx
  obtain ⟨j, hj⟩ := List.getElem?_of_mem hx
  simp [h j x hj]
 simp [this]
theorem findIx_at {k : Nat} {x : α} (hk : xs[k]? = some x) (h : ∀ (j : Nat) y, j < k → xs[j]? = some y → p y = false) (hp : p x = true) : findIx p xs = k := by
 unfold findIx
 obtain ⟨hlt, rfl⟩ := List.getElem?_eq_some_iff.1 hk
 have h1 : xs.any p = true := List.any_eq_true.2 ⟨xs[k], List.getElem_mem hlt, hp⟩
 have h2 : xs.findIdx p = k := by
  rw [List.findIdx_eq hlt]
  exact ⟨hp, fun j hj => h j _ hj (List.getElem?_eq_getElem (by omega))⟩
 simp [h1, h2]
theorem findIx_ge : decide (0 ≤ findIx p xs) = xs.any p := by
 unfold findIx
 cases xs.any p <;> simp
theorem before_next {k : Nat} {x : α} (h : ∀ (j : Nat) y, j < k → xs[j]? = some y → p y = false) (hk : xs[k]? = some x) (hp : p x = false) : ∀ (j : Nat) y, j < k + 1 → xs[j]? = some y → p y = false := by
 intro j y hj hy
 rcases Nat.lt_succ_iff_lt_or_eq.1 hj with h' | h'
 ·exact h j y h' hy
 ·subst h'
  rw [hk] at hy
  cases hy
  exact hp
end
set_option maxHeartbeats 1000000 in
theorem IndexFuncInfo_any (F : Nat) (caps : Array Value) (p : InfoV → Bool) (v : Value) (xs : List InfoV) (w : World) (h : RdInfos w v xs)
 (hF : ∀ args w, (callFunc F args).run Tryz.prog w = .ok (.enter F args) w) (hf : ∀ x, x ∈ xs → ∀ W, Below w.heap.size w W → Calls Tryz.prog F (#[x.val] ++ caps) W fun e W' => e = .returned (.bool (p x)) ∧ Below W.heap.size W W') :
 Calls Tryz.prog 183 #[v, .func (.func F) #[] caps] w fun e w' => e = .returned (.int .i64 (findIx p xs)) ∧ Below w.heap.size w w' := by
 obtain ⟨a, c, rfl, hc, hcm, H0⟩ := RdF.open infoCs_len (by decide) h
 clear h
 unfold maxLen at hcm
 have Hf := Lib.hid hf; clear hf
 go_enter Tryz.func183, Tryz.ntmps183
 go_wp2
 go_loopw [8] (fun i wr => ∃ k : Nat, k ≤ xs.length ∧ i = .int .i64 k ∧ (∀ (j : Nat) x, j < k → xs[j]? = some x → p x = false) ∧ Below w.heap.size w wr) (fun i _ => xs.length - (intOf i).toNat)
 case atStart => exact ⟨0, Nat.zero_le _, rfl, fun j x hj => absurd hj (Nat.not_lt_zero _), Below.refl _ _⟩
 case round =>
  obtain ⟨k, hk, rfl, hpre, hbel⟩ := hrel
  have Hpre := Lib.hid hpre; clear hpre
  by_cases hlt : k < xs.length
  ·have hx : xs[k]? = some (infoAt xs k) := by simp [infoAt, hlt]
   obtain ⟨b, off, rfl, hbl, D0', D1', D2'⟩ := H0.infoCells hlt
   have D0 := (hbel.cell (p := ⟨b, off + k * 3, none⟩) hbl).trans D0'
   have D1 := (hbel.cell (p := ⟨b, off + k * 3 + 1, none⟩) hbl).trans D1'
   have D2 := (hbel.cell (p := ⟨b, off + k * 3 + 2, none⟩) hbl).trans D2'
   clear D0' D1' D2'
   have Hx := Lib.hid hx
   have Hc := Lib.hid (Hf.out _ (List.mem_of_getElem? hx) wr hbel)
   clear hx
   cases hp : p (infoAt xs k)
   ·have Hp := Lib.hid hp; clear hp
    go_wp2_with (refine (Hc.out).mono ?_; rintro e w' ⟨rfl, hb2⟩; rw [Hp.out])
    go_roundw
    case rel => exact ⟨k + 1, by omega, by go_num, before_next Hpre.out Hx.out Hp.out, hbel.trans (hb2.mono hbel.size)⟩
    case measure => simp [intOf]; omega
   ·have Hp := Lib.hid hp; clear hp
    have hres := Lib.hid (findIx_at Hx.out Hpre.out Hp.out)
    go_wp2_with (refine (Hc.out).mono ?_; rintro e w' ⟨rfl, hb2⟩; rw [Hp.out])
    go_ret
    exact ⟨ret_int hres.out.symm, hbel.trans (hb2.mono hbel.size)⟩
  ·have hres := Lib.hid (findIx_none (p := p) (xs := xs) (fun j x hx => Hpre.out j x (by have := (List.getElem?_eq_some_iff.1 hx).1; omega) hx))
   go_wp2
   go_ret
   exact ⟨ret_int hres.out.symm, hbel⟩
set_option maxHeartbeats 400000 in
theorem ContainsFuncInfo_any (F : Nat) (caps : Array Value) (p : InfoV → Bool) (v : Value) (xs : List InfoV) (w : World) (h : RdInfos w v xs)
 (hF : ∀ args w, (callFunc F args).run Tryz.prog w = .ok (.enter F args) w) (hf : ∀ x, x ∈ xs → ∀ W, Below w.heap.size w W → Calls Tryz.prog F (#[x.val] ++ caps) W fun e W' => e = .returned (.bool (p x)) ∧ Below W.heap.size W W') :
 Calls Tryz.prog 113 #[v, .func (.func F) #[] caps] w fun e w' => e = .returned (.bool (xs.any p)) ∧ Below w.heap.size w w' := by
 have E := Lib.hid (findIx_ge (p := p) (xs := xs))
 have C := Lib.hid (IndexFuncInfo_any F caps p v xs w h hF hf)
 clear h hf
 go_enter Tryz.func113, Tryz.ntmps113
 go_wp2_with (refine (C.out).mono ?_; rintro e w' ⟨rfl, hb2⟩)
 go_ret
 exact ⟨ret_bool E.out, hb2⟩
set_option maxHeartbeats 1000000 in
theorem IndexFuncCached_any (F : Nat) (caps : Array Value) (p : CachedV → Bool) (v : Value) (xs : List CachedV) (w : World) (h : RdCache w v xs)
 (hF : ∀ args w, (callFunc F args).run Tryz.prog w = .ok (.enter F args) w) (hf : ∀ x, x ∈ xs → ∀ W, Below w.heap.size w W → Calls Tryz.prog F (#[x.val] ++ caps) W fun e W' => e = .returned (.bool (p x)) ∧ Below W.heap.size W W') :
 Calls Tryz.prog 185 #[v, .func (.func F) #[] caps] w fun e w' => e = .returned (.int .i64 (findIx p xs)) ∧ Below w.heap.size w w' := by
 obtain ⟨a, c, rfl, hc, hcm, H0⟩ := RdF.open cachedCs_len (by decide) h
 clear h
 unfold maxLen at hcm
 have Hf := Lib.hid hf; clear hf
 go_enter Tryz.func185, Tryz.ntmps185
 go_wp2
 go_loopw [8] (fun i wr => ∃ k : Nat, k ≤ xs.length ∧ i = .int .i64 k ∧ (∀ (j : Nat) x, j < k → xs[j]? = some x → p x = false) ∧ Below w.heap.size w wr) (fun i _ => xs.length - (intOf i).toNat)
 case atStart => exact ⟨0, Nat.zero_le _, rfl, fun j x hj => absurd hj (Nat.not_lt_zero _), Below.refl _ _⟩
 case round =>
  obtain ⟨k, hk, rfl, hpre, hbel⟩ := hrel
  have Hpre := Lib.hid hpre; clear hpre
  by_cases hlt : k < xs.length
  ·have hx : xs[k]? = some (cacheAt xs k) := by simp [cacheAt, hlt]
   obtain ⟨b, off, rfl, hbl, D0', D1', D2', D3'⟩ := H0.cachedCells hlt
   have D0 := (hbel.cell (p := ⟨b, off + k * 4, none⟩) hbl).trans D0'
   have D1 := (hbel.cell (p := ⟨b, off + k * 4 + 1, none⟩) hbl).trans D1'
   have D2 := (hbel.cell (p := ⟨b, off + k * 4 + 2, none⟩) hbl).trans D2'
   have D3 := (hbel.cell (p := ⟨b, off + k * 4 + 3, none⟩) hbl).trans D3'
   clear D0' D1' D2' D3'
   have Hx := Lib.hid hx
   have Hc := Lib.hid (Hf.out _ (List.mem_of_getElem? hx) wr hbel)
   clear hx
   cases hp : p (cacheAt xs k)
   ·have Hp := Lib.hid hp; clear hp
    go_wp2_with (refine (Hc.out).mono ?_; rintro e w' ⟨rfl, hb2⟩; rw [Hp.out])
    go_roundw
    case rel => exact ⟨k + 1, by omega, by go_num, before_next Hpre.out Hx.out Hp.out, hbel.trans (hb2.mono hbel.size)⟩
    case measure => simp [intOf]; omega
   ·have Hp := Lib.hid hp; clear hp
    have hres := Lib.hid (findIx_at Hx.out Hpre.out Hp.out)
    go_wp2_with (refine (Hc.out).mono ?_; rintro e w' ⟨rfl, hb2⟩; rw [Hp.out])
    go_ret
    exact ⟨ret_int hres.out.symm, hbel.trans (hb2.mono hbel.size)⟩
  ·have hres := Lib.hid (findIx_none (p := p) (xs := xs) (fun j x hx => Hpre.out j x (by have := (List.getElem?_eq_some_iff.1 hx).1; omega) hx))
   go_wp2
   go_ret
   exact ⟨ret_int hres.out.symm, hbel⟩
set_option maxHeartbeats 1000000 in
theorem IndexFuncString_any (F : Nat) (caps : Array Value) (p : ByteArray → Bool) (v : Value) (xs : List ByteArray) (w : World) (h : RdStrs w v xs)
 (hF : ∀ args w, (callFunc F args).run Tryz.prog w = .ok (.enter F args) w) (hf : ∀ x, x ∈ xs → ∀ W, Below w.heap.size w W → Calls Tryz.prog F (#[Value.string x] ++ caps) W fun e W' => e = .returned (.bool (p x)) ∧ Below W.heap.size W W') :
 Calls Tryz.prog 193 #[v, .func (.func F) #[] caps] w fun e w' => e = .returned (.int .i64 (findIx p xs)) ∧ Below w.heap.size w w' := by
 obtain ⟨a, c, rfl, hc, hcm, H0⟩ := RdF.open strCs_len (by decide) h
 clear h
 unfold maxLen at hcm
 have Hf := Lib.hid hf; clear hf
 go_enter Tryz.func193, Tryz.ntmps193
 go_wp2
 go_loopw [8] (fun i wr => ∃ k : Nat, k ≤ xs.length ∧ i = .int .i64 k ∧ (∀ (j : Nat) x, j < k → xs[j]? = some x → p x = false) ∧ Below w.heap.size w wr) (fun i _ => xs.length - (intOf i).toNat)
 case atStart => exact ⟨0, Nat.zero_le _, rfl, fun j x hj => absurd hj (Nat.not_lt_zero _), Below.refl _ _⟩
 case round =>
  obtain ⟨k, hk, rfl, hpre, hbel⟩ := hrel
  have Hpre := Lib.hid hpre; clear hpre
  by_cases hlt : k < xs.length
  ·have hx : xs[k]? = some (nthS xs k) := by simp [nthS, hlt]
   obtain ⟨b, off, rfl, D0'⟩ := H0.str hlt
   have hbl := World.block_lt_of_cell? w _ D0'
   have D0 : wr.cell? ⟨b, off + k, none⟩ = some (.string (nthS xs k)) := (hbel.cell (p := ⟨b, off + k, none⟩) hbl).trans D0'
   clear D0'
   have Hx := Lib.hid hx
   have Hc := Lib.hid (Hf.out _ (List.mem_of_getElem? hx) wr hbel)
   clear hx
   cases hp : p (nthS xs k)
   ·have Hp := Lib.hid hp; clear hp
    go_wp2_with (refine (Hc.out).mono ?_; rintro e w' ⟨rfl, hb2⟩; rw [Hp.out])
    go_roundw
    case rel => exact ⟨k + 1, by omega, by go_num, before_next Hpre.out Hx.out Hp.out, hbel.trans (hb2.mono hbel.size)⟩
    case measure => simp [intOf]; omega
   ·have Hp := Lib.hid hp; clear hp
    have hres := Lib.hid (findIx_at Hx.out Hpre.out Hp.out)
    go_wp2_with (refine (Hc.out).mono ?_; rintro e w' ⟨rfl, hb2⟩; rw [Hp.out])
    go_ret
    exact ⟨ret_int hres.out.symm, hbel.trans (hb2.mono hbel.size)⟩
  ·have hres := Lib.hid (findIx_none (p := p) (xs := xs) (fun j x hx => Hpre.out j x (by have := (List.getElem?_eq_some_iff.1 hx).1; omega) hx))
   go_wp2
   go_ret
   exact ⟨ret_int hres.out.symm, hbel⟩
set_option maxHeartbeats 400000 in
theorem ContainsFuncString_any (F : Nat) (caps : Array Value) (p : ByteArray → Bool) (v : Value) (xs : List ByteArray) (w : World) (h : RdStrs w v xs)
 (hF : ∀ args w, (callFunc F args).run Tryz.prog w = .ok (.enter F args) w) (hf : ∀ x, x ∈ xs → ∀ W, Below w.heap.size w W → Calls Tryz.prog F (#[Value.string x] ++ caps) W fun e W' => e = .returned (.bool (p x)) ∧ Below W.heap.size W W') :
 Calls Tryz.prog 138 #[v, .func (.func F) #[] caps] w fun e w' => e = .returned (.bool (xs.any p)) ∧ Below w.heap.size w w' := by
 have E := Lib.hid (findIx_ge (p := p) (xs := xs))
 have C := Lib.hid (IndexFuncString_any F caps p v xs w h hF hf)
 clear h hf
 go_enter Tryz.func138, Tryz.ntmps138
 go_wp2_with (refine (C.out).mono ?_; rintro e w' ⟨rfl, hb2⟩)
 go_ret
 exact ⟨ret_bool E.out, hb2⟩
set_option maxHeartbeats 1000000 in
theorem IndexFuncRows_any (F : Nat) (caps : Array Value) (p : List Int → Bool) (v : Value) (m : List (List Int)) (w : World) (h : RdRows w v m)
 (hF : ∀ args w, (callFunc F args).run Tryz.prog w = .ok (.enter F args) w) (hf : ∀ u r, r ∈ m → ∀ W, Below w.heap.size w W → RdInts W u r → Calls Tryz.prog F (#[u] ++ caps) W fun e W' => e = .returned (.bool (p r)) ∧ Below W.heap.size W W') :
 Calls Tryz.prog 181 #[v, .func (.func F) #[] caps] w fun e w' => e = .returned (.int .i64 (findIx p m)) ∧ Below w.heap.size w w' := by
 obtain ⟨vs, h1, h2⟩ := h
 obtain ⟨a, c, rfl, hc, hcm, H0⟩ := RdF.open oneCs_len (by decide) h1
 clear h1
 unfold maxLen at hcm
 have Hf := Lib.hid hf; clear hf
 have H2 := Lib.hid h2; clear h2
 go_enter Tryz.func181, Tryz.ntmps181
 go_wp2
 go_loopw [8] (fun i wr => ∃ k : Nat, k ≤ vs.length ∧ i = .int .i64 k ∧ (∀ (j : Nat) x, j < k → m[j]? = some x → p x = false) ∧ Below w.heap.size w wr) (fun i _ => vs.length - (intOf i).toNat)
 case atStart => exact ⟨0, Nat.zero_le _, rfl, fun j x hj => absurd hj (Nat.not_lt_zero _), Below.refl _ _⟩
 case round =>
  obtain ⟨k, hk, rfl, hpre, hbel⟩ := hrel
  have Hpre := Lib.hid hpre; clear hpre
  by_cases hlt : k < vs.length
  ·obtain ⟨u, hu⟩ : ∃ u, vs[k]? = some u := ⟨_, List.getElem?_eq_getElem hlt⟩
   obtain ⟨r, hx⟩ : ∃ r, m[k]? = some r := ⟨_, List.getElem?_eq_getElem (by rw [← H2.out.1]; exact hlt)⟩
   obtain ⟨b, off, rfl, hbl, hcell⟩ := H0 k u hu
   have D0 : wr.cell? ⟨b, off + k, none⟩ = some u := (hbel.cell (p := ⟨b, off + k, none⟩) hbl).trans (by simpa using hcell 0 u rfl)
   have hr := H2.out.2 k u r hu hx
   have Hx := Lib.hid hx
   have Hc := Lib.hid (Hf.out u r (List.mem_of_getElem? hx) wr hbel (RdInts.below hr hbel))
   clear hx hu hcell hr
   cases hp : p r
   ·have Hp := Lib.hid hp; clear hp
    go_wp2_with (refine (Hc.out).mono ?_; rintro e w' ⟨rfl, hb2⟩; rw [Hp.out])
    go_roundw
    case rel => exact ⟨k + 1, by omega, by go_num, before_next Hpre.out Hx.out Hp.out, hbel.trans (hb2.mono hbel.size)⟩
    case measure => simp [intOf]; omega
   ·have Hp := Lib.hid hp; clear hp
    have hres := Lib.hid (findIx_at Hx.out Hpre.out Hp.out)
    go_wp2_with (refine (Hc.out).mono ?_; rintro e w' ⟨rfl, hb2⟩; rw [Hp.out])
    go_ret
    exact ⟨ret_int hres.out.symm, hbel.trans (hb2.mono hbel.size)⟩
  ·have hres := Lib.hid (findIx_none (p := p) (xs := m) (fun j x hx => Hpre.out j x (by have := (List.getElem?_eq_some_iff.1 hx).1; rw [← H2.out.1] at this; omega) hx))
   go_wp2
   go_ret
   exact ⟨ret_int hres.out.symm, hbel⟩
set_option maxHeartbeats 400000 in
theorem ContainsFuncRows_any (F : Nat) (caps : Array Value) (p : List Int → Bool) (v : Value) (m : List (List Int)) (w : World) (h : RdRows w v m)
 (hF : ∀ args w, (callFunc F args).run Tryz.prog w = .ok (.enter F args) w) (hf : ∀ u r, r ∈ m → ∀ W, Below w.heap.size w W → RdInts W u r → Calls Tryz.prog F (#[u] ++ caps) W fun e W' => e = .returned (.bool (p r)) ∧ Below W.heap.size W W') :
 Calls Tryz.prog 110 #[v, .func (.func F) #[] caps] w fun e w' => e = .returned (.bool (m.any p)) ∧ Below w.heap.size w w' := by
 have E := Lib.hid (findIx_ge (p := p) (xs := m))
 have C := Lib.hid (IndexFuncRows_any F caps p v m w h hF hf)
 clear h hf
 go_enter Tryz.func110, Tryz.ntmps110
 go_wp2_with (refine (C.out).mono ?_; rintro e w' ⟨rfl, hb2⟩)
 go_ret
 exact ⟨ret_bool E.out, hb2⟩
set_option maxHeartbeats 1000000 in
theorem IndexFuncTexts_any (F : Nat) (caps : Array Value) (p : List ByteArray → Bool) (v : Value) (m : List (List ByteArray)) (w : World) (h : RdTexts w v m)
 (hF : ∀ args w, (callFunc F args).run Tryz.prog w = .ok (.enter F args) w) (hf : ∀ u r, r ∈ m → ∀ W, Below w.heap.size w W → RdStrs W u r → Calls Tryz.prog F (#[u] ++ caps) W fun e W' => e = .returned (.bool (p r)) ∧ Below W.heap.size W W') :
 Calls Tryz.prog 103 #[v, .func (.func F) #[] caps] w fun e w' => e = .returned (.int .i64 (findIx p m)) ∧ Below w.heap.size w w' := by
 obtain ⟨vs, h1, h2⟩ := h
 obtain ⟨a, c, rfl, hc, hcm, H0⟩ := RdF.open oneCs_len (by decide) h1
 clear h1
 unfold maxLen at hcm
 have Hf := Lib.hid hf; clear hf
 have H2 := Lib.hid h2; clear h2
 go_enter Tryz.func103, Tryz.ntmps103
 go_wp2
 go_loopw [8] (fun i wr => ∃ k : Nat, k ≤ vs.length ∧ i = .int .i64 k ∧ (∀ (j : Nat) x, j < k → m[j]? = some x → p x = false) ∧ Below w.heap.size w wr) (fun i _ => vs.length - (intOf i).toNat)
 case atStart => exact ⟨0, Nat.zero_le _, rfl, fun j x hj => absurd hj (Nat.not_lt_zero _), Below.refl _ _⟩
 case round =>
  obtain ⟨k, hk, rfl, hpre, hbel⟩ := hrel
  have Hpre := Lib.hid hpre; clear hpre
  by_cases hlt : k < vs.length
  ·obtain ⟨u, hu⟩ : ∃ u, vs[k]? = some u := ⟨_, List.getElem?_eq_getElem hlt⟩
   obtain ⟨r, hx⟩ : ∃ r, m[k]? = some r := ⟨_, List.getElem?_eq_getElem (by rw [← H2.out.1]; exact hlt)⟩
   obtain ⟨b, off, rfl, hbl, hcell⟩ := H0 k u hu
   have D0 : wr.cell? ⟨b, off + k, none⟩ = some u := (hbel.cell (p := ⟨b, off + k, none⟩) hbl).trans (by simpa using hcell 0 u rfl)
   have hr := H2.out.2 k u r hu hx
   have Hx := Lib.hid hx
   have Hc := Lib.hid (Hf.out u r (List.mem_of_getElem? hx) wr hbel (RdF.below hr hbel))
   clear hx hu hcell hr
   cases hp : p r
   ·have Hp := Lib.hid hp; clear hp
    go_wp2_with (refine (Hc.out).mono ?_; rintro e w' ⟨rfl, hb2⟩; rw [Hp.out])
    go_roundw
    case rel => exact ⟨k + 1, by omega, by go_num, before_next Hpre.out Hx.out Hp.out, hbel.trans (hb2.mono hbel.size)⟩
    case measure => simp [intOf]; omega
   ·have Hp := Lib.hid hp; clear hp
    have hres := Lib.hid (findIx_at Hx.out Hpre.out Hp.out)
    go_wp2_with (refine (Hc.out).mono ?_; rintro e w' ⟨rfl, hb2⟩; rw [Hp.out])
    go_ret
    exact ⟨ret_int hres.out.symm, hbel.trans (hb2.mono hbel.size)⟩
  ·have hres := Lib.hid (findIx_none (p := p) (xs := m) (fun j x hx => Hpre.out j x (by have := (List.getElem?_eq_some_iff.1 hx).1; rw [← H2.out.1] at this; omega) hx))
   go_wp2
   go_ret
   exact ⟨ret_int hres.out.symm, hbel⟩
set_option maxHeartbeats 400000 in
theorem ContainsFuncTexts_any (F : Nat) (caps : Array Value) (p : List ByteArray → Bool) (v : Value) (m : List (List ByteArray)) (w : World) (h : RdTexts w v m)
 (hF : ∀ args w, (callFunc F args).run Tryz.prog w = .ok (.enter F args) w) (hf : ∀ u r, r ∈ m → ∀ W, Below w.heap.size w W → RdStrs W u r → Calls Tryz.prog F (#[u] ++ caps) W fun e W' => e = .returned (.bool (p r)) ∧ Below W.heap.size W W') :
 Calls Tryz.prog 38 #[v, .func (.func F) #[] caps] w fun e w' => e = .returned (.bool (m.any p)) ∧ Below w.heap.size w w' := by
 have E := Lib.hid (findIx_ge (p := p) (xs := m))
 have C := Lib.hid (IndexFuncTexts_any F caps p v m w h hF hf)
 clear h hf
 go_enter Tryz.func38, Tryz.ntmps38
 go_wp2_with (refine (C.out).mono ?_; rintro e w' ⟨rfl, hb2⟩)
 go_ret
 exact ⟨ret_bool E.out, hb2⟩
section
variable {α : Type} {lo e sz : Nat} {cs : α → List Value} {w : World} {g cap k : Nat} {xs : List α}
theorem OwnF.shapeOwn {v : Value} (h : OwnF lo e sz cs w v xs) (hn : 0 < xs.length) : ∃ g cap, v = .slice (some ⟨g, 0, none⟩) xs.length cap ∧ xs.length ≤ cap ∧ cap ≤ maxLen ∧ lo ≤ g ∧ g < w.heap.size ∧ ∀ j, w.frozen? ⟨g, j, none⟩ = false := by
 obtain ⟨g, cap, rfl, h1, h2⟩ := own_shape h hn
 obtain ⟨a, c, hv, h3, h4⟩ := h.rd.shape
 cases hv
 exact ⟨g, cap, rfl, h3, h4, h1, h2, fun j => World.ownsRow.frozenAt h j⟩
theorem OwnF.stored (hs : ∀ x, (cs x).length = sz) (h : OwnF lo e sz cs w (.slice (some ⟨g, 0, none⟩) xs.length cap) xs) (hk : k < xs.length) (y : α) :
 OwnF lo e sz cs (setMany w g (k * sz) 0 (cs y)) (.slice (some ⟨g, 0, none⟩) xs.length cap) (xs.set k y) ∧ w.grownBy (setMany w g (k * sz) 0 (cs y)) (some g) := by
 obtain ⟨h1, h2⟩ := setMany_own h (k * sz) 0 (cs y)
 rw [flat_set hs hk] at h1
 refine ⟨?_, h2⟩
 unfold OwnF
 rw [List.length_set]
 exact h1
theorem OwnF.cellsAt (hs : ∀ x, (cs x).length = sz) (h : OwnF lo e sz cs w (.slice (some ⟨g, 0, none⟩) xs.length cap) xs) {x : α} (hk : xs[k]? = some x) : ∀ (j : Nat) u, (cs x)[j]? = some u → w.cell? ⟨g, k * sz + j, none⟩ = some u := by
 intro j u hj
 have hlt := (List.getElem?_eq_some_iff.1 hk).1
 have hj' : j < sz := by rw [← hs x]; exact (List.getElem?_eq_some_iff.1 hj).1
 have hm : k * sz + sz ≤ xs.length * sz := by rw [← Nat.succ_mul]; exact Nat.mul_le_mul_right _ hlt
 rw [World.ownsRow.cellAt h (k * sz + j) (by omega), flat_at hs hk hj', hj]
end
theorem OwnF.infoCells {lo e g cap k : Nat} {w : World} {xs : List InfoV} (h : OwnF lo e 3 infoCs w (.slice (some ⟨g, 0, none⟩) xs.length cap) xs) (hk : k < xs.length) :
 w.cell? ⟨g, k * 3, none⟩ = some (.int .i64 (infoAt xs k).k) ∧ w.cell? ⟨g, k * 3 + 1, none⟩ = some (.string (infoAt xs k).g) ∧ w.cell? ⟨g, k * 3 + 2, none⟩ = some (.int .i64 (infoAt xs k).r) := by
 have hc := OwnF.cellsAt infoCs_len h (k := k) (x := infoAt xs k) (by simp [infoAt, hk])
 exact ⟨hc 0 _ rfl, hc 1 _ rfl, hc 2 _ rfl⟩
theorem OwnF.cachedCells {lo e g cap k : Nat} {w : World} {xs : List CachedV} (h : OwnF lo e 4 cachedCs w (.slice (some ⟨g, 0, none⟩) xs.length cap) xs) (hk : k < xs.length) :
 w.cell? ⟨g, k * 4, none⟩ = some (.int .i64 (cacheAt xs k).e) ∧ w.cell? ⟨g, k * 4 + 1, none⟩ = some (.int .i64 (cacheAt xs k).p) ∧ w.cell? ⟨g, k * 4 + 2, none⟩ = some (.int .i64 (cacheAt xs k).f) ∧ w.cell? ⟨g, k * 4 + 3, none⟩ = some (.bool (cacheAt xs k).w) := by
 have hc := OwnF.cellsAt cachedCs_len h (k := k) (x := cacheAt xs k) (by simp [cacheAt, hk])
 exact ⟨hc 0 _ rfl, hc 1 _ rfl, hc 2 _ rfl, hc 3 _ rfl⟩
theorem below_grown {B : Nat} {w w' w'' : World} {g : Nat} (h : Below B w w') (hg : w'.grownBy w'' (some g)) (hB : B ≤ g) (hs : B ≤ w'.heap.size) : Below B w w'' := h.grown hg hs (fun k hk => by cases hk; exact hB)
theorem setCells_many (b o : Nat) (vs : List Value) : ∀ (j : Nat) (w : World), w.setCells b (o + j) vs = setMany w b o j vs := by
 induction vs with
 | nil => intro j w; rfl
 | cons v vs ih => intro j w; exact ih (j + 1) _
theorem setList_take (xs us : List Value) (o : Nat) : ∀ (j : Nat), (setList xs o j us).take o = xs.take o := by
 induction us generalizing xs with
 | nil => intro j; rfl
 | cons u us ih =>
  intro j
  rw [setList, ih]
  apply List.ext_getElem?
  intro k
  by_cases hk : k < o
  ·rw [List.getElem?_take_of_lt hk, List.getElem?_take_of_lt hk, List.getElem?_set_ne (by omega)]
  ·rw [List.getElem?_take_eq_none (by omega), List.getElem?_take_eq_none (by omega)]
theorem own_prefixN {lo e sz n k : Nat} {w : World} {g cap : Nat} {xs : List Value} (h : w.ownsRow lo e sz (.slice (some ⟨g, 0, none⟩) n cap) n xs) (hk : k ≤ n) : w.ownsRow lo e sz (.slice (some ⟨g, 0, none⟩) k cap) k (xs.take (k * sz)) := by
 rcases h.2 with ⟨h0, _⟩ | ⟨g', cap', cur, hv, hb, hg, hnc, hcm, hcs, htake⟩
 ·cases h0
 ·cases hv
  have hm : k * sz ≤ n * sz := Nat.mul_le_mul_right _ hk
  refine ⟨by rw [List.length_take, h.1]; omega, .inr ⟨g, cap, cur, rfl, hb, hg, by omega, hcm, hcs, ?_⟩⟩
  rw [← htake, List.take_take, Nat.min_eq_left hm]
theorem run_clear_own {P : Program} {lo e sz n k g cap t : Nat} {w : World} {xs : List Value} {z : Value} (ht : P.underlying t = some (.slice e)) (hv : ∀ w, (zeroValue e).run P w = .ok z w) (hzs : z.cells.size = sz) (h1 : ∀ u ∈ z.cells.toList, u.oneCell' = true)
 (h : w.ownsRow lo e sz (.slice (some ⟨g, 0, none⟩) n cap) n xs) (hk : k < n) :
 ∃ w', (∀ ty c, (Builtin.clear_ #[t] ty #[.slice (some ⟨g, k * sz, none⟩) (n - k) c]).run P w = .ok (.tuple #[]) w') ∧ w'.ownsRow lo e sz (.slice (some ⟨g, 0, none⟩) k cap) k (xs.take (k * sz)) ∧ w.grownBy w' (some g) := by
 have hlen : (Builtin.zeroCells z.cells (n - k)).toList.length = (n - k) * sz := by simp [Builtin.zeroCells, hzs, Nat.mul_comm]
 have hxl := h.1
 have hmul : k * sz + (n - k) * sz = n * sz := by rw [← Nat.add_mul]; congr 1; omega
 have hst := run_storeCells_cells (P := P) g (k * sz) (Builtin.zeroCells z.cells (n - k)).toList 0 w (by
  intro j hj
  rw [hlen] at hj
  have := World.ownsRow.cellAt h (k * sz + j) (by omega)
  simp only [Nat.add_zero] at this ⊢
  rw [this]
  simp; omega) (by intro j _; exact World.ownsRow.frozenAt h _) (by
  intro u hu
  simp only [Builtin.zeroCells, Array.toList_map, List.mem_map, Array.mem_toList_iff, Array.mem_range] at hu
  obtain ⟨i, hi, rfl⟩ := hu
  have hs : 0 < z.cells.size := by
   rcases Nat.eq_zero_or_pos z.cells.size with h0 | h0
   ·rw [h0] at hi; simp at hi
   ·exact h0
  have hlt : i % z.cells.size < z.cells.size := Nat.mod_lt _ hs
  refine h1 _ ?_
  simp [hlt])
 obtain ⟨m, hm⟩ : ∃ m, n - k = m + 1 := ⟨n - k - 1, by omega⟩
 simp only [Nat.add_zero] at hst
 refine ⟨w.setCells g (k * sz) (Builtin.zeroCells z.cells (n - k)).toList, fun ty c => ?_, ?_, ?_⟩
 ·rw [hm] at hst ⊢
  simp [Builtin.clear_, run_underlying ht, hv, hst]
 ·have e0 := setCells_many g (k * sz) (Builtin.zeroCells z.cells (n - k)).toList 0 w
  rw [Nat.add_zero] at e0
  rw [e0]
  obtain ⟨a1, _⟩ := setMany_own h (k * sz) 0 (Builtin.zeroCells z.cells (n - k)).toList
  have := own_prefixN a1 (Nat.le_of_lt hk)
  rw [setList_take] at this
  exact this
 ·have e0 := setCells_many g (k * sz) (Builtin.zeroCells z.cells (n - k)).toList 0 w
  rw [Nat.add_zero] at e0
  rw [e0]
  exact (setMany_own h (k * sz) 0 (Builtin.zeroCells z.cells (n - k)).toList).2
section
variable {α : Type} {p : α → Bool} {xs ys : List α} {i j : Nat}
structure DelSt (p : α → Bool) (xs ys : List α) (i j : Nat) : Prop where
 len : ys.length = xs.length
 lt : i < j
 le : j ≤ xs.length
 kept : ys.take i = (xs.take j).filter fun x => !p x
 rest : ys.drop j = xs.drop j
theorem DelSt.start {k : Nat} {x : α} (hk : xs[k]? = some x) (h : ∀ (j : Nat) y, j < k → xs[j]? = some y → p y = false) (hp : p x = true) : DelSt p xs xs k (k + 1) := by
 have hlt := (List.getElem?_eq_some_iff.1 hk).1
 refine ⟨rfl, by omega, by omega, ?_, rfl⟩
 rw [take_one hk, List.filter_append]
 have h1 : (xs.take k).filter (fun x => !p x) = xs.take k := by
  rw [List.filter_eq_self]
  intro y hy
  obtain ⟨j, hj⟩ := List.getElem?_of_mem hy
  have hjk := (List.getElem?_eq_some_iff.1 hj).1
  rw [List.length_take] at hjk
  rw [List.getElem?_take_of_lt (by omega)] at hj
  simp [h j y (by omega) hj]
 rw [h1]
 simp [hp]
theorem DelSt.drop (h : DelSt p xs ys i j) {x : α} (hx : xs[j]? = some x) (hp : p x = true) : DelSt p xs ys i (j + 1) := by
 have hlt := (List.getElem?_eq_some_iff.1 hx).1
 refine ⟨h.len, by have := h.lt; omega, by omega, ?_, ?_⟩
 ·rw [h.kept, take_one hx, List.filter_append]
  simp [hp]
 ·have := congrArg (List.drop 1) h.rest
  rw [List.drop_drop, List.drop_drop] at this
  exact this
theorem DelSt.keep (h : DelSt p xs ys i j) {x : α} (hx : xs[j]? = some x) (hp : p x = false) : DelSt p xs (ys.set i x) (i + 1) (j + 1) := by
 have hlt := (List.getElem?_eq_some_iff.1 hx).1
 have hij := h.lt
 refine ⟨by rw [List.length_set]; exact h.len, by omega, by omega, ?_, ?_⟩
 ·have e : (ys.set i x).take (i + 1) = ys.take i ++ [x] := by
   have hi : (ys.set i x)[i]? = some x := by rw [List.getElem?_set_self (by rw [h.len]; omega)]
   rw [take_one hi, List.take_set_of_le (Nat.le_refl _)]
  rw [e, h.kept, take_one hx, List.filter_append]
  simp [hp]
 ·rw [List.drop_set_of_lt (by omega)]
  have := congrArg (List.drop 1) h.rest
  rw [List.drop_drop, List.drop_drop] at this
  exact this
theorem DelSt.next (h : DelSt p xs ys i j) : ys[j]? = xs[j]? := by
 have := congrArg (fun l => l[0]?) h.rest
 simpa using this
theorem DelSt.done (h : DelSt p xs ys i j) (hj : j = xs.length) : ys.take i = xs.filter fun x => !p x := by
 rw [h.kept, hj, List.take_length]
theorem findIx_cases (h : findIx p xs ≠ -1) : ∃ k x, findIx p xs = ((k : Nat) : Int) ∧ xs[k]? = some x ∧ p x = true ∧ ∀ (j : Nat) y, j < k → xs[j]? = some y → p y = false := by
 unfold findIx at h ⊢
 split
 ·rename_i ha
  have hl : xs.findIdx p < xs.length := List.findIdx_lt_length.2 (List.any_eq_true.1 ha)
  refine ⟨_, xs[xs.findIdx p], rfl, List.getElem?_eq_getElem hl, List.findIdx_getElem, fun j y hj hy => ?_⟩
  obtain ⟨hjl, rfl⟩ := List.getElem?_eq_some_iff.1 hy
  have := List.not_of_lt_findIdx hj
  simpa using this
 ·rename_i ha
  rw [if_neg ha] at h
  exact absurd rfl h
theorem findIx_all (h : findIx p xs = -1) : xs.filter (fun x => !p x) = xs := by
 rw [List.filter_eq_self]
 intro x hx
 unfold findIx at h
 split at h
 ·omega
 ·rename_i ha
  simp only [List.any_eq_true, not_exists, not_and] at ha
  simpa using ha x hx
end
theorem OwnF.strCells {lo e g cap k : Nat} {w : World} {xs : List ByteArray} (h : OwnF lo e 1 strCs w (.slice (some ⟨g, 0, none⟩) xs.length cap) xs) (hk : k < xs.length) : w.cell? ⟨g, k, none⟩ = some (.string (nthS xs k)) := by
 have hc := OwnF.cellsAt strCs_len h (k := k) (x := nthS xs k) (by simp [nthS, hk])
 simpa using hc 0 _ rfl
theorem HO2lt {lo e n sz g cap : Nat} {w : World} {xs : List Value} (h : w.ownsRow lo e sz (.slice (some ⟨g, 0, none⟩) n cap) n xs) : lo ≤ g ∧ g < w.heap.size := World.ownsRow.lt h g rfl
theorem zeroCachedK : ∀ w, (zeroValue 94).run Tryz.prog w = .ok (.agg #[.int .i64 0, .int .i64 0, .int .i64 0, .bool false]) w := fun _ => by kernel_rfl
set_option maxHeartbeats 2000000 in
theorem DeleteFuncCached_any {lo : Nat} (F : Nat) (caps : Array Value) (p : CachedV → Bool) (v : Value) (xs : List CachedV) (w : World) (h : OwnF lo 94 4 cachedCs w v xs) (hlo : lo ≤ w.heap.size)
 (hF : ∀ args w, (callFunc F args).run Tryz.prog w = .ok (.enter F args) w) (hf : ∀ x, x ∈ xs → ∀ W, Below lo w W → Calls Tryz.prog F (#[x.val] ++ caps) W fun e W' => e = .returned (.bool (p x)) ∧ Below W.heap.size W W') :
 Calls Tryz.prog 275 #[v, .func (.func F) #[] caps] w fun e w' => ∃ v', e = .returned v' ∧ OwnF lo 94 4 cachedCs w' v' (xs.filter fun x => !p x) ∧ Below lo w w' := by
 have C0 := IndexFuncCached_any F caps p v xs w h.rd hF (fun x hx W hW => hf x hx W (hW.mono hlo))
 by_cases hnone : findIx p xs = -1
 ·have S := Lib.hid (findIx_all hnone)
  rw [hnone] at C0
  have H := Lib.hid h
  obtain ⟨a, c, rfl, hc, hcm⟩ := h.rd.shape
  have C := Lib.hid C0
  clear C0 hf hnone h
  go_enter Tryz.func275, Tryz.ntmps275
  go_wp2_with (refine (C.out).mono ?_; rintro e w1 ⟨rfl, hb1⟩)
  go_ret
  exact ⟨_, rfl, by rw [S.out]; exact H.out.below hb1, hb1.mono hlo⟩
 ·obtain ⟨k, x0, hk, hx0, hp0, hpre⟩ := findIx_cases hnone
  rw [hk] at C0
  have hkl : k < xs.length := (List.getElem?_eq_some_iff.1 hx0).1
  obtain ⟨g, cap, rfl, hc, hcm, hg, hgl, hfz0⟩ := h.shapeOwn (by omega)
  unfold maxLen at hcm
  have t0 : ((k : Int) == -1) = false := by rw [beq_eq_false_iff_ne]; omega
  have C := Lib.hid C0
  have Hf := Lib.hid hf
  have S0 := Lib.hid (DelSt.start hx0 hpre hp0)
  have HO := Lib.hid h
  clear C0 hf hnone hk hx0 hp0 hpre h hfz0
  go_enter Tryz.func275, Tryz.ntmps275
  go_wp2_with (refine (C.out).mono ?_; rintro e w1 ⟨rfl, hb1⟩)
  go_loopw [5, 6] (fun i5 j6 wr => ∃ i j : Nat, ∃ ys : List CachedV, i5 = .int .i64 i ∧ j6 = .int .i64 j ∧ DelSt p xs ys i j ∧ OwnF lo 94 4 cachedCs wr (.slice (some ⟨g, 0, none⟩) xs.length cap) ys ∧ Below lo w wr) (fun _ j6 _ => xs.length - (intOf j6).toNat)
  case atStart => exact ⟨k, k + 1, xs, rfl, by go_num, S0.out, HO.out.below hb1, hb1.mono hlo⟩
  case round =>
   clear hb1 HO
   obtain ⟨i, j, ys, rfl, rfl, hS, hO, hbel⟩ := hrel
   have hij := hS.lt
   have hjl := hS.le
   have hlen := hS.len
   have S := Lib.hid hS
   have hO2 : OwnF lo 94 4 cachedCs wr (.slice (some ⟨g, 0, none⟩) ys.length cap) ys := by rw [hlen]; exact hO
   have hfz : ∀ q, wr.frozen? ⟨g, q, none⟩ = false := fun q => World.ownsRow.frozenAt hO2 q
   have hlo2 : lo ≤ wr.heap.size := Nat.le_trans hlo hbel.size
   by_cases hlt : j < xs.length
   ·obtain ⟨x, hx⟩ : ∃ x, xs[j]? = some x := ⟨_, List.getElem?_eq_getElem hlt⟩
    have hj2 : j < ys.length := by omega
    have hi2 : i < ys.length := by omega
    obtain ⟨d0, d1, d2, d3⟩ := OwnF.cachedCells hO2 (k := j) hj2
    obtain ⟨e0, e1, e2, e3⟩ := OwnF.cachedCells hO2 (k := i) hi2
    have hyx : cacheAt ys j = x := by have := S.out.next; rw [hx] at this; simp [cacheAt, this]
    rw [hyx] at d0 d1 d2 d3
    have hgw := (HO2lt hO2)
    have Cf := Lib.hid (Hf.out x (List.mem_of_getElem? hx) (wr.alloc (.cells #[.int .i64 x.e, .int .i64 x.p, .int .i64 x.f, .bool x.w] 94)) (hbel.alloc hlo2 _))
    have Hx := Lib.hid hx
    have HO2 := Lib.hid hO2
    have Hi2 : i < xs.length := by omega
    clear hS hO hO2 hx hyx hlen hj2 hi2
    go_wp2_with fail
    refine (Cf.out).mono ?_; rintro e w2 ⟨rfl, hb2⟩
    have hb3 := (hbel.alloc hlo2 (.cells #[.int .i64 x.e, .int .i64 x.p, .int .i64 x.f, .bool x.w] 94)).trans (hb2.mono (by simp; omega))
    have hgr := (below1 wr (.cells #[.int .i64 x.e, .int .i64 x.p, .int .i64 x.f, .bool x.w] 94)).trans (hb2.mono (below1 _ _).size)
    have HO3 := Lib.hid (HO2.out.below hgr)
    obtain ⟨hc2, hf2⟩ := bcell hb2
    have hz : wr.heap.size < w2.heap.size := by have := hb2.size; simp at this; omega
    cases hp : p x
    ·have SK := Lib.hid (S.out.keep Hx.out hp)
     have Hp := Lib.hid hp; clear hp
     have ST0 := OwnF.stored cachedCs_len HO3.out (k := i) (by rw [S.out.len]; exact Hi2) x
     have ST := Lib.hid ST0; clear ST0
     have BL := Lib.hid (below_grown hb3 ST.out.2 hg (Nat.le_trans hlo2 hgr.size))
     clear hgr hb3 hb2
     go_wp2_with fail
     go_roundw
     case rel => exact ⟨i + 1, j + 1, ys.set i x, by go_num, by go_num, SK.out, by have := ST.out.1; rw [S.out.len] at this; exact this, BL.out⟩
     case measure => simp [intOf]; omega
    ·have SD := Lib.hid (S.out.drop Hx.out hp)
     have Hp := Lib.hid hp; clear hp
     have HB := Lib.hid hb3
     clear hgr hb3 hb2
     go_wp2_with fail
     go_roundw
     case rel => exact ⟨i, j + 1, ys, rfl, by go_num, SD.out, by have := HO3.out; rw [S.out.len] at this; exact this, HB.out⟩
     case measure => simp [intOf]; omega
   ·have hje : j = xs.length := by omega
    have hd := Lib.hid (hS.done hje)
    have hin : i < xs.length := by omega
    have hO3 : wr.ownsRow lo 94 4 (.slice (some ⟨g, 0, none⟩) xs.length cap) xs.length (flat cachedCs ys) := by have := hO2; unfold OwnF at this; rwa [hlen] at this
    obtain ⟨w3, hcl, hO4, hg4⟩ := run_clear_own (P := Tryz.prog) (sz := 4) (t := 31) Tryz.underlying31 zeroCachedK rfl (by simp [Value.cells, Value.oneCell']) hO3 hin
    have hE : (flat cachedCs ys).take (i * 4) = flat cachedCs (xs.filter fun x => !p x) := by
     rw [← hd.out]
     conv => lhs; rw [← List.take_append_drop i ys, flat_append]
     rw [List.take_left']
     rw [flat_len cachedCs_len, List.length_take]
     congr 1; omega
    have hL : (xs.filter fun x => !p x).length = i := by rw [← hd.out, List.length_take]; omega
    rw [hE] at hO4
    have R := Lib.hid (show OwnF lo 94 4 cachedCs w3 (.slice (some ⟨g, 0, none⟩) i cap) (xs.filter fun x => !p x) by unfold OwnF; rw [hL]; exact hO4)
    have BL := Lib.hid (below_grown hbel hg4 hg hlo2)
    have hcap : ¬ cap = i := by omega
    have hcl2 := fun ty => hcl ty (cap - i)
    clear hO hO2 hO3 hO4 hE hL hcl hg4 hlen hS hfz hje hd
    go_wp2_with fail
    go_ret
    exact ⟨_, rfl, R.out, BL.out⟩
theorem zeroStringK : ∀ w, (zeroValue 9).run Tryz.prog w = .ok (.string ⟨#[]⟩) w := fun _ => by kernel_rfl
set_option maxHeartbeats 2000000 in
theorem DeleteFuncString_any {lo : Nat} (F : Nat) (caps : Array Value) (p : ByteArray → Bool) (v : Value) (xs : List ByteArray) (w : World) (h : OwnF lo 9 1 strCs w v xs) (hlo : lo ≤ w.heap.size)
 (hF : ∀ args w, (callFunc F args).run Tryz.prog w = .ok (.enter F args) w) (hf : ∀ x, x ∈ xs → ∀ W, Below lo w W → Calls Tryz.prog F (#[Value.string x] ++ caps) W fun e W' => e = .returned (.bool (p x)) ∧ Below W.heap.size W W') :
 Calls Tryz.prog 279 #[v, .func (.func F) #[] caps] w fun e w' => ∃ v', e = .returned v' ∧ OwnF lo 9 1 strCs w' v' (xs.filter fun x => !p x) ∧ Below lo w w' := by
 have C0 := IndexFuncString_any F caps p v xs w h.rd hF (fun x hx W hW => hf x hx W (hW.mono hlo))
 by_cases hnone : findIx p xs = -1
 ·have S := Lib.hid (findIx_all hnone)
  rw [hnone] at C0
  have H := Lib.hid h
  obtain ⟨a, c, rfl, hc, hcm⟩ := h.rd.shape
  have C := Lib.hid C0
  clear C0 hf hnone h
  go_enter Tryz.func279, Tryz.ntmps279
  go_wp2_with (refine (C.out).mono ?_; rintro e w1 ⟨rfl, hb1⟩)
  go_ret
  exact ⟨_, rfl, by rw [S.out]; exact H.out.below hb1, hb1.mono hlo⟩
 ·obtain ⟨k, x0, hk, hx0, hp0, hpre⟩ := findIx_cases hnone
  rw [hk] at C0
  have hkl : k < xs.length := (List.getElem?_eq_some_iff.1 hx0).1
  obtain ⟨g, cap, rfl, hc, hcm, hg, hgl, hfz0⟩ := h.shapeOwn (by omega)
  unfold maxLen at hcm
  have t0 : ((k : Int) == -1) = false := by rw [beq_eq_false_iff_ne]; omega
  have C := Lib.hid C0
  have Hf := Lib.hid hf
  have S0 := Lib.hid (DelSt.start hx0 hpre hp0)
  have HO := Lib.hid h
  clear C0 hf hnone hk hx0 hp0 hpre h hfz0
  go_enter Tryz.func279, Tryz.ntmps279
  go_wp2_with (refine (C.out).mono ?_; rintro e w1 ⟨rfl, hb1⟩)
  go_loopw [5, 6] (fun i5 j6 wr => ∃ i j : Nat, ∃ ys : List ByteArray, i5 = .int .i64 i ∧ j6 = .int .i64 j ∧ DelSt p xs ys i j ∧ OwnF lo 9 1 strCs wr (.slice (some ⟨g, 0, none⟩) xs.length cap) ys ∧ Below lo w wr) (fun _ j6 _ => xs.length - (intOf j6).toNat)
  case atStart => exact ⟨k, k + 1, xs, rfl, by go_num, S0.out, HO.out.below hb1, hb1.mono hlo⟩
  case round =>
   clear hb1 HO
   obtain ⟨i, j, ys, rfl, rfl, hS, hO, hbel⟩ := hrel
   have hij := hS.lt
   have hjl := hS.le
   have hlen := hS.len
   have S := Lib.hid hS
   have hO2 : OwnF lo 9 1 strCs wr (.slice (some ⟨g, 0, none⟩) ys.length cap) ys := by rw [hlen]; exact hO
   have hfz : ∀ q, wr.frozen? ⟨g, q, none⟩ = false := fun q => World.ownsRow.frozenAt hO2 q
   have hlo2 : lo ≤ wr.heap.size := Nat.le_trans hlo hbel.size
   by_cases hlt : j < xs.length
   ·obtain ⟨x, hx⟩ : ∃ x, xs[j]? = some x := ⟨_, List.getElem?_eq_getElem hlt⟩
    have hj2 : j < ys.length := by omega
    have hi2 : i < ys.length := by omega
    have d0 := OwnF.strCells hO2 (k := j) hj2
    have e0 := OwnF.strCells hO2 (k := i) hi2
    have hyx : nthS ys j = x := by have := S.out.next; rw [hx] at this; simp [nthS, this]
    rw [hyx] at d0
    have hgw := (HO2lt hO2)
    have Cf := Lib.hid (Hf.out x (List.mem_of_getElem? hx) wr hbel)
    have Hx := Lib.hid hx
    have HO2 := Lib.hid hO2
    have Hi2 : i < xs.length := by omega
    clear hS hO hO2 hx hyx hlen hj2 hi2
    go_wp2_with fail
    refine (Cf.out).mono ?_; rintro e w2 ⟨rfl, hb2⟩
    have hb3 := hbel.trans (hb2.mono hlo2)
    have hgr := hb2
    have HO3 := Lib.hid (HO2.out.below hgr)
    obtain ⟨hc2, hf2⟩ := bcell hb2
    have hz := hb2.size
    cases hp : p x
    ·have SK := Lib.hid (S.out.keep Hx.out hp)
     have Hp := Lib.hid hp; clear hp
     have ST0 := OwnF.stored strCs_len HO3.out (k := i) (by rw [S.out.len]; exact Hi2) x
     simp only [Nat.mul_one] at ST0
     have ST := Lib.hid ST0; clear ST0
     have BL := Lib.hid (below_grown hb3 ST.out.2 hg (Nat.le_trans hlo2 hgr.size))
     clear hgr hb3 hb2
     go_wp2_with fail
     go_roundw
     case rel => exact ⟨i + 1, j + 1, ys.set i x, by go_num, by go_num, SK.out, by have := ST.out.1; rw [S.out.len] at this; exact this, BL.out⟩
     case measure => simp [intOf]; omega
    ·have SD := Lib.hid (S.out.drop Hx.out hp)
     have Hp := Lib.hid hp; clear hp
     have HB := Lib.hid hb3
     clear hgr hb3 hb2
     go_wp2_with fail
     go_roundw
     case rel => exact ⟨i, j + 1, ys, rfl, by go_num, SD.out, by have := HO3.out; rw [S.out.len] at this; exact this, HB.out⟩
     case measure => simp [intOf]; omega
   ·have hje : j = xs.length := by omega
    have hd := Lib.hid (hS.done hje)
    have hin : i < xs.length := by omega
    have hO3 : wr.ownsRow lo 9 1 (.slice (some ⟨g, 0, none⟩) xs.length cap) xs.length (flat strCs ys) := by have := hO2; unfold OwnF at this; rwa [hlen] at this
    obtain ⟨w3, hcl, hO4, hg4⟩ := run_clear_own (P := Tryz.prog) (sz := 1) (t := 36) Tryz.underlying36 zeroStringK rfl (by simp [Value.cells, Value.oneCell']) hO3 hin
    have hE : (flat strCs ys).take (i * 1) = flat strCs (xs.filter fun x => !p x) := by
     rw [← hd.out]
     conv => lhs; rw [← List.take_append_drop i ys, flat_append]
     rw [List.take_left']
     rw [flat_len strCs_len, List.length_take]
     congr 1; omega
    have hL : (xs.filter fun x => !p x).length = i := by rw [← hd.out, List.length_take]; omega
    rw [hE] at hO4
    have R := Lib.hid (show OwnF lo 9 1 strCs w3 (.slice (some ⟨g, 0, none⟩) i cap) (xs.filter fun x => !p x) by unfold OwnF; rw [hL]; exact hO4)
    have BL := Lib.hid (below_grown hbel hg4 hg hlo2)
    have hcap : ¬ cap = i := by omega
    have hcl2 := fun ty => hcl ty (cap - i)
    simp only [Nat.mul_one] at hcl2
    clear hO hO2 hO3 hO4 hE hL hcl hg4 hlen hS hfz hje hd
    go_wp2_with fail
    go_ret
    exact ⟨_, rfl, R.out, BL.out⟩
theorem ones_rows {w : World} {vs : List Value} {m : List (List Int)} (h : Both (RdInts w) vs m) : ∀ u ∈ flat oneCs vs, u.oneCell' = true := by
 intro u hu
 obtain ⟨x, hx, hs⟩ := List.mem_flatMap.1 hu
 simp [oneCs] at hs
 subst hs
 obtain ⟨i, hi⟩ := List.getElem?_of_mem hx
 obtain ⟨r, hr⟩ : ∃ r, m[i]? = some r := ⟨_, List.getElem?_eq_getElem (by rw [← h.1]; exact (List.getElem?_eq_some_iff.1 hi).1)⟩
 obtain ⟨a, c, rfl, _⟩ := (h.2 i _ r hi hr).open
 rfl
theorem ones_envs {w : World} {ps : List (Value × Int)} {es : List EnvV} (h : Both (fun p e => RdStrs w p.1 e.rights ∧ p.2 = e.root) ps es) : ∀ u ∈ flat pairCs ps, u.oneCell' = true := by
 intro u hu
 obtain ⟨x, hx, hs⟩ := List.mem_flatMap.1 hu
 obtain ⟨i, hi⟩ := List.getElem?_of_mem hx
 obtain ⟨r, hr⟩ : ∃ r, es[i]? = some r := ⟨_, List.getElem?_eq_getElem (by rw [← h.1]; exact (List.getElem?_eq_some_iff.1 hi).1)⟩
 obtain ⟨a, c, e, _⟩ := RdF.shape (h.2 i _ r hi hr).1
 simp [pairCs] at hs
 rcases hs with rfl | rfl
 ·rw [e]; rfl
 ·rfl
theorem Tryz.infoInfoK : (Tryz.prog.info? 89).map (fun i => (i.zero, i.size, i.bytes)) = some (some (.agg #[.int .i64 0, .string ⟨#[]⟩, .int .i64 0]), 3, 32) := by kernel_rfl
set_option maxHeartbeats 400000 in
theorem CloneInfo_any (v : Value) (xs : List InfoV) (w : World) (h : RdF 3 infoCs w v xs) (hs : xs.length ≤ 1048576) :
 Calls Tryz.prog 106 #[v] w fun e w' => ∃ v', e = .returned v' ∧ OwnF w.heap.size 89 3 infoCs w' v' xs ∧ Below w.heap.size w w' := by
 have hone : ∀ u ∈ flat infoCs xs, u.oneCell' = true := by
  intro u hu
  obtain ⟨s, _, hs⟩ := List.mem_flatMap.1 hu
  simp [infoCs] at hs
  rcases hs with rfl | rfl | rfl <;> rfl
 have h' := h
 obtain ⟨a, c, rfl, hnc, hcm, hl, hnil, hc⟩ := h'
 have hq := fun w => Lib.run_eql_slice_nil (P := Tryz.prog) w 29 89 a xs.length c 0 0 Tryz.underlying29
 have Hone := Lib.hid hone; clear hone
 cases a with
 | none =>
  have hc0 := hnil rfl
  subst hc0
  have h0 : xs = [] := List.eq_nil_of_length_eq_zero (by omega)
  subst h0
  simp only [List.length_nil] at hq
  go_enter Tryz.func106, Tryz.ntmps106
  go_wp2
  go_ret
  exact ⟨_, rfl, World.ownsRow_nil _ _ _ _, Below.refl _ _⟩
 | some ad =>
  clear hc hnil
  have hl' : (flat infoCs xs).length = xs.length * 3 := hl
  have Hl := Lib.hid hl'; clear hl hl'
  go_enter Tryz.func106, Tryz.ntmps106
  go_wp2_with (refine wp_append (lo := w.heap.size) (v := .slice (some ⟨w.heap.size, 0, none⟩) 0 0) (n := 0) (xs := []) (m := xs.length) (news := flat infoCs xs) rfl rfl 89 (.agg #[.int .i64 0, .string ⟨#[]⟩, .int .i64 0]) 3 32 Tryz.underlying29 Tryz.infoInfoK rfl (by decide) rfl (ownsRow_empty _ _ _) rfl (Rd.alloc h _) Hone.out (by unfold maxLen; omega) (by omega) (by simp) ?_; intro v' w' hown _ hbel)
  go_ret
  refine ⟨_, rfl, by simpa [OwnF] using hown, ((Below.refl _ _).alloc (Nat.le_refl _) _).trans hbel⟩
theorem Tryz.infoEnvK : (Tryz.prog.info? 80).map (fun i => (i.zero, i.size, i.bytes)) = some (some (.agg #[.slice none 0 0, .int .i64 0]), 2, 32) := by kernel_rfl
set_option maxHeartbeats 400000 in
theorem CloneEnv_any (v : Value) (xs : List (Value × Int)) (w : World) (h : RdF 2 pairCs w v xs) (hs : xs.length ≤ 1048576) (hone : ∀ u ∈ flat pairCs xs, u.oneCell' = true) :
 Calls Tryz.prog 107 #[v] w fun e w' => ∃ v', e = .returned v' ∧ OwnF w.heap.size 80 2 pairCs w' v' xs ∧ Below w.heap.size w w' := by
 have h' := h
 obtain ⟨a, c, rfl, hnc, hcm, hl, hnil, hc⟩ := h'
 have hq := fun w => Lib.run_eql_slice_nil (P := Tryz.prog) w 30 80 a xs.length c 0 0 Tryz.underlying30
 have Hone := Lib.hid hone; clear hone
 cases a with
 | none =>
  have hc0 := hnil rfl
  subst hc0
  have h0 : xs = [] := List.eq_nil_of_length_eq_zero (by omega)
  subst h0
  simp only [List.length_nil] at hq
  go_enter Tryz.func107, Tryz.ntmps107
  go_wp2
  go_ret
  exact ⟨_, rfl, World.ownsRow_nil _ _ _ _, Below.refl _ _⟩
 | some ad =>
  clear hc hnil
  have hl' : (flat pairCs xs).length = xs.length * 2 := hl
  have Hl := Lib.hid hl'; clear hl hl'
  go_enter Tryz.func107, Tryz.ntmps107
  go_wp2_with (refine wp_append (lo := w.heap.size) (v := .slice (some ⟨w.heap.size, 0, none⟩) 0 0) (n := 0) (xs := []) (m := xs.length) (news := flat pairCs xs) rfl rfl 80 (.agg #[.slice none 0 0, .int .i64 0]) 2 32 Tryz.underlying30 Tryz.infoEnvK rfl (by decide) rfl (ownsRow_empty _ _ _) rfl (Rd.alloc h _) Hone.out (by unfold maxLen; omega) (by omega) (by simp) ?_; intro v' w' hown _ hbel)
  go_ret
  refine ⟨_, rfl, by simpa [OwnF] using hown, ((Below.refl _ _).alloc (Nat.le_refl _) _).trans hbel⟩
theorem Tryz.infoCachedK : (Tryz.prog.info? 94).map (fun i => (i.zero, i.size, i.bytes)) = some (some (.agg #[.int .i64 0, .int .i64 0, .int .i64 0, .bool false]), 4, 32) := by kernel_rfl
set_option maxHeartbeats 400000 in
theorem CloneCached_any (v : Value) (xs : List CachedV) (w : World) (h : RdF 4 cachedCs w v xs) (hs : xs.length ≤ 1048576) :
 Calls Tryz.prog 108 #[v] w fun e w' => ∃ v', e = .returned v' ∧ OwnF w.heap.size 94 4 cachedCs w' v' xs ∧ Below w.heap.size w w' := by
 have hone : ∀ u ∈ flat cachedCs xs, u.oneCell' = true := by
  intro u hu
  obtain ⟨s, _, hs⟩ := List.mem_flatMap.1 hu
  simp [cachedCs] at hs
  rcases hs with rfl | rfl | rfl | rfl <;> rfl
 have h' := h
 obtain ⟨a, c, rfl, hnc, hcm, hl, hnil, hc⟩ := h'
 have hq := fun w => Lib.run_eql_slice_nil (P := Tryz.prog) w 31 94 a xs.length c 0 0 Tryz.underlying31
 have Hone := Lib.hid hone; clear hone
 cases a with
 | none =>
  have hc0 := hnil rfl
  subst hc0
  have h0 : xs = [] := List.eq_nil_of_length_eq_zero (by omega)
  subst h0
  simp only [List.length_nil] at hq
  go_enter Tryz.func108, Tryz.ntmps108
  go_wp2
  go_ret
  exact ⟨_, rfl, World.ownsRow_nil _ _ _ _, Below.refl _ _⟩
 | some ad =>
  clear hc hnil
  have hl' : (flat cachedCs xs).length = xs.length * 4 := hl
  have Hl := Lib.hid hl'; clear hl hl'
  go_enter Tryz.func108, Tryz.ntmps108
  go_wp2_with (refine wp_append (lo := w.heap.size) (v := .slice (some ⟨w.heap.size, 0, none⟩) 0 0) (n := 0) (xs := []) (m := xs.length) (news := flat cachedCs xs) rfl rfl 94 (.agg #[.int .i64 0, .int .i64 0, .int .i64 0, .bool false]) 4 32 Tryz.underlying31 Tryz.infoCachedK rfl (by decide) rfl (ownsRow_empty _ _ _) rfl (Rd.alloc h _) Hone.out (by unfold maxLen; omega) (by omega) (by simp) ?_; intro v' w' hown _ hbel)
  go_ret
  refine ⟨_, rfl, by simpa [OwnF] using hown, ((Below.refl _ _).alloc (Nat.le_refl _) _).trans hbel⟩
def pageCs (x : PageV) : List Value := [.int .i64 x.w, .int .i64 x.a, .bool x.u]
theorem pageCs_len (x : PageV) : (pageCs x).length = 3 := rfl
theorem Tryz.infoPageK : (Tryz.prog.info? 169).map (fun i => (i.zero, i.size, i.bytes)) = some (some (.agg #[.int .i64 0, .int .i64 0, .bool false]), 3, 24) := by kernel_rfl
set_option maxHeartbeats 400000 in
theorem ClonePage_any (v : Value) (xs : List PageV) (w : World) (h : RdF 3 pageCs w v xs) (hs : xs.length ≤ 1048576) :
 Calls Tryz.prog 128 #[v] w fun e w' => ∃ v', e = .returned v' ∧ OwnF w.heap.size 169 3 pageCs w' v' xs ∧ Below w.heap.size w w' := by
 have hone : ∀ u ∈ flat pageCs xs, u.oneCell' = true := by
  intro u hu
  obtain ⟨s, _, hs⟩ := List.mem_flatMap.1 hu
  simp [pageCs] at hs
  rcases hs with rfl | rfl | rfl <;> rfl
 have h' := h
 obtain ⟨a, c, rfl, hnc, hcm, hl, hnil, hc⟩ := h'
 have hq := fun w => Lib.run_eql_slice_nil (P := Tryz.prog) w 44 169 a xs.length c 0 0 Tryz.underlying44
 have Hone := Lib.hid hone; clear hone
 cases a with
 | none =>
  have hc0 := hnil rfl
  subst hc0
  have h0 : xs = [] := List.eq_nil_of_length_eq_zero (by omega)
  subst h0
  simp only [List.length_nil] at hq
  go_enter Tryz.func128, Tryz.ntmps128
  go_wp2
  go_ret
  exact ⟨_, rfl, World.ownsRow_nil _ _ _ _, Below.refl _ _⟩
 | some ad =>
  clear hc hnil
  have hl' : (flat pageCs xs).length = xs.length * 3 := hl
  have Hl := Lib.hid hl'; clear hl hl'
  go_enter Tryz.func128, Tryz.ntmps128
  go_wp2_with (refine wp_append (lo := w.heap.size) (v := .slice (some ⟨w.heap.size, 0, none⟩) 0 0) (n := 0) (xs := []) (m := xs.length) (news := flat pageCs xs) rfl rfl 169 (.agg #[.int .i64 0, .int .i64 0, .bool false]) 3 24 Tryz.underlying44 Tryz.infoPageK rfl (by decide) rfl (ownsRow_empty _ _ _) rfl (Rd.alloc h _) Hone.out (by unfold maxLen; omega) (by omega) (by simp) ?_; intro v' w' hown _ hbel)
  go_ret
  refine ⟨_, rfl, by simpa [OwnF] using hown, ((Below.refl _ _).alloc (Nat.le_refl _) _).trans hbel⟩
theorem Tryz.infoStringK : (Tryz.prog.info? 9).map (fun i => (i.zero, i.size, i.bytes)) = some (some (.string ⟨#[]⟩), 1, 16) := by kernel_rfl
set_option maxHeartbeats 400000 in
theorem CloneString_any (v : Value) (xs : List ByteArray) (w : World) (h : RdF 1 strCs w v xs) (hs : xs.length ≤ 1048576) :
 Calls Tryz.prog 41 #[v] w fun e w' => ∃ v', e = .returned v' ∧ OwnF w.heap.size 9 1 strCs w' v' xs ∧ Below w.heap.size w w' := by
 have hone : ∀ u ∈ flat strCs xs, u.oneCell' = true := by
  intro u hu
  obtain ⟨s, _, hs⟩ := List.mem_flatMap.1 hu
  simp [strCs] at hs
  subst hs; rfl
 have h' := h
 obtain ⟨a, c, rfl, hnc, hcm, hl, hnil, hc⟩ := h'
 have hq := fun w => Lib.run_eql_slice_nil (P := Tryz.prog) w 36 9 a xs.length c 0 0 Tryz.underlying36
 have Hone := Lib.hid hone; clear hone
 cases a with
 | none =>
  have hc0 := hnil rfl
  subst hc0
  have h0 : xs = [] := List.eq_nil_of_length_eq_zero (by omega)
  subst h0
  simp only [List.length_nil] at hq
  go_enter Tryz.func41, Tryz.ntmps41
  go_wp2
  go_ret
  exact ⟨_, rfl, World.ownsRow_nil _ _ _ _, Below.refl _ _⟩
 | some ad =>
  clear hc hnil
  have hl' : (flat strCs xs).length = xs.length * 1 := hl
  have Hl := Lib.hid hl'; clear hl hl'
  go_enter Tryz.func41, Tryz.ntmps41
  go_wp2_with (refine wp_append (lo := w.heap.size) (v := .slice (some ⟨w.heap.size, 0, none⟩) 0 0) (n := 0) (xs := []) (m := xs.length) (news := flat strCs xs) rfl rfl 9 (.string ⟨#[]⟩) 1 16 Tryz.underlying36 Tryz.infoStringK rfl (by decide) rfl (ownsRow_empty _ _ _) rfl (Rd.alloc h _) Hone.out (by unfold maxLen; omega) (by omega) (by simp) ?_; intro v' w' hown _ hbel)
  go_ret
  refine ⟨_, rfl, by simpa [OwnF] using hown, ((Below.refl _ _).alloc (Nat.le_refl _) _).trans hbel⟩
theorem Tryz.infoRowsK : (Tryz.prog.info? 38).map (fun i => (i.zero, i.size, i.bytes)) = some (some (.slice none 0 0), 1, 24) := by kernel_rfl
set_option maxHeartbeats 400000 in
theorem CloneRows_any (v : Value) (xs : List Value) (w : World) (h : RdF 1 oneCs w v xs) (hs : xs.length ≤ 1048576) (hone : ∀ u ∈ flat oneCs xs, u.oneCell' = true) :
 Calls Tryz.prog 173 #[v] w fun e w' => ∃ v', e = .returned v' ∧ OwnF w.heap.size 38 1 oneCs w' v' xs ∧ Below w.heap.size w w' := by
 have h' := h
 obtain ⟨a, c, rfl, hnc, hcm, hl, hnil, hc⟩ := h'
 have hq := fun w => Lib.run_eql_slice_nil (P := Tryz.prog) w 28 38 a xs.length c 0 0 Tryz.underlying28
 have Hone := Lib.hid hone; clear hone
 cases a with
 | none =>
  have hc0 := hnil rfl
  subst hc0
  have h0 : xs = [] := List.eq_nil_of_length_eq_zero (by omega)
  subst h0
  simp only [List.length_nil] at hq
  go_enter Tryz.func173, Tryz.ntmps173
  go_wp2
  go_ret
  exact ⟨_, rfl, World.ownsRow_nil _ _ _ _, Below.refl _ _⟩
 | some ad =>
  clear hc hnil
  have hl' : (flat oneCs xs).length = xs.length * 1 := hl
  have Hl := Lib.hid hl'; clear hl hl'
  go_enter Tryz.func173, Tryz.ntmps173
  go_wp2_with (refine wp_append (lo := w.heap.size) (v := .slice (some ⟨w.heap.size, 0, none⟩) 0 0) (n := 0) (xs := []) (m := xs.length) (news := flat oneCs xs) rfl rfl 38 (.slice none 0 0) 1 24 Tryz.underlying28 Tryz.infoRowsK rfl (by decide) rfl (ownsRow_empty _ _ _) rfl (Rd.alloc h _) Hone.out (by unfold maxLen; omega) (by omega) (by simp) ?_; intro v' w' hown _ hbel)
  go_ret
  refine ⟨_, rfl, by simpa [OwnF] using hown, ((Below.refl _ _).alloc (Nat.le_refl _) _).trans hbel⟩
theorem own_extend {lo e sz n m g cap : Nat} {w : World} {xs : List Value} (h : w.ownsRow lo e sz (.slice (some ⟨g, 0, none⟩) n cap) n xs) (hn : n ≤ m) (hm : m ≤ cap) : ∃ ys, ys.take (n * sz) = xs ∧ w.ownsRow lo e sz (.slice (some ⟨g, 0, none⟩) m cap) m ys := by
 rcases h.2 with ⟨h0, _⟩ | ⟨g', cap', cur, hv, hb, hg, hnc, hcm, hcs, htake⟩
 ·cases h0
 ·cases hv
  have h1 : n * sz ≤ m * sz := Nat.mul_le_mul_right _ hn
  have h2 : m * sz ≤ cap * sz := Nat.mul_le_mul_right _ hm
  refine ⟨cur.toList.take (m * sz), by rw [List.take_take, Nat.min_eq_left h1]; exact htake, ?_, .inr ⟨g, cap, cur, rfl, hb, hg, hm, hcm, hcs, rfl⟩⟩
  rw [List.length_take, Array.length_toList, hcs]
  omega
theorem wpList_append_run {P : Program} {ops : Array Oper} {rest : List Oper} {o : Oper} {a : Act} {Q : Exit → Act → World → Prop} {w w' : World} {s x : Operand} {t : TypeId} (hgd : o.guard = none) (ho : o.op = .call { callee := .builtin .append, args := #[s, x], argTypes := #[t, t] })
 {v u v' : Value} (hs : a.eval s = v) (hx : a.eval x = u) (hrun : (Builtin.append_ #[t, t] o.type #[v, u]).run P w = .ok v' w') (h : wpList P ops Q rest (a.put o.dst v') w') : wpList P ops Q (o :: rest) a w :=
 wpList_plain hgd fun _ hK => wp_append_run ho hs hx hrun (hK _ _ h)
set_option maxRecDepth 100000 in
set_option maxHeartbeats 2000000 in
theorem DeleteCached_any {lo : Nat} (v : Value) (xs : List CachedV) (w : World) (h : OwnF lo 94 4 cachedCs w v xs) (hlo : lo ≤ w.heap.size) (h4 : xs.length = 4) :
 Calls Tryz.prog 282 #[v, .int .i64 0, .int .i64 1] w fun e w' => ∃ v', e = .returned v' ∧ OwnF lo 94 4 cachedCs w' v' (xs.drop 1) ∧ Below lo w w' := by
 obtain ⟨g, cap, rfl, hc, hcm, hg, hgl, hfz0⟩ := h.shapeOwn (by omega)
 have h' : w.ownsRow lo 94 4 (.slice (some ⟨g, 0, none⟩) 4 cap) 4 (flat cachedCs xs) := by have := h; unfold OwnF at this; rwa [h4] at this
 rw [h4] at hc ⊢
 unfold maxLen at hcm
 obtain ⟨i0, hi0, hz0, hz1, hz2⟩ := info_parts Tryz.infoCachedK
 have hl12 : ((flat cachedCs xs).drop 4).length = 3 * 4 := by rw [List.length_drop, flat_len cachedCs_len, h4]
 have hrun := fun W (hW : ∀ k, k < w.heap.size → W.heap[k]? = w.heap[k]?) (hO : W.ownsRow lo 94 4 (.slice (some ⟨g, 0, none⟩) 4 cap) 4 (flat cachedCs xs)) ty =>
  run_append_fits (P := Tryz.prog) W lo 31 ty 94 i0 4 Tryz.underlying31 hi0 hz1 g 0 cap [] (own_prefixN hO (Nat.zero_le _)) ⟨g, 4, none⟩ 3 (cap - 1) ((flat cachedCs xs).drop 4) hl12 (by
   intro j u hu
   have hj : j < 12 := by have := (List.getElem?_eq_some_iff.1 hu).1; omega
   have e : (⟨g, 4, none⟩ : Addr).add j = ⟨g, 4 + j, none⟩ := by unfold Addr.add; split <;> simp_all
   rw [e, World.ownsRow.cellAt hO (4 + j) (by omega), ← hu, List.getElem?_drop]) (by
   intro u hu
   obtain ⟨s, _, hs⟩ := List.mem_flatMap.1 (List.mem_of_mem_drop hu)
   simp [cachedCs] at hs
   rcases hs with rfl | rfl | rfl | rfl <;> rfl) (by omega)
 have hc1 : ¬ cap = 1 := by omega
 have hO := Lib.hid h'
 have HR := Lib.hid hrun
 clear hrun h h' hi0 hz0 hz1 hz2 hl12
 go_enter Tryz.func282, Tryz.ntmps282
 go_wp2_with fail
 go_still_tail 6, Tryz.mixed
 change wpList _ _ _ _ _ w.drew
 have hbd : Below w.heap.size w w.drew := below_drewN (Below.refl _ _) 1
 have hO2 := Lib.hid (ownsRow_below hO.out hbd)
 obtain ⟨w3, happ, hO3, hg3⟩ := HR.out w.drew hbd.block hO2.out 31
 have hb3 := below_grown (hbd.mono hlo) hg3 hg (Nat.le_trans hlo hbd.size)
 have hlo3 : lo ≤ w3.heap.size := Nat.le_trans hlo hb3.size
 obtain ⟨ys, hys, hO4⟩ := own_extend hO3 (show 0 + 3 ≤ 4 by decide) hc
 obtain ⟨w4, hcl, hO5, hg5⟩ := run_clear_own (P := Tryz.prog) (sz := 4) (t := 31) Tryz.underlying31 zeroCachedK rfl (by simp [Value.cells, Value.oneCell']) hO4 (show 3 < 4 by decide)
 have hE : ys.take (3 * 4) = flat cachedCs (xs.drop 1) := by
  have e : (flat cachedCs xs).drop 4 = flat cachedCs (xs.drop 1) := by
   cases xs with
   | nil => rfl
   | cons x xs => rw [flat_cons, List.drop_left' (cachedCs_len x)]; rfl
  rw [← e]
  simpa using hys
 rw [hE] at hO5
 have hcap3 : ¬ cap = 3 := by omega
 have R := Lib.hid (show OwnF lo 94 4 cachedCs w4 (.slice (some ⟨g, 0, none⟩) 3 cap) (xs.drop 1) by unfold OwnF; rw [List.length_drop, h4]; exact hO5)
 have BL := Lib.hid (below_grown hb3 hg5 hg hlo3)
 have hcl2 := fun ty => hcl ty (cap - 3)
 simp only [Nat.zero_add] at happ
 clear hcl hO3 hO4 hO5 hg3 hg5 hys hE hb3 hbd
 generalize w.drew = w2 at happ ⊢
 refine wpList_append_run rfl rfl rfl rfl happ ?_
 clear happ
 go_wp2_with fail
 go_ret
 exact ⟨_, rfl, R.out, BL.out⟩
end Go.Proofs.YtjacdlekgdnndaaGreatDoor
