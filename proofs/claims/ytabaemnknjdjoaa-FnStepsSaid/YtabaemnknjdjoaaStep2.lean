/-
  Walks: lists of steps are checked.
-/
import Derived.Test.YtabaemnknjdjoaaStep1
namespace Go.Proofs.Ytabaemnknjdjoaa
open Go.RowKit

/-- The cells of a list of steps. -/
def stepCells (ss : List StepV) : List Value := ss.flatMap fun s => s.cells.toList
theorem stepCells_len (ss : List StepV) : (stepCells ss).length = ss.length * 9 := by
  induction ss with
  | nil => rfl
  | cons s ss ih => simp only [stepCells, List.flatMap_cons, List.length_append, List.length_cons] at ih ⊢; rw [ih]; simp [StepV.cells]; omega
theorem stepCells_at {ss : List StepV} {k : Nat} {s : StepV} (h : ss[k]? = some s) {j : Nat} (hj : j < 9) : (stepCells ss)[k * 9 + j]? = s.cells[j]? := by
  induction ss generalizing k with
  | nil => simp at h
  | cons s' ss ih =>
    have hl : s'.cells.toList.length = 9 := rfl
    cases k with
    | zero =>
      simp only [List.getElem?_cons_zero, Option.some.injEq] at h
      subst h
      rw [stepCells, List.flatMap_cons, List.getElem?_append_left (by omega)]
      simp
    | succ k =>
      rw [List.getElem?_cons_succ] at h
      have := ih h
      rw [stepCells, List.flatMap_cons, List.getElem?_append_right (by omega), hl, ← this]
      congr 1
      omega

/-- v reads as the steps ss. -/
def RdSteps (w : World) (v : Value) (ss : List StepV) : Prop := Rd w v 9 ss.length (stepCells ss)
/-- What the address a leads to: the steps ss. -/
def AtSteps (w : World) (a : Option Addr) (ss : List StepV) : Prop :=
  ∀ k s, ss[k]? = some s → ∃ b off, a = some ⟨b, off, none⟩ ∧ ∀ j, j < 9 → w.cell? ⟨b, off + k * 9 + j, none⟩ = s.cells[j]?

theorem RdSteps.open {w : World} {v : Value} {ss : List StepV} (h : RdSteps w v ss) :
    ∃ a cap, v = .slice a ss.length cap ∧ ss.length ≤ cap ∧ cap ≤ maxLen ∧ AtSteps w a ss := by
  obtain ⟨a, cap, rfl, hnc, hcm, hl, _, hc⟩ := h
  refine ⟨a, cap, rfl, hnc, hcm, fun k s hk => ?_⟩
  have hlt := (List.getElem?_eq_some_iff.1 hk).1
  obtain ⟨b, off, rfl, hcell⟩ := hc (by omega)
  refine ⟨b, off, rfl, fun j hj => ?_⟩
  rw [Nat.add_assoc, hcell (k * 9 + j) (by omega), stepCells_at hk hj]

def stepsOk (ss : List StepV) : Bool := decide (ss.length ≤ 80) && ss.all StepV.ok

theorem AtSteps.cells {w w' : World} {a : Option Addr} {ss : List StepV} (h : AtSteps w a ss) (hb : Below w.heap.size w w') {k : Nat} {s : StepV} (hk : ss[k]? = some s) :
    ∃ b off, a = some ⟨b, off, none⟩ ∧ ∀ j u, s.cells[j]? = some u → w'.cell? ⟨b, off + k * 9 + j, none⟩ = some u := by
  obtain ⟨b, off, rfl, hc⟩ := h k s hk
  refine ⟨b, off, rfl, fun j u hu => ?_⟩
  have hj : j < 9 := (Array.getElem?_eq_some_iff.1 hu).1
  have := (hc j hj).trans hu
  exact (hb.cell (World.block_lt_of_cell? w _ this)).trans this

theorem AtSteps.nine {w w' : World} {a : Option Addr} {ss : List StepV} (h : AtSteps w a ss) (hb : Below w.heap.size w w') {k : Nat} {s : StepV} (hk : ss[k]? = some s) :
    ∃ b off, a = some ⟨b, off, none⟩ ∧ w'.cell? ⟨b, off + k * 9, none⟩ = some (.int .i64 s.k) ∧ w'.cell? ⟨b, off + k * 9 + 1, none⟩ = some (.int .i64 s.a) ∧ w'.cell? ⟨b, off + k * 9 + 2, none⟩ = some (.int .i64 s.x) ∧
      w'.cell? ⟨b, off + k * 9 + 3, none⟩ = some (.int .i64 s.ck) ∧ w'.cell? ⟨b, off + k * 9 + 4, none⟩ = some (.int .i64 s.ce) ∧ w'.cell? ⟨b, off + k * 9 + 5, none⟩ = some (.int .i64 s.ca) ∧
      w'.cell? ⟨b, off + k * 9 + 6, none⟩ = some (.int .i64 s.cb) ∧ w'.cell? ⟨b, off + k * 9 + 7, none⟩ = some (.int .i64 s.cc) ∧ w'.cell? ⟨b, off + k * 9 + 8, none⟩ = some (.string s.nm) := by
  obtain ⟨b, off, rfl, hc⟩ := h.cells hb hk
  exact ⟨b, off, rfl, hc 0 _ rfl, hc 1 _ rfl, hc 2 _ rfl, hc 3 _ rfl, hc 4 _ rfl, hc 5 _ rfl, hc 6 _ rfl, hc 7 _ rfl, hc 8 _ rfl⟩

theorem stepsOk_bad {ss : List StepV} {k : Nat} {s : StepV} (hs : ss[k]? = some s) (h : s.ok = false) : stepsOk ss = false := by
  simp only [stepsOk, Bool.and_eq_false_iff]
  exact .inr (List.all_eq_false.2 ⟨s, List.mem_of_getElem? hs, by simp [h]⟩)
theorem stepsOk_good {ss : List StepV} (h : ∀ (j : Nat) s, ss[j]? = some s → s.ok = true) : stepsOk ss = decide ((ss.length : Int) ≤ 80) := by
  have : ss.all StepV.ok = true := List.all_eq_true.2 fun s hs => by
    obtain ⟨j, hj⟩ := List.getElem?_of_mem hs
    exact h j s hj
  rw [stepsOk, this, Bool.and_true]
  by_cases h8 : ss.length ≤ 80
  · have : (ss.length : Int) ≤ 80 := by omega
    simp [h8, this]
  · have : ¬ (ss.length : Int) ≤ 80 := by omega
    simp [h8, this]
theorem steps_next {ss : List StepV} {k : Nat} {s : StepV} (h : ∀ (j : Nat) s, j < k → ss[j]? = some s → s.ok = true) (hs : ss[k]? = some s) (hok : s.ok = true) : ∀ (j : Nat) s, j < k + 1 → ss[j]? = some s → s.ok = true := by
  intro j s' hj hs'
  rcases Nat.lt_succ_iff_lt_or_eq.1 hj with h' | h'
  · exact h j s' h' hs'
  · subst h'
    rw [hs] at hs'
    cases hs'
    exact hok

set_option maxHeartbeats 1000000 in
theorem StepsValid_spec (v : Value) (ss : List StepV) (w : World) (h : RdSteps w v ss) :
    Calls Try.prog 10 #[v] w fun e w' => e = .returned (.bool (stepsOk ss)) ∧ Below w.heap.size w w' := by
  obtain ⟨a, c, hv, hc, hcm, H0⟩ := h.open
  subst hv
  unfold maxLen at hcm
  go_enter Try.func10, Try.ntmps10
  go_wp2_with fail
  go_loopw [3] (fun i wr => ∃ k : Nat, k ≤ ss.length ∧ i = .int .i64 k ∧ (∀ j s, j < k → ss[j]? = some s → s.ok = true) ∧ Below w.heap.size w wr) (fun i _ => ss.length - (intOf i).toNat)
  case atStart => exact ⟨0, Nat.zero_le _, rfl, fun j s hj => absurd hj (Nat.not_lt_zero _), Below.refl _ _⟩
  case round =>
    obtain ⟨k, hk, rfl, hpre, hbel⟩ := hrel
    have Hpre := Lib.hid hpre; clear hpre
    by_cases hlt : k < ss.length
    · obtain ⟨s, hs⟩ : ∃ s, ss[k]? = some s := ⟨_, List.getElem?_eq_getElem hlt⟩
      obtain ⟨b, off, rfl, D0, D1, D2, D3, D4, D5, D6, D7, D8⟩ := H0.nine hbel hs
      have Hs := Lib.hid hs; clear hs
      cases hok : s.ok
      · have S := Lib.hid (stepsOk_bad Hs.out hok)
        have Hok := Lib.hid hok; clear hok
        go_wp2_with (go_at_call 28; refine (l41Step_any s _).mono ?_; rintro e w1 ⟨rfl, hbel1⟩; rw [Hok.out])
        go_ret
        exact ⟨ret_bool S.out.symm, hbel.trans (hbel1.mono hbel.size)⟩
      · have Hok := Lib.hid hok; clear hok
        go_wp2_with (go_at_call 28; refine (l41Step_any s _).mono ?_; rintro e w1 ⟨rfl, hbel1⟩; rw [Hok.out])
        go_roundw
        case rel => exact ⟨k + 1, by omega, by go_num, steps_next Hpre.out Hs.out Hok.out, hbel.trans (hbel1.mono hbel.size)⟩
        case measure => simp [intOf]; omega
    · have S := Lib.hid (stepsOk_good (ss := ss) (fun j s hs => Hpre.out j s (by have := (List.getElem?_eq_some_iff.1 hs).1; omega) hs))
      go_wp2_with fail
      go_ret
      exact ⟨ret_bool S.out.symm, hbel⟩
end Go.Proofs.Ytabaemnknjdjoaa
