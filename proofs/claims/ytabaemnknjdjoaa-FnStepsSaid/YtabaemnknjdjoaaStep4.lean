/-
  Walks: lists of steps measured and copied.
-/
import Derived.Test.YtabaemnknjdjoaaStep3
import Derived.Test.YtabaemnknjdjoaaGen
namespace Go.Proofs.Ytabaemnknjdjoaa
open Go.RowKit

/-- A call: kind, environment, three numbers and a name. -/
structure CallV where
  k : Int
  e : Int
  a : Int
  b : Int
  c : Int
  nm : ByteArray

def CallV.cells (c : CallV) : Array Value := #[.int .i64 c.k, .int .i64 c.e, .int .i64 c.a, .int .i64 c.b, .int .i64 c.c, .string c.nm]
def CallV.val (c : CallV) : Value := .agg c.cells
def StepV.call (s : StepV) : CallV := ⟨s.ck, s.ce, s.ca, s.cb, s.cc, s.nm⟩

set_option maxHeartbeats 400000 in
theorem szCall_any (c : CallV) (l : Int) (w : World) :
    Calls Try.prog 44 #[c.val, .int .i64 l] w fun e w' => (∃ r : Int, e = .returned (.int .i64 r)) ∧ Below w.heap.size w w' := by
  obtain ⟨k, e, a, b, c, nm⟩ := c
  simp only [CallV.val, CallV.cells]
  go_enter Try.func44, Try.ntmps44
  go_wp2_with fail
  all_goals
    go_ret
    exact ⟨⟨_, rfl⟩, (Below.refl _ _).alloc (Nat.le_refl _) _⟩

set_option maxHeartbeats 400000 in
theorem szStep_any (s : StepV) (l : Int) (w : World) :
    Calls Try.prog 27 #[s.val, .int .i64 l] w fun e w' => (∃ r : Int, e = .returned (.int .i64 r)) ∧ Below w.heap.size w w' := by
  have Hs := Lib.hid (fun l w => szCall_any s.call l w)
  obtain ⟨k, a, x, ck, ce, ca, cb, cc, nm⟩ := s
  simp only [StepV.val, StepV.cells, StepV.call, CallV.val, CallV.cells] at Hs ⊢
  go_enter Try.func27, Try.ntmps27
  go_wp2_with (go_at_call 44; refine (Hs.out _ _).mono ?_; rintro e w1 ⟨⟨r, rfl⟩, hbel⟩)
  all_goals
    go_ret
    exact ⟨⟨_, rfl⟩, ((Below.refl _ _).alloc (Nat.le_refl _) _).trans (hbel.mono (by simp))⟩

set_option maxHeartbeats 1000000 in
theorem szStepS_any (v : Value) (ss : List StepV) (l : Int) (w : World) (h : RdSteps w v ss) (hl : l ≤ 1048576) (hl0 : 0 ≤ l) :
    Calls Try.prog 9 #[v, .int .i64 l] w fun e w' => (∃ r : Int, e = .returned (.int .i64 r) ∧ (0 ≤ r → ss.length ≤ 1048576)) ∧ Below w.heap.size w w' := by
  obtain ⟨a, c, hv, hc, hcm, H0⟩ := h.open
  subst hv
  unfold maxLen at hcm
  by_cases hlen : l - ss.length < 0
  · go_enter Try.func9, Try.ntmps9
    go_wp2_with fail
    go_ret
    exact ⟨⟨_, rfl, by omega⟩, Below.refl _ _⟩
  · go_enter Try.func9, Try.ntmps9
    go_wp2_with fail
    go_loopw [1, 5] (fun l i wr => ∃ k : Nat, k ≤ ss.length ∧ i = .int .i64 k ∧ (∃ r : Int, l = .int .i64 r) ∧ Below w.heap.size w wr) (fun _ i _ => ss.length - (intOf i).toNat)
    case atStart => exact ⟨0, Nat.zero_le _, rfl, ⟨_, rfl⟩, Below.refl _ _⟩
    case round =>
      obtain ⟨k, hk, rfl, ⟨r, rfl⟩, hbel⟩ := hrel
      by_cases hlt : k < ss.length
      · obtain ⟨s, hs⟩ : ∃ s, ss[k]? = some s := ⟨_, List.getElem?_eq_getElem hlt⟩
        obtain ⟨b, off, rfl, D0, D1, D2, D3, D4, D5, D6, D7, D8⟩ := H0.nine hbel hs
        have Hs := Lib.hid hs; clear hs
        go_wp2_with (go_at_call 27; refine (szStep_any s _ _).mono ?_; rintro e w1 ⟨⟨r1, rfl⟩, hbel1⟩)
        · go_ret
          exact ⟨⟨_, rfl, by omega⟩, hbel.trans (hbel1.mono hbel.size)⟩
        · go_roundw
          case rel => exact ⟨k + 1, by omega, by go_num, ⟨_, rfl⟩, hbel.trans (hbel1.mono hbel.size)⟩
          case measure => simp [intOf]; omega
      · go_wp2_with fail
        go_ret
        exact ⟨⟨_, rfl, fun _ => by omega⟩, hbel⟩

set_option maxHeartbeats 400000 in
theorem toCall_lit (c : CallV) (w : World) :
    Calls Try.prog 47 #[c.val] w fun e w' => e = .returned c.val ∧ ((w.alloc (.cells c.cells 46)).alloc (.cells c.cells 38)).alloc (.cells c.cells 38) = w' := by
  obtain ⟨k, e, a, b, c, nm⟩ := c
  simp only [CallV.val, CallV.cells]
  go_enter Try.func47, Try.ntmps47
  go_wp2_with fail
  exact bodyPost_ret (v := .agg #[.int .i64 k, .int .i64 e, .int .i64 a, .int .i64 b, .int .i64 c, .string nm]) (by simp [results, Try.results47, go_sem]) rfl ⟨rfl, rfl⟩

set_option maxHeartbeats 400000 in
theorem toStep_any (s : StepV) (w : World) :
    Calls Try.prog 29 #[s.val] w fun e w' => e = .returned s.val ∧ Below w.heap.size w w' := by
  have Hs := Lib.hid (fun w => toCall_lit s.call w)
  obtain ⟨k, a, x, ck, ce, ca, cb, cc, nm⟩ := s
  simp only [StepV.val, StepV.cells, StepV.call, CallV.val, CallV.cells] at Hs ⊢
  go_enter Try.func29, Try.ntmps29
  go_wp2_with fail
  refine (Hs.out _).mono ?_; rintro e w1 ⟨rfl, rfl⟩
  clear Hs
  go_wp2_with fail
  exact bodyPost_ret (v := .agg #[.int .i64 k, .int .i64 a, .int .i64 x, .int .i64 ck, .int .i64 ce, .int .i64 ca, .int .i64 cb, .int .i64 cc, .string nm]) (by simp [results, Try.results29, go_sem]) rfl ⟨rfl, below6 _ _ _ _ _ _ _⟩

theorem Try.infoStep : (Try.prog.info? 40).map (fun i => (i.zero, i.size, i.bytes)) = some (some (.agg #[.int .i64 0, .int .i64 0, .int .i64 0, .int .i64 0, .int .i64 0, .int .i64 0, .int .i64 0, .int .i64 0, .string ⟨#[]⟩]), 9, 80) := by kernel_rfl

def stepCs (s : StepV) : List Value := s.cells.toList
theorem stepCs_len (s : StepV) : (stepCs s).length = 9 := rfl
def OwnSteps (lo : Nat) (w : World) (v : Value) (ss : List StepV) : Prop := w.ownsRow lo 40 9 v ss.length (stepCells ss)
theorem OwnSteps.rd {lo : Nat} {w : World} {v : Value} {ss : List StepV} (h : OwnSteps lo w v ss) : RdSteps w v ss := Rd.of_owns h

theorem nine_of (B : List Value) (h : B.length = 9) : ∃ b0 b1 b2 b3 b4 b5 b6 b7 b8, B = [b0, b1, b2, b3, b4, b5, b6, b7, b8] := by
  match B, h with
  | [b0, b1, b2, b3, b4, b5, b6, b7, b8], _ => exact ⟨b0, b1, b2, b3, b4, b5, b6, b7, b8, rfl⟩

theorem mid_at (A B C : List Value) (j : Nat) (u : Value) (h : B[j]? = some u) : (A ++ B ++ C)[A.length + j]? = some u := by
  rw [List.append_assoc, List.getElem?_append_right (by omega), Nat.add_sub_cancel_left, List.getElem?_append_left (List.getElem?_eq_some_iff.1 h).1, h]

set_option maxHeartbeats 1000000 in
theorem toStepS_any (v : Value) (ss : List StepV) (w : World) (h : RdSteps w v ss) (hs : ss.length ≤ 1048576) :
    Calls Try.prog 11 #[v] w fun e w' => ∃ v', e = .returned v' ∧ OwnSteps w.heap.size w' v' ss ∧ Below w.heap.size w w' := by
  obtain ⟨a, c, hv, hc, hcm, H0⟩ := h.open
  subst hv
  unfold maxLen at hcm
  go_enter Try.func11, Try.ntmps11
  go_wp2_with (refine wp_makeN rfl rfl 40 _ 9 80 Try.underlying25 Try.infoStep rfl (by omega) (by unfold maxLen; omega) ?_; intro w1 hown hbel hsz)
  go_loopw [4] (fun i wr => ∃ k : Nat, k ≤ ss.length ∧ i = .int .i64 k ∧ (∃ zs : List Value, wr.ownsRow w.heap.size 40 9 (.slice (some ⟨w.heap.size, 0, none⟩) ss.length ss.length) ss.length (stepCells (ss.take k) ++ zs)) ∧ Below w.heap.size w wr) (fun i _ => ss.length - (intOf i).toNat)
  case atStart => exact ⟨0, Nat.zero_le _, rfl, ⟨_, by simpa [stepCells] using hown⟩, hbel⟩
  case round =>
    clear hown hbel hsz
    obtain ⟨k, hk, rfl, ⟨zs, hown⟩, hbel⟩ := hrel
    by_cases hlt : k < ss.length
    · obtain ⟨s, hs⟩ : ∃ s, ss[k]? = some s := ⟨_, List.getElem?_eq_getElem hlt⟩
      obtain ⟨b, off, rfl, D0, D1, D2, D3, D4, D5, D6, D7, D8⟩ := H0.nine hbel hs
      have Hs := Lib.hid hs; clear hs
      go_wp2_with fail
      refine (toStep_any s _).mono ?_; rintro e w1 ⟨rfl, hbel1⟩
      have hbel' := hbel.trans (hbel1.mono hbel.size)
      have hown1 := ownsRow_below hown hbel1
      have hl := hown1.1
      have hlk : (stepCells (ss.take k)).length = k * 9 := by rw [stepCells_len, List.length_take]; congr 1; omega
      obtain ⟨B, C, rfl, hB⟩ := split_at zs 9 (by rw [List.length_append, hlk] at hl; omega)
      rw [← List.append_assoc] at hown1
      have S := Lib.hid (setMany_own hown1 (k * 9) 0 (stepCs s))
      rw [setList_mid (stepCells (ss.take k)) B C (stepCs s) 0 (by rw [hB]; rfl) (k * 9) hlk] at S
      have F := hown1.frozenAt
      have Ca : ∀ (j : Nat) u, B[j]? = some u → w1.cell? ⟨w.heap.size, k * 9 + j, none⟩ = some u := fun j u hu => by
        have hj : j < 9 := by rw [← hB]; exact (List.getElem?_eq_some_iff.1 hu).1
        rw [hown1.cellAt _ (by omega), ← hlk]
        exact mid_at _ _ _ _ _ hu
      obtain ⟨b0, b1, b2, b3, b4, b5, b6, b7, b8, rfl⟩ := nine_of B hB
      have E0 : w1.cell? ⟨w.heap.size, k * 9, none⟩ = some b0 := Ca 0 _ rfl
      have E1 := Ca 1 _ rfl
      have E2 := Ca 2 _ rfl
      have E3 := Ca 3 _ rfl
      have E4 := Ca 4 _ rfl
      have E5 := Ca 5 _ rfl
      have E6 := Ca 6 _ rfl
      have E7 := Ca 7 _ rfl
      have E8 := Ca 8 _ rfl
      clear Ca D0 D1 D2 D3 D4 D5 D6 D7 D8 hl hlk hB hown hown1 hbel hbel1
      simp only [StepV.val, StepV.cells]
      go_wp2_with fail
      go_roundw
      case rel =>
        have S1 := S.out.1
        rw [List.append_assoc, show stepCells (ss.take k) ++ (stepCs s ++ C) = stepCells (ss.take (k + 1)) ++ C by rw [take_one Hs.out, ← List.append_assoc]; simp [stepCells, stepCs]] at S1
        exact ⟨k + 1, by omega, by go_num, ⟨C, S1⟩, Below.of_grown_row hbel' S.out.2 hbel'.size (Nat.le_refl _)⟩
      case measure => simp [intOf]; omega
    · go_wp2_with fail
      go_ret
      refine ⟨_, rfl, ?_, hbel⟩
      have e1 : ss.take k = ss := List.take_of_length_le (by omega)
      rw [e1] at hown
      have h2 := hown.1
      rw [List.length_append, stepCells_len] at h2
      obtain rfl : zs = [] := List.eq_nil_of_length_eq_zero (by omega)
      simpa [OwnSteps] using hown
end Go.Proofs.Ytabaemnknjdjoaa
