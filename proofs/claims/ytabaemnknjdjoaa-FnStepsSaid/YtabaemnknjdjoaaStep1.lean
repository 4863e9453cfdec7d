/-
  Walks: one step of a run, and lists of steps.
-/
import Derived.Test.YtabaemnknjdjoaaPack1
namespace Go.Proofs.Ytabaemnknjdjoaa
open Go.RowKit

/-- One step: kind, address, word, and the call's numbers and name. -/
structure StepV where
  k : Int
  a : Int
  x : Int
  ck : Int
  ce : Int
  ca : Int
  cb : Int
  cc : Int
  nm : ByteArray

def StepV.cells (s : StepV) : Array Value := #[.int .i64 s.k, .int .i64 s.a, .int .i64 s.x, .int .i64 s.ck, .int .i64 s.ce, .int .i64 s.ca, .int .i64 s.cb, .int .i64 s.cc, .string s.nm]
def StepV.val (s : StepV) : Value := .agg s.cells
def StepV.ok (s : StepV) : Bool := if s.k = 1 then inB s.a 0 63 else if s.k = 2 then inB s.a 0 63 && inB s.x 0 9999 else if s.k = 3 then inB s.ce 1 2 else false

set_option maxHeartbeats 400000 in
theorem isAddress_any (n : Int) (w : World) :
    Calls Try.prog 49 #[.int .i64 n] w fun e w' => e = .returned (.bool (inB n 0 63)) ∧ w = w' := by
  go_enter Try.func49, Try.ntmps49
  go_wp2_with (go_at_call 38; refine (within_any _ _ _ _).mono ?_; rintro e w' ⟨rfl, rfl⟩)
  go_ret
  exact ⟨rfl, rfl⟩

theorem stepOk1 {k a x ck ce ca cb cc : Int} {nm : ByteArray} (h : k = 1) : StepV.ok ⟨k, a, x, ck, ce, ca, cb, cc, nm⟩ = inB a 0 63 := by simp [StepV.ok, h]
theorem stepOk2 {k a x ck ce ca cb cc : Int} {nm : ByteArray} (h : k = 2) : StepV.ok ⟨k, a, x, ck, ce, ca, cb, cc, nm⟩ = (inB a 0 63 && inB x 0 9999) := by simp [StepV.ok, h]
theorem stepOk3 {k a x ck ce ca cb cc : Int} {nm : ByteArray} (h : k = 3) : StepV.ok ⟨k, a, x, ck, ce, ca, cb, cc, nm⟩ = inB ce 1 2 := by simp [StepV.ok, h]
theorem stepOk0 {k a x ck ce ca cb cc : Int} {nm : ByteArray} (h1 : k ≠ 1) (h2 : k ≠ 2) (h3 : k ≠ 3) : StepV.ok ⟨k, a, x, ck, ce, ca, cb, cc, nm⟩ = false := by simp [StepV.ok, h1, h2, h3]

set_option maxHeartbeats 400000 in
theorem isOther_any (n : Int) (w : World) :
    Calls Try.prog 51 #[.int .i64 n] w fun e w' => e = .returned (.bool (inB n 1 2)) ∧ w = w' := by
  go_enter Try.func51, Try.ntmps51
  go_wp2_with (go_at_call 38; refine (within_any _ _ _ _).mono ?_; rintro e w' ⟨rfl, rfl⟩)
  go_ret
  exact ⟨rfl, rfl⟩

set_option maxHeartbeats 400000 in
theorem l1Address_any (n : Int) (w : World) :
    Calls Try.prog 45 #[.int .i64 n] w fun e w' => e = .returned (.bool (inB n 0 63)) ∧ w = w' := by
  go_enter Try.func45, Try.ntmps45
  go_wp2_with (go_at_call 46; refine (l6In_any _ _ _ _).mono ?_; rintro e w' ⟨rfl, rfl⟩)
  go_ret
  exact ⟨rfl, rfl⟩

set_option maxHeartbeats 400000 in
theorem stepOk_any (s : StepV) (w : World) :
    Calls Try.prog 32 #[s.val] w fun e w' => e = .returned (.bool s.ok) ∧ Below w.heap.size w w' := by
  obtain ⟨k, a, x, ck, ce, ca, cb, cc, nm⟩ := s
  simp only [StepV.val, StepV.cells]
  by_cases h1 : k = 1
  · have S := Lib.hid (stepOk1 (a := a) (x := x) (ck := ck) (ce := ce) (ca := ca) (cb := cb) (cc := cc) (nm := nm) h1)
    subst h1
    go_enter Try.func32, Try.ntmps32
    go_wp2_with (first | (go_at_call 49; refine (isAddress_any _ _).mono ?_; rintro e w' ⟨rfl, rfl⟩) | (go_at_call 50; refine (isWord_any _ _).mono ?_; rintro e w' ⟨rfl, rfl⟩) | (go_at_call 51; refine (isOther_any _ _).mono ?_; rintro e w' ⟨rfl, rfl⟩))
    go_ret
    exact ⟨ret_bool S.out.symm, (Below.refl _ _).alloc (Nat.le_refl _) _⟩
  · have t1 : (k == 1) = false := by simp [h1]
    by_cases h2 : k = 2
    · have S := Lib.hid (stepOk2 (a := a) (x := x) (ck := ck) (ce := ce) (ca := ca) (cb := cb) (cc := cc) (nm := nm) h2)
      subst h2
      clear h1 t1
      go_enter Try.func32, Try.ntmps32
      cases hin : inB a 0 63
      · rw [hin] at S
        have Hin := Lib.hid hin; clear hin
        go_wp2_with (first | (go_at_call 49; refine (isAddress_any _ _).mono ?_; rintro e w' ⟨rfl, rfl⟩; rw [Hin.out]) | (go_at_call 50; refine (isWord_any _ _).mono ?_; rintro e w' ⟨rfl, rfl⟩) | (go_at_call 51; refine (isOther_any _ _).mono ?_; rintro e w' ⟨rfl, rfl⟩))
        go_ret
        exact ⟨ret_bool S.out.symm, (Below.refl _ _).alloc (Nat.le_refl _) _⟩
      · rw [hin] at S
        have Hin := Lib.hid hin; clear hin
        go_wp2_with (first | (go_at_call 49; refine (isAddress_any _ _).mono ?_; rintro e w' ⟨rfl, rfl⟩; rw [Hin.out]) | (go_at_call 50; refine (isWord_any _ _).mono ?_; rintro e w' ⟨rfl, rfl⟩) | (go_at_call 51; refine (isOther_any _ _).mono ?_; rintro e w' ⟨rfl, rfl⟩))
        go_ret
        exact ⟨ret_bool S.out.symm, (Below.refl _ _).alloc (Nat.le_refl _) _⟩
    · have t2 : (k == 2) = false := by simp [h2]
      by_cases h3 : k = 3
      · have S := Lib.hid (stepOk3 (a := a) (x := x) (ck := ck) (ce := ce) (ca := ca) (cb := cb) (cc := cc) (nm := nm) h3)
        subst h3
        clear h1 t1 h2 t2
        go_enter Try.func32, Try.ntmps32
        go_wp2_with (first | (go_at_call 49; refine (isAddress_any _ _).mono ?_; rintro e w' ⟨rfl, rfl⟩) | (go_at_call 50; refine (isWord_any _ _).mono ?_; rintro e w' ⟨rfl, rfl⟩) | (go_at_call 51; refine (isOther_any _ _).mono ?_; rintro e w' ⟨rfl, rfl⟩))
        go_ret
        exact ⟨ret_bool S.out.symm, (Below.refl _ _).alloc (Nat.le_refl _) _⟩
      · have t3 : (k == 3) = false := by simp [h3]
        have S := Lib.hid (stepOk0 (a := a) (x := x) (ck := ck) (ce := ce) (ca := ca) (cb := cb) (cc := cc) (nm := nm) h1 h2 h3)
        clear h1 h2 h3
        go_enter Try.func32, Try.ntmps32
        go_wp2_with fail
        go_ret
        exact ⟨ret_bool S.out.symm, (Below.refl _ _).alloc (Nat.le_refl _) _⟩

set_option maxHeartbeats 400000 in
theorem l41Step_any (s : StepV) (w : World) :
    Calls Try.prog 28 #[s.val] w fun e w' => e = .returned (.bool s.ok) ∧ Below w.heap.size w w' := by
  obtain ⟨k, a, x, ck, ce, ca, cb, cc, nm⟩ := s
  simp only [StepV.val, StepV.cells]
  by_cases h1 : k = 1
  · have S := Lib.hid (stepOk1 (a := a) (x := x) (ck := ck) (ce := ce) (ca := ca) (cb := cb) (cc := cc) (nm := nm) h1)
    subst h1
    go_enter Try.func28, Try.ntmps28
    go_wp2_with (first | (go_at_call 45; refine (l1Address_any _ _).mono ?_; rintro e w' ⟨rfl, rfl⟩) | (go_at_call 46; refine (l6In_any _ _ _ _).mono ?_; rintro e w' ⟨rfl, rfl⟩))
    go_ret
    exact ⟨ret_bool S.out.symm, (Below.refl _ _).alloc (Nat.le_refl _) _⟩
  · have t1 : (k == 1) = false := by simp [h1]
    by_cases h2 : k = 2
    · have S := Lib.hid (stepOk2 (a := a) (x := x) (ck := ck) (ce := ce) (ca := ca) (cb := cb) (cc := cc) (nm := nm) h2)
      subst h2
      clear h1 t1
      go_enter Try.func28, Try.ntmps28
      cases hin : inB a 0 63
      · rw [hin] at S
        have Hin := Lib.hid hin; clear hin
        go_wp2_with (first | (go_at_call 45; refine (l1Address_any _ _).mono ?_; rintro e w' ⟨rfl, rfl⟩; rw [Hin.out]) | (go_at_call 46; refine (l6In_any _ _ _ _).mono ?_; rintro e w' ⟨rfl, rfl⟩))
        go_ret
        exact ⟨ret_bool S.out.symm, (Below.refl _ _).alloc (Nat.le_refl _) _⟩
      · rw [hin] at S
        have Hin := Lib.hid hin; clear hin
        go_wp2_with (first | (go_at_call 45; refine (l1Address_any _ _).mono ?_; rintro e w' ⟨rfl, rfl⟩; rw [Hin.out]) | (go_at_call 46; refine (l6In_any _ _ _ _).mono ?_; rintro e w' ⟨rfl, rfl⟩))
        go_ret
        exact ⟨ret_bool S.out.symm, (Below.refl _ _).alloc (Nat.le_refl _) _⟩
    · have t2 : (k == 2) = false := by simp [h2]
      by_cases h3 : k = 3
      · have S := Lib.hid (stepOk3 (a := a) (x := x) (ck := ck) (ce := ce) (ca := ca) (cb := cb) (cc := cc) (nm := nm) h3)
        subst h3
        clear h1 t1 h2 t2
        go_enter Try.func28, Try.ntmps28
        go_wp2_with (first | (go_at_call 45; refine (l1Address_any _ _).mono ?_; rintro e w' ⟨rfl, rfl⟩) | (go_at_call 46; refine (l6In_any _ _ _ _).mono ?_; rintro e w' ⟨rfl, rfl⟩))
        go_ret
        exact ⟨ret_bool S.out.symm, (Below.refl _ _).alloc (Nat.le_refl _) _⟩
      · have t3 : (k == 3) = false := by simp [h3]
        have S := Lib.hid (stepOk0 (a := a) (x := x) (ck := ck) (ce := ce) (ca := ca) (cb := cb) (cc := cc) (nm := nm) h1 h2 h3)
        clear h1 h2 h3
        go_enter Try.func28, Try.ntmps28
        go_wp2_with fail
        go_ret
        exact ⟨ret_bool S.out.symm, (Below.refl _ _).alloc (Nat.le_refl _) _⟩
end Go.Proofs.Ytabaemnknjdjoaa
