/-
  Walks: the text of a call, by the reference and by the program.
-/
import Derived.Test.YtgdehdfbdjgmdaaGreatDoorDec
import Derived.Test.YtgdehdfbdjgmdaaGreatDoorDoorB
import Derived.Lib.QuietBelow
import Derived.Lib.AppendIntMem
import Derived.Lib.QuietBelow
set_option linter.unusedVariables false
namespace Go.Proofs.YtgdehdfbdjgmdaaGreatDoor
open Go.RowKit Go.Shelf

theorem Regrown.of {P : Program} {f : FuncId} {args : Array Value} {w1 : World} {v : Value} (h : ∀ w, Calls P f args w fun e w' => e = .returned v ∧ Below w.heap.size w w') :
    ∀ d os, Calls P f args (Sort.grow (redrawn w1 d) os) fun e w'' => e = .returned v ∧ ∃ p : Regrown, w'' = Sort.grow (redrawn w1 p.d) p.os := fun d os => Calls.regrown_of (h (Sort.grow (redrawn w1 d) os))

def kindB (k : Nat) : ByteArray := ⟨(kindL k).toArray⟩
def callL (x : CallV) : List UInt8 := txtL x.k.toNat x.e.toNat x.a.toNat x.b.toNat x.c.toNat x.nm.data.toList
def callB (x : CallV) : ByteArray := ⟨(callL x).toArray⟩
/-- The text, or nothing. -/
def textB (x : CallV) : ByteArray := if fitsC x = true then callB x else ⟨#[]⟩

theorem fits_ranges {x : CallV} (h : fitsC x = true) : ∃ k e a b c : Nat, x = ⟨k, e, a, b, c, x.nm⟩ ∧ 1 ≤ k ∧ k ≤ 11 ∧ e ≤ 2 ∧ a ≤ 9999 ∧ b ≤ 9999 ∧ c ≤ 9999 ∧ x.nm.size ≤ 4 ∧ (∀ y ∈ x.nm.data.toList, 97 ≤ y.toNat) := by
  obtain ⟨k, e, a, b, c, nm⟩ := x
  simp only [fitsC, Bool.and_eq_true, inB_iff] at h
  obtain ⟨⟨⟨⟨⟨h1, h2⟩, h3⟩, h4⟩, h5⟩, h6⟩ := h
  simp only [rightOk, Bool.and_eq_true, decide_eq_true_eq, List.all_eq_true, letterOk] at h6
  refine ⟨k.toNat, e.toNat, a.toNat, b.toNat, c.toNat, ?_, by omega, by omega, by omega, by omega, by omega, by omega, h6.2, fun y hy => (h6.1 y hy).1⟩
  congr 1 <;> omega

theorem callB_size {x : CallV} (h : fitsC x = true) : (callB x).size ≤ 40 := by
  obtain ⟨k, e, a, b, c, hx, h1, h2, h3, h4, h5, h6, h7, _⟩ := fits_ranges h
  have hn : x.nm.data.toList.length ≤ 4 := by simpa using h7
  rw [callB, callL, hx]
  simp only [ByteArray.size, List.size_toArray, Int.toNat_natCast]
  exact txt_long h2 (by omega) h4 h5 h6 hn

def kindArr : Array Value := #[.string ⟨#[116, 97, 107, 101]⟩, .string ⟨#[103, 105, 118, 101]⟩, .string ⟨#[112, 111, 107, 101]⟩, .string ⟨#[112, 105, 110]⟩, .string ⟨#[117, 110, 112, 105, 110]⟩, .string ⟨#[115, 101, 116]⟩, .string ⟨#[114, 111, 111, 116]⟩, .string ⟨#[103, 114, 97, 110, 116]⟩, .string ⟨#[114, 101, 118, 111, 107, 101]⟩, .string ⟨#[108, 111, 97, 100]⟩, .string ⟨#[115, 116, 111, 114, 101]⟩]
theorem kindArr_at : ∀ k : Fin 11, kindArr[k.val]? = some (.string (kindB (k.val + 1))) := by
  intro k
  match k with
  | ⟨0, _⟩ => rfl | ⟨1, _⟩ => rfl | ⟨2, _⟩ => rfl | ⟨3, _⟩ => rfl | ⟨4, _⟩ => rfl | ⟨5, _⟩ => rfl | ⟨6, _⟩ => rfl | ⟨7, _⟩ => rfl | ⟨8, _⟩ => rfl | ⟨9, _⟩ => rfl | ⟨10, _⟩ => rfl
theorem cell_at_arr {w : World} {g k : Nat} (hk : 1 ≤ k ∧ k ≤ 11) (h : w.heap[g]? = some (.cells kindArr 9 (0, 0))) : w.cell? ⟨g, k - 1, none⟩ = some (.string (kindB k)) := by
  have := kindArr_at ⟨k - 1, by omega⟩
  rw [show k - 1 + 1 = k by omega] at this
  have e := cell_of_row w g (k - 1) _ _ _ h
  rw [e]
  exact this

set_option maxHeartbeats 1000000 in
theorem l43Word_any (k : Nat) (w : World) (hk : 1 ≤ k ∧ k ≤ 11) :
    Calls Tryz.prog 40 #[.int .i64 k] w fun e w' => e = .returned (.string (kindB k)) ∧ Below w.heap.size w w' := by
  obtain ⟨h1, h2⟩ := hk
  rcases (show k = 1 ∨ k = 2 ∨ k = 3 ∨ k = 4 ∨ k = 5 ∨ k = 6 ∨ k = 7 ∨ k = 8 ∨ k = 9 ∨ k = 10 ∨ k = 11 by omega) with rfl | rfl | rfl | rfl | rfl | rfl | rfl | rfl | rfl | rfl | rfl
  all_goals
    clear h1 h2
    go_enter Tryz.func40, Tryz.ntmps40
    go_wp2_with fail
    go_ret
    exact ⟨rfl, below1 _ _⟩

theorem callWords_any (w : World) :
    Calls Tryz.prog 28 #[] w fun e w' => e = .returned (.slice (some ⟨w.heap.size, 0, none⟩) 11 11) ∧ w.alloc (.cells kindArr 9) = w' := by
  go_enter Tryz.func28, Tryz.ntmps28
  go_wp2_with fail
  go_ret
  exact ⟨rfl, rfl⟩

/-- The table that strconv.Itoa reads lies as the library lays it. -/
def Tabs (w : World) : Prop := Lib.TabBelow Tryz.prog w.heap.size w "internal/strconv.uint64pow10" .u64 Lib.pow10Tab
theorem Tabs.below {w w' : World} (h : Tabs w) (hb : Below w.heap.size w w') : Tabs w' := fun w2 h2 => h w2 ⟨h2.os.trans hb.os, h2.tape.trans hb.tape, h2.output.trans hb.output, Nat.le_trans hb.size h2.size, fun k hk => (h2.block k (Nat.lt_of_lt_of_le hk hb.size)).trans (hb.block k hk)⟩

theorem Itoa_any (n : Nat) (w : World) (hn : n ≤ 1000000) (ht : Tabs w) :
    Calls Tryz.prog 36 #[.int .i64 n] w fun e w' => e = .returned (.string (decB n)) ∧ Below w.heap.size w w' := by
  refine (Any.strconv_Itoa Tryz.laysM171 n (by omega) (by omega) w ht.here).mono ?_
  rintro e w' ⟨rfl, k, os, rfl⟩
  refine ⟨by rw [Lib.itoa_nonneg]; rfl, ⟨rfl, rfl, rfl, by simp [Sort.grow], fun j hj => by simp [Sort.grow, Array.getElem?_append, hj]⟩⟩

theorem call_put (k e a b c : Nat) (nm : ByteArray) : kindB k ++ ⟨#[32]⟩ ++ decB e ++ ⟨#[32]⟩ ++ decB a ++ ⟨#[32]⟩ ++ decB b ++ ⟨#[32]⟩ ++ decB c ++ ⟨#[32, 47]⟩ ++ nm = callB ⟨k, e, a, b, c, nm⟩ := by
  obtain ⟨⟨l⟩⟩ := nm
  simp only [kindB, decB, callB, callL, txt_eq, Int.toNat_natCast, ByteArray.mk_append_mk, List.append_assoc]
  rfl
theorem call_put' (k e a b c : Nat) (nm : ByteArray) : kindB k ++ (⟨#[32]⟩ ++ decB e) ++ (⟨#[32]⟩ ++ decB a) ++ (⟨#[32]⟩ ++ decB b) ++ (⟨#[32]⟩ ++ decB c) ++ ⟨#[32, 47]⟩ ++ nm = callB ⟨k, e, a, b, c, nm⟩ := by
  rw [← call_put]
  simp only [ByteArray.append_assoc]

theorem kindB_size {k : Nat} (h : k ≤ 11) : (kindB k).size ≤ 6 := by
  have := kind_len ⟨k, by omega⟩
  simpa [kindB, ByteArray.size] using this
theorem decB_size4 {n : Nat} (h : n ≤ 9999) : (decB n).size ≤ 4 := by rw [decB_size]; exact dec_len4 h

end Go.Proofs.YtgdehdfbdjgmdaaGreatDoor
