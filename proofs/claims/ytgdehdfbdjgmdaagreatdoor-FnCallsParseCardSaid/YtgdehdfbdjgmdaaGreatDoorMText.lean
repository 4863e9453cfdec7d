/-
  Walks: the text of a mark.
-/
import Derived.Test.YtgdehdfbdjgmdaaGreatDoorGen
import Derived.Laws.IdiomStrings
namespace Go.Proofs.YtgdehdfbdjgmdaaGreatDoor
open Go.RowKit

/-- A text of one byte. -/
def byte1 (d : Int) : ByteArray := ⟨#[UInt8.ofNat d.toNat]⟩
theorem byte1_size (d : Int) : (byte1 d).size = 1 := rfl

theorem conv_one (W : World) (d : Int) (h0 : 0 ≤ d) (h1 : d < 256) :
    (convert 22 9 (.slice (some ⟨W.heap.size, 0, none⟩) 1 1)).run Tryz.prog (W.alloc (.cells #[.int .u8 d] 5)) = .ok (.string (byte1 d)) (W.alloc (.cells #[.int .u8 d] 5)) := by
  refine run_convert_bytes_back (P := Tryz.prog) _ 22 9 5 ⟨W.heap.size, 0, none⟩ 1 [UInt8.ofNat d.toNat] Tryz.underlying22 Tryz.underlying5 Tryz.underlying9 ?_
  intro j hj
  obtain rfl : j = 0 := by simpa using hj
  have e : ((UInt8.ofNat d.toNat).toNat : Int) = d := by simp; omega
  have hadd : (⟨W.heap.size, 0, none⟩ : Addr).add 0 = ⟨W.heap.size, 0, none⟩ := rfl
  rw [hadd, World.cell?_alloc_new]
  show some (Value.int .u8 d) = some (.int .u8 ((UInt8.ofNat d.toNat).toNat : Int))
  rw [e]

/-- The digits of a number. -/
def digs (n : Nat) : List UInt8 := if _h : n = 0 then [] else digs (n / 10) ++ [UInt8.ofNat (48 + n % 10)]
termination_by n
decreasing_by omega

theorem digs_pos {n : Nat} (h : 0 < n) : digs n = digs (n / 10) ++ [UInt8.ofNat (48 + n % 10)] := by
  rw [digs, dif_neg (by omega)]
theorem digs_zero : digs 0 = [] := by rw [digs, dif_pos rfl]
theorem digs_len : ∀ (k n : Nat), n < 10 ^ k → (digs n).length ≤ k := by
  intro k
  induction k with
  | zero => intro n h; obtain rfl : n = 0 := by omega
            simp [digs_zero]
  | succ k ih =>
    intro n h
    rcases Nat.eq_zero_or_pos n with rfl | hn
    · simp [digs_zero]
    · rw [digs_pos hn]
      have := ih (n / 10) (by rw [Nat.pow_succ] at h; omega)
      simp; omega

/-- The text of a mark. -/
def mText (k : Int) : ByteArray := if k ≤ 0 then ⟨#[109, 48]⟩ else ⟨(109 :: digs k.toNat).toArray⟩

end Go.Proofs.YtgdehdfbdjgmdaaGreatDoor
