/-
  Walks: the text of a mark.
-/
import Derived.Test.YtgdehdfbdjgmdaaDoorGen
import Derived.Laws.IdiomStrings
namespace Go.Proofs.YtgdehdfbdjgmdaaDoor
open Go.RowKit

/-- A text of one byte. -/
def byte1 (d : Int) : ByteArray := ⟨#[UInt8.ofNat d.toNat]⟩
theorem byte1_size (d : Int) : (byte1 d).size = 1 := rfl

theorem conv_one (W : World) (d : Int) (h0 : 0 ≤ d) (h1 : d < 256) :
    (convert 29 9 (.slice (some ⟨W.heap.size, 0, none⟩) 1 1)).run Tryd.prog (W.alloc (.cells #[.int .u8 d] 5)) = .ok (.string (byte1 d)) (W.alloc (.cells #[.int .u8 d] 5)) := by
  refine run_convert_bytes_back (P := Tryd.prog) _ 29 9 5 ⟨W.heap.size, 0, none⟩ 1 [UInt8.ofNat d.toNat] Tryd.underlying29 Tryd.underlying5 Tryd.underlying9 ?_
  intro j hj
  obtain rfl : j = 0 := by simpa using hj
  have e : ((UInt8.ofNat d.toNat).toNat : Int) = d := by simp; omega
  have hadd : (⟨W.heap.size, 0, none⟩ : Addr).add 0 = ⟨W.heap.size, 0, none⟩ := rfl
  rw [hadd, World.cell?_alloc_new]
  show some (Value.int .u8 d) = some (.int .u8 ((UInt8.ofNat d.toNat).toNat : Int))
  rw [e]

/-- The digits of a number. -/
def digs (n : Nat) : List UInt8 := if _h : n = 0 then [] else digs (n / 10) ++ [UInt8.ofNat (48 + n % 10)]
termination_by n
decreasing_by omega

theorem digs_pos {n : Nat} (h : 0 < n) : digs n = digs (n / 10) ++ [UInt8.ofNat (48 + n % 10)] := by
  rw [digs, dif_neg (by omega)]
theorem digs_zero : digs 0 = [] := by rw [digs, dif_pos rfl]
theorem digs_len : ∀ (k n : Nat), n < 10 ^ k → (digs n).length ≤ k := by
  intro k
  induction k with
  | zero => intro n h; obtain rfl : n = 0 := by omega
            simp [digs_zero]
  | succ k ih =>
    intro n h
    rcases Nat.eq_zero_or_pos n with rfl | hn
    · simp [digs_zero]
    · rw [digs_pos hn]
      have := ih (n / 10) (by rw [Nat.pow_succ] at h; omega)
      simp; omega

/-- The text of a mark. -/
def mText (k : Int) : ByteArray := if k ≤ 0 then ⟨#[109, 48]⟩ else ⟨(109 :: digs k.toNat).toArray⟩

set_option maxRecDepth 100000 in
set_option maxHeartbeats 1000000 in
theorem markText_any (k : Int) (w : World) (h0 : 0 ≤ k) (h1 : k ≤ 1099511627776) :
    Calls Tryd.prog 55 #[.int .i64 k] w fun e w' => e = .returned (.string (mText k)) ∧ Below w.heap.size w w' := by
  by_cases hk : k = 0
  · subst hk
    have S := Lib.hid (show (⟨#[109, 48]⟩ : ByteArray) = mText 0 by simp [mText])
    go_enter Tryd.func55, Tryd.ntmps55
    go_wp2_with fail
    go_ret
    exact ⟨by rw [← S.out]; rfl, Below.refl _ _⟩
  have Hk := Lib.hid (show (⟨(109 :: digs k.toNat).toArray⟩ : ByteArray) = mText k by simp [mText]; omega)
  have hk0 : 0 < k := by omega
  clear hk h0
  go_enter Tryd.func55, Tryd.ntmps55
  go_wp2_with fail
  go_loopw [0, 3] (fun i o wr => ∃ n : Nat, ∃ s : List UInt8, i = .int .i64 n ∧ (n : Int) ≤ 1099511627776 ∧ o = .string ⟨s.toArray⟩ ∧ digs n ++ s = digs k.toNat ∧ Below w.heap.size w wr) (fun i _ _ => (intOf i).toNat)
  case atStart => exact ⟨k.toNat, [], by rw [Int.toNat_of_nonneg (by omega)], by omega, rfl, by simp, Below.refl _ _⟩
  case round =>
    obtain ⟨n, s, rfl, hn, rfl, hs, hbel⟩ := hrel
    have hl : s.length ≤ 20 := by
      have a1 := digs_len 20 k.toNat (by omega)
      rw [← hs, List.length_append] at a1
      omega
    have Hs := Lib.hid hs; clear hs
    by_cases hpos : 0 < n
    · have hcv := fun W => conv_one W (48 + (n : Int) % 10) (by omega) (by omega)
      have E := Lib.hid (show (byte1 (48 + (n : Int) % 10) ++ ⟨s.toArray⟩ : ByteArray) = ⟨(UInt8.ofNat (48 + n % 10) :: s).toArray⟩ by
        rw [byte1, ByteArray.mk_append_mk]
        rw [show (48 + (n : Int) % 10).toNat = 48 + n % 10 by omega]
        simp)
      have hadd := fun W => run_string_add_sum (P := Tryd.prog) W (byte1 (48 + (n : Int) % 10)) ⟨s.toArray⟩ (by rw [byte1_size]; simp [ByteArray.size]; omega)
      go_wp2_with fail
      go_roundw
      case rel => exact ⟨n / 10, UInt8.ofNat (48 + n % 10) :: s, by go_num, by omega, by rw [E.out], by rw [← Hs.out, digs_pos hpos]; simp, hbel.alloc hbel.size _⟩
      case measure => simp [intOf]; omega
    · obtain rfl : n = 0 := by omega
      have hadd := fun W => run_string_add_sum (P := Tryd.prog) W ⟨#[109]⟩ ⟨s.toArray⟩ (by simp [ByteArray.size]; omega)
      have E := Lib.hid (show ((⟨#[109]⟩ : ByteArray) ++ ⟨s.toArray⟩ : ByteArray) = mText k by
        rw [← Hk.out, ByteArray.mk_append_mk]
        have := Hs.out
        rw [digs_zero, List.nil_append] at this
        rw [this]; simp)
      go_wp2_with fail
      go_ret
      exact ⟨by rw [← E.out]; rfl, hbel⟩
end Go.Proofs.YtgdehdfbdjgmdaaDoor
