/-
  Walks: the reference's decimal numeral.
-/
import Derived.Test.YtgdehdfbdjgmdaaGreatDoorGrow
import Derived.Test.YtgdehdfbdjgmdaaGreatDoorTxt
import Derived.Test.YtgdehdfbdjgmdaaGreatDoorMText
set_option linter.unusedVariables false
namespace Go.Proofs.YtgdehdfbdjgmdaaGreatDoor
open Go.RowKit

def decB (n : Nat) : ByteArray := ⟨(Lib.decDigits n).toArray⟩
theorem decB_size (n : Nat) : (decB n).size = (Lib.decDigits n).length := by simp [decB, ByteArray.size]
theorem blk_under {w w' : World} {g : Nat} {o : Obj} (h : w.heap[g]? = some o) (hb : Below w.heap.size w w') : w'.heap[g]? = some o := (hb.block g (Array.getElem?_eq_some_iff.1 h).1).trans h

theorem conv_cell (W : World) (g : Nat) (d : Int) (h0 : 0 ≤ d) (h1 : d < 256) (hg : W.heap[g]? = some (.cells #[.int .u8 d] 5 (0, 0))) :
    (convert 22 9 (.slice (some ⟨g, 0, none⟩) 1 1)).run Tryz.prog W = .ok (.string (byte1 d)) W := by
  refine run_convert_bytes_back (P := Tryz.prog) _ 22 9 5 ⟨g, 0, none⟩ 1 [UInt8.ofNat d.toNat] Tryz.underlying22 Tryz.underlying5 Tryz.underlying9 ?_
  intro j hj
  obtain rfl : j = 0 := by simpa using hj
  have e : ((UInt8.ofNat d.toNat).toNat : Int) = d := by simp; omega
  have hadd : (⟨g, 0, none⟩ : Addr).add 0 = ⟨g, 0, none⟩ := rfl
  rw [hadd, cell_of_row W g 0 _ _ _ hg]
  show some (Value.int .u8 d) = some (.int .u8 ((UInt8.ofNat d.toNat).toNat : Int))
  rw [e]

theorem dec_len (n : Nat) : (Lib.decDigits n).length ≤ n + 1 := by
  induction n using Nat.strongRecOn with
  | _ n ih =>
    by_cases h : n < 10
    · rw [dec_small h]; simp
    · rw [dec_big h]
      have := ih (n / 10) (by omega)
      simp
      omega

theorem byte1_dig {d : Nat} : byte1 (48 + (d : Int)) = ⟨#[UInt8.ofNat (48 + d)]⟩ := by
  unfold byte1
  rw [show (48 + (d : Int)).toNat = 48 + d by omega]

def decR (n : Nat) (B : Nat) (ix : Nat) (vv : Value) (ww : World) : Prop := match ix with
  | 0 => vv = .int .i64 n
  | 1 => vv = .int .i64 ((n / 10 : Nat) : Int)
  | 2 => vv = .string (decB (n / 10))
  | 3 => vv = .int .i64 n
  | 4 => vv = .int .i64 ((n : Int) % 10)
  | 5 => vv = .int .i64 (48 + (n : Int) % 10)
  | 6 => vv = .int .u8 (48 + (n : Int) % 10)
  | 7 => ∃ g : Nat, vv = .slice (some ⟨g, 0, none⟩) 1 1 ∧ ww.heap[g]? = some (.cells #[.int .u8 (48 + (n : Int) % 10)] 5 (0, 0))
  | 8 => vv = .string (byte1 (48 + (n : Int) % 10))
  | _ => True
theorem decR_mono (n : Nat) (B : Nat) : ∀ i, i < 9 → ∀ vv ww ww', Below ww.heap.size ww ww' → decR n B i vv ww → decR n B i vv ww' := by
  intro i hi vv ww ww' hb h
  match i, hi with
  | 0, _ => exact h
  | 1, _ => exact h
  | 2, _ => exact h
  | 3, _ => exact h
  | 4, _ => exact h
  | 5, _ => exact h
  | 6, _ => exact h
  | 7, _ => exact (let ⟨g, e, h⟩ := h; ⟨g, e, blk_under h hb⟩)
  | 8, _ => exact h

set_option maxRecDepth 100000 in
set_option maxHeartbeats 2000000 in
theorem l6Dec_any (n : Nat) (w : World) (hn : n ≤ 1000000) :
    Calls Tryz.prog 41 #[.int .i64 n] w fun e w' => e = .returned (.string (decB n)) ∧ Below w.heap.size w w' := by
  induction n using Nat.strongRecOn generalizing w with
  | _ n ih =>
  by_cases h : n < 10
  · have S := Lib.hid (show byte1 (48 + (n : Int)) = decB n by rw [byte1_dig, decB, dec_small h])
    have hcv := fun W => conv_one W (48 + (n : Int)) (by omega) (by omega)
    go_enter Tryz.func41, Tryz.ntmps41
    go_wp2_with fail
    go_ret
    exact ⟨by rw [← S.out]; rfl, below1 _ _⟩
  · have IH := Lib.hid (fun w => ih (n / 10) (by omega) w (by omega))
    have S := Lib.hid (show decB (n / 10) ++ byte1 (48 + (n : Int) % 10) = decB n by
      rw [show (n : Int) % 10 = ((n % 10 : Nat) : Int) by omega, byte1_dig, decB, decB, dec_big h, ByteArray.mk_append_mk])
    have hsz : (decB (n / 10)).size ≤ 1000001 := by
      rw [decB_size]
      have h1 := dec_len (n / 10)
      omega
    have sd : IntKind.i64.wrap ((n : Int) / 10) = ((n / 10 : Nat) : Int) := by rw [IntWalk.i64_in _ (by omega)]; omega
    clear ih
    go_enter Tryz.func41, Tryz.ntmps41
    go_wp2_with fail
    refine wp_region_grow 9 Tryz.mixed (by kernel_rfl) 28 rfl (by kernel_rfl) (decR n w.heap.size) (decR_mono n w.heap.size) ?_ ?_
    · intro i hi o ho a wx Hb Hd hG K HK
      match i, hi with
      | 0, _ =>
        obtain rfl := Option.some.inj ho
        have e0 : a.tmps[0]?.getD undef = .int .i64 n := by rw [Hb.out.2.2 0 (by decide)]; rfl
        clear Hd Hb
        refine Does.of rfl ?_
        go_simp
        exact HK.out _ _ rfl (Below.refl _ _)
      | 1, _ =>
        obtain rfl := Option.some.inj ho
        have d0 := Hd.out 0 (by kernel_rfl)
        change a.tmps[18]?.getD undef = .int .i64 n at d0
        clear Hd Hb
        refine Does.of rfl ?_
        go_simp
        exact HK.out _ _ rfl (Below.refl _ _)
      | 2, _ =>
        obtain rfl := Option.some.inj ho
        have d1 := Hd.out 1 (by kernel_rfl)
        change a.tmps[19]?.getD undef = .int .i64 ((n / 10 : Nat) : Int) at d1
        clear Hd Hb
        refine Does.of rfl ?_
        go_simp
        refine (IH.out _).mono ?_; rintro e w1 ⟨rfl, b1⟩
        exact HK.out _ _ rfl b1
      | 3, _ =>
        obtain rfl := Option.some.inj ho
        have e0 : a.tmps[0]?.getD undef = .int .i64 n := by rw [Hb.out.2.2 0 (by decide)]; rfl
        clear Hd Hb
        refine Does.of rfl ?_
        go_simp
        exact HK.out _ _ rfl (Below.refl _ _)
      | 4, _ =>
        obtain rfl := Option.some.inj ho
        have d3 := Hd.out 3 (by kernel_rfl)
        change a.tmps[21]?.getD undef = .int .i64 n at d3
        clear Hd Hb
        refine Does.of rfl ?_
        go_simp
        exact HK.out _ _ rfl (Below.refl _ _)
      | 5, _ =>
        obtain rfl := Option.some.inj ho
        have d4 := Hd.out 4 (by kernel_rfl)
        change a.tmps[22]?.getD undef = .int .i64 ((n : Int) % 10) at d4
        clear Hd Hb
        have s1 : IntKind.i64.wrap (48 + (n : Int) % 10) = (48 + (n : Int) % 10) := IntWalk.i64_in _ (by omega)
        refine Does.of rfl ?_
        go_simp
        exact HK.out _ _ rfl (Below.refl _ _)
      | 6, _ =>
        obtain rfl := Option.some.inj ho
        have d5 := Hd.out 5 (by kernel_rfl)
        change a.tmps[23]?.getD undef = .int .i64 (48 + (n : Int) % 10) at d5
        clear Hd Hb
        have s1 : IntKind.u8.wrap (48 + (n : Int) % 10) = (48 + (n : Int) % 10) := IntWalk.u8_in _ (by omega)
        refine Does.of rfl ?_
        go_simp
        exact HK.out _ _ rfl (Below.refl _ _)
      | 7, _ =>
        obtain rfl := Option.some.inj ho
        have d6 := Hd.out 6 (by kernel_rfl)
        change a.tmps[24]?.getD undef = .int .u8 (48 + (n : Int) % 10) at d6
        clear Hd Hb
        refine Does.of rfl ?_
        go_simp
        exact HK.out _ _ ⟨_, rfl, heap_alloc_new _ _⟩ (below1 _ _)
      | 8, _ =>
        obtain rfl := Option.some.inj ho
        have d7 := Hd.out 7 (by kernel_rfl)
        change ∃ g : Nat, a.tmps[25]?.getD undef = .slice (some ⟨g, 0, none⟩) 1 1 ∧ wx.heap[g]? = some (.cells #[.int .u8 (48 + (n : Int) % 10)] 5 (0, 0)) at d7
        obtain ⟨g, d7, hg⟩ := d7
        clear Hd Hb
        have hcv := conv_cell wx g _ (by omega) (by omega) hg
        clear hg
        refine Does.of rfl ?_
        go_simp
        exact HK.out _ _ rfl (Below.refl _ _)
    · intro vs wx hR hG
      have q2 := hR 2 (by decide)
      change vs 2 = .string (decB (n / 10)) at q2
      have q8 := hR 8 (by decide)
      change vs 8 = .string (byte1 (48 + (n : Int) % 10)) at q8
      clear hR
      simp only [fillAt, dstOf, List.range, List.range.loop, List.foldl_cons, List.foldl_nil, q2, q8]
      simp
      generalize vs 0 = z0
      generalize vs 1 = z1
      generalize vs 3 = z3
      generalize vs 4 = z4
      generalize vs 5 = z5
      generalize vs 6 = z6
      generalize vs 7 = z7
      clear q2 q8
      have hadd := fun W => run_string_add_sum (P := Tryz.prog) W (decB (n / 10)) (byte1 (48 + (n : Int) % 10)) (by rw [byte1_size]; omega)
      go_wp2_with fail
      go_ret
      exact ⟨by rw [← S.out]; rfl, hG⟩
end Go.Proofs.YtgdehdfbdjgmdaaGreatDoor
