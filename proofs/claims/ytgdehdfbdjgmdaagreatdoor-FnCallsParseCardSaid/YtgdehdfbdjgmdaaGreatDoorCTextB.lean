/-
  Walks: the text of a call, by the program.
-/
import Derived.Test.YtgdehdfbdjgmdaaGreatDoorCTextA
set_option linter.unusedVariables false
namespace Go.Proofs.YtgdehdfbdjgmdaaGreatDoor
open Go.RowKit Go.Shelf

theorem sz32 : (⟨#[32]⟩ : ByteArray).size = 1 := rfl
theorem sz47 : (⟨#[32, 47]⟩ : ByteArray).size = 2 := rfl
theorem blk_lt1 {w w' : World} {g : Nat} {o : Obj} (hb : Below w.heap.size w w') (h : w.heap[g]? = some o) : g < w'.heap.size := Nat.lt_of_lt_of_le (Array.getElem?_eq_some_iff.1 h).1 hb.size
def cwR (k : Nat) (w : World) (ix : Nat) (vv : Value) (ww : World) : Prop := match ix with
  | 0 => ∃ g : Nat, vv = .slice (some ⟨g, 0, none⟩) 11 11 ∧ ww.heap[g]? = some (.cells kindArr 9 (0, 0))
  | 1 => vv = .pointer (some ⟨w.heap.size, 0, none⟩)
  | 2 => vv = .int .i64 k
  | 3 => vv = .int .i64 ((k : Int) - 1)
  | _ => True
theorem cwR_mono (k : Nat) (w : World) : ∀ i, i < 4 → ∀ vv ww ww', Below ww.heap.size ww ww' → cwR k w i vv ww → cwR k w i vv ww' := by
  intro i hi vv ww ww' hb h
  match i, hi with
  | 0, _ => exact (let ⟨g, e, h⟩ := h; ⟨g, e, blk_under h hb⟩)
  | 1, _ => exact h
  | 2, _ => exact h
  | 3, _ => exact h

set_option maxRecDepth 1000000 in
set_option maxHeartbeats 8000000 in
theorem callText_any (k e a b c : Nat) (nm : ByteArray) (w : World) (hk : 1 ≤ k ∧ k ≤ 11) (he : e ≤ 9999) (ha : a ≤ 9999) (hb : b ≤ 9999) (hc : c ≤ 9999) (hn : nm.size ≤ 4) (ht : Tabs w) :
    Calls Tryz.prog 20 #[(CallV.mk k e a b c nm).val] w fun e' w' => e' = .returned (.string (callB ⟨k, e, a, b, c, nm⟩)) ∧ Below w.heap.size w w' := by
  simp only [CallV.val, CallV.cells]
  have P := Lib.hid (call_put' k e a b c nm)
  have s1 := kindB_size hk.2
  have s2 := decB_size4 he
  have s3 := decB_size4 ha
  have s4 := decB_size4 hb
  have s5 := decB_size4 hc
  have HW := Lib.hid (below1 w (.cells #[.int .i64 k, .int .i64 e, .int .i64 a, .int .i64 b, .int .i64 c, .string nm] 30))
  have HT := Lib.hid (ht.below HW.out)
  have HN := Lib.hid (heap_alloc_new w (.cells #[.int .i64 k, .int .i64 e, .int .i64 a, .int .i64 b, .int .i64 c, .string nm] 30))
  have C0' : Hid (∀ wx, Below (w.alloc (.cells #[.int .i64 k, .int .i64 e, .int .i64 a, .int .i64 b, .int .i64 c, .string nm] 30)).heap.size (w.alloc (.cells #[.int .i64 k, .int .i64 e, .int .i64 a, .int .i64 b, .int .i64 c, .string nm] 30)) wx → wx.cell? ⟨w.heap.size, 0, none⟩ = some (.int .i64 k)) := Lib.hid (fun wx h => cell_of_row wx _ 0 _ _ _ ((h.block _ (by simp)).trans HN.out))
  clear ht
  go_enter Tryz.func20, Tryz.ntmps20
  go_wp2_with fail
  refine wp_region_grow 4 Tryz.mixed (by kernel_rfl) 37 rfl (by kernel_rfl) (cwR k w) (cwR_mono k w) ?_ ?_
  · intro i hi o ho a wx Hb Hd hG K HK
    match i, hi with
    | 0, _ =>
      obtain rfl := Option.some.inj ho
      clear Hd Hb
      refine Does.of rfl ?_
      go_simp
      refine (callWords_any _).mono ?_; rintro e' w1 ⟨rfl, hw1⟩
      exact HK.out _ _ ⟨_, rfl, hw1 ▸ heap_alloc_new _ _⟩ (hw1 ▸ below1 _ _)
    | 1, _ =>
      obtain rfl := Option.some.inj ho
      have e1 : a.tmps[1]?.getD undef = .pointer (some ⟨w.heap.size, 0, none⟩) := by rw [Hb.out.2.2 1 (by decide)]; rfl
      clear Hd Hb
      refine Does.of rfl ?_
      go_simp
      exact HK.out _ _ rfl (Below.refl _ _)
    | 2, _ =>
      obtain rfl := Option.some.inj ho
      have d1 := Hd.out 1 (by kernel_rfl)
      change a.tmps[7]?.getD undef = .pointer (some ⟨w.heap.size, 0, none⟩) at d1
      clear Hd Hb
      have C0 := C0'.out wx hG
      refine Does.of rfl ?_
      go_simp
      exact HK.out _ _ rfl (Below.refl _ _)
    | 3, _ =>
      obtain rfl := Option.some.inj ho
      have d2 := Hd.out 2 (by kernel_rfl)
      change a.tmps[8]?.getD undef = .int .i64 k at d2
      clear Hd Hb
      have s9 : IntKind.i64.wrap ((k : Int) - 1) = (k : Int) - 1 := IntWalk.i64_in _ (by omega)
      refine Does.of rfl ?_
      go_simp
      exact HK.out _ _ rfl (Below.refl _ _)
  · intro vs wx hR hG
    have q0 := hR 0 (by decide)
    change ∃ g : Nat, vs 0 = .slice (some ⟨g, 0, none⟩) 11 11 ∧ wx.heap[g]? = some (.cells kindArr 9 (0, 0)) at q0
    obtain ⟨g, q0, hg⟩ := q0
    have q3 := hR 3 (by decide)
    change vs 3 = .int .i64 ((k : Int) - 1) at q3
    clear hR
    simp only [fillAt, dstOf, List.range, List.range.loop, List.foldl_cons, List.foldl_nil, q3]
    simp
    generalize vs 0 = z0 at q0 ⊢
    subst q0
    generalize vs 1 = z1
    generalize vs 2 = z2
    clear q3
    have E0 := cell_at_arr hk hg
    have i1 : (0 : Int) ≤ (k : Int) - 1 := by omega
    have i2 : (k : Int) - 1 < 11 := by omega
    have i3 : ((k : Int) - 1).toNat = k - 1 := by omega
    have hB := Lib.hid hG
    have HE := Lib.hid ((hG.block _ (by simp)).trans HN.out)
    have d1 := cell_of_row wx _ 1 _ _ _ HE.out
    have d2 := cell_of_row wx _ 2 _ _ _ HE.out
    have d3 := cell_of_row wx _ 3 _ _ _ HE.out
    have d4 := cell_of_row wx _ 4 _ _ _ HE.out
    have T0 := Lib.hid (HT.out.below hG)
    clear hg hG C0' HN HT
    go_wp2_with fail
    clear d1 d2 d3 d4
    refine wp_loop_rounds 5 ?_
    rw [rounds_succ]
    have a0 := fun W => run_string_add_sum (P := Tryz.prog) W ⟨#[32]⟩ (decB e) (by have q1 := sz32; have q2 := sz47; first | (simp only [ByteArray.size_append]; omega) | omega)
    have b0 := fun W => run_string_add_sum (P := Tryz.prog) W ((kindB k)) (⟨#[32]⟩ ++ decB e) (by have q1 := sz32; have q2 := sz47; first | (simp only [ByteArray.size_append]; omega) | omega)
    go_wp2_with fail
    refine (Itoa_any e _ (by omega) (T0.out.below (below1 _ _))).mono ?_; rintro e' x1 ⟨rfl, y0⟩
    have T1 := Lib.hid ((T0.out.below (below1 _ _)).below y0)
    have HL1 := Lib.hid ((y0.block _ (by simp)).trans (heap_alloc_new wx (.cells #[.int .i64 e, .int .i64 a, .int .i64 b, .int .i64 c] 3)))
    have HE1 := Lib.hid ((y0.block _ (blk_lt1 (below1 wx _) HE.out)).trans (blk_under HE.out (below1 wx _)))
    have Y1 := Lib.hid (hB.out.trans (((below1 wx _).trans (y0.mono (below1 wx _).size)).mono hB.out.size))
    clear y0
    go_wp2_with fail
    clear a0 b0
    rw [rounds_succ]
    have r1 : x1.cell? ⟨wx.heap.size, 1, none⟩ = some (.int .i64 a) := cell_of_row x1 _ 1 _ _ _ HL1.out
    have a1 := fun W => run_string_add_sum (P := Tryz.prog) W ⟨#[32]⟩ (decB a) (by have q1 := sz32; have q2 := sz47; first | (simp only [ByteArray.size_append]; omega) | omega)
    have b1 := fun W => run_string_add_sum (P := Tryz.prog) W ((kindB k) ++ (⟨#[32]⟩ ++ decB e)) (⟨#[32]⟩ ++ decB a) (by have q1 := sz32; have q2 := sz47; first | (simp only [ByteArray.size_append]; omega) | omega)
    go_wp2_with fail
    refine (Itoa_any a _ (by omega) T1.out).mono ?_; rintro e' x2 ⟨rfl, y1⟩
    have T2 := Lib.hid (T1.out.below y1)
    have HL2 := Lib.hid (blk_under HL1.out y1)
    have HE2 := Lib.hid (blk_under HE1.out y1)
    have Y2 := Lib.hid (Y1.out.trans (y1.mono Y1.out.size))
    clear y1 r1
    go_wp2_with fail
    clear a1 b1
    rw [rounds_succ]
    have r2 : x2.cell? ⟨wx.heap.size, 2, none⟩ = some (.int .i64 b) := cell_of_row x2 _ 2 _ _ _ HL2.out
    have a2 := fun W => run_string_add_sum (P := Tryz.prog) W ⟨#[32]⟩ (decB b) (by have q1 := sz32; have q2 := sz47; first | (simp only [ByteArray.size_append]; omega) | omega)
    have b2 := fun W => run_string_add_sum (P := Tryz.prog) W ((kindB k) ++ (⟨#[32]⟩ ++ decB e) ++ (⟨#[32]⟩ ++ decB a)) (⟨#[32]⟩ ++ decB b) (by have q1 := sz32; have q2 := sz47; first | (simp only [ByteArray.size_append]; omega) | omega)
    go_wp2_with fail
    refine (Itoa_any b _ (by omega) T2.out).mono ?_; rintro e' x3 ⟨rfl, y2⟩
    have T3 := Lib.hid (T2.out.below y2)
    have HL3 := Lib.hid (blk_under HL2.out y2)
    have HE3 := Lib.hid (blk_under HE2.out y2)
    have Y3 := Lib.hid (Y2.out.trans (y2.mono Y2.out.size))
    clear y2 r2
    go_wp2_with fail
    clear a2 b2
    rw [rounds_succ]
    have r3 : x3.cell? ⟨wx.heap.size, 3, none⟩ = some (.int .i64 c) := cell_of_row x3 _ 3 _ _ _ HL3.out
    have a3 := fun W => run_string_add_sum (P := Tryz.prog) W ⟨#[32]⟩ (decB c) (by have q1 := sz32; have q2 := sz47; first | (simp only [ByteArray.size_append]; omega) | omega)
    have b3 := fun W => run_string_add_sum (P := Tryz.prog) W ((kindB k) ++ (⟨#[32]⟩ ++ decB e) ++ (⟨#[32]⟩ ++ decB a) ++ (⟨#[32]⟩ ++ decB b)) (⟨#[32]⟩ ++ decB c) (by have q1 := sz32; have q2 := sz47; first | (simp only [ByteArray.size_append]; omega) | omega)
    go_wp2_with fail
    refine (Itoa_any c _ (by omega) T3.out).mono ?_; rintro e' x4 ⟨rfl, y3⟩
    have T4 := Lib.hid (T3.out.below y3)
    have HL4 := Lib.hid (blk_under HL3.out y3)
    have HE4 := Lib.hid (blk_under HE3.out y3)
    have Y4 := Lib.hid (Y3.out.trans (y3.mono Y3.out.size))
    clear y3 r3
    go_wp2_with fail
    clear a3 b3
    have r5 := cell_of_row x4 _ 5 _ _ _ HE4.out
    have a5 := fun W => run_string_add_sum (P := Tryz.prog) W ((kindB k) ++ (⟨#[32]⟩ ++ decB e) ++ (⟨#[32]⟩ ++ decB a) ++ (⟨#[32]⟩ ++ decB b) ++ (⟨#[32]⟩ ++ decB c)) ⟨#[32, 47]⟩ (by have q1 := sz32; have q2 := sz47; first | (simp only [ByteArray.size_append]; omega) | omega)
    have b5 := fun W => run_string_add_sum (P := Tryz.prog) W ((kindB k) ++ (⟨#[32]⟩ ++ decB e) ++ (⟨#[32]⟩ ++ decB a) ++ (⟨#[32]⟩ ++ decB b) ++ (⟨#[32]⟩ ++ decB c) ++ ⟨#[32, 47]⟩) nm (by have q1 := sz32; have q2 := sz47; first | (simp only [ByteArray.size_append]; omega) | omega)
    rw [rounds_succ]
    go_wp2_with fail
    go_ret
    exact ⟨by rw [← P.out]; rfl, HW.out.trans (Y4.out.mono HW.out.size)⟩

set_option maxRecDepth 1000000 in
set_option maxHeartbeats 4000000 in
theorem CallText_impl (x : CallV) (w : World) (hs : x.nm.size ≤ maxLen) (ht : Tabs w) :
    Calls Tryz.prog 8 #[x.val] w fun e w' => e = .returned (.string (textB x)) ∧ Below w.heap.size w w' := by
  have F := Lib.hid (fun w => CallFits_impl x w hs)
  cases hf : fitsC x
  · have T := Lib.hid (show textB x = ⟨#[]⟩ by simp [textB, hf])
    rw [hf] at F
    clear hf
    obtain ⟨k, e, a, b, c, nm⟩ := x
    simp only [CallV.val, CallV.cells] at F ⊢
    have B1 := Lib.hid (below1 w (.cells #[.int .i64 k, .int .i64 e, .int .i64 a, .int .i64 b, .int .i64 c, .string nm] 30))
    go_enter Tryz.func8, Tryz.ntmps8
    go_wp2_with fail
    refine (F.out _).mono ?_; rintro e' w1 ⟨rfl, b1⟩
    go_wp2_with fail
    go_ret
    exact ⟨by rw [T.out]; rfl, B1.out.trans (b1.mono (by simp))⟩
  · obtain ⟨k, e, a, b, c, hx, hk1, hk2, he, ha, hb, hc, hn, _⟩ := fits_ranges hf
    have T := Lib.hid (show textB x = callB x by simp [textB, hf])
    rw [hf] at F
    clear hf
    obtain ⟨k', e', a', b', c', nm⟩ := x
    simp only [CallV.mk.injEq, and_true] at hx
    obtain ⟨rfl, rfl, rfl, rfl, rfl⟩ := hx
    have C := Lib.hid (fun w h => callText_any k e a b c nm w ⟨hk1, hk2⟩ (by omega) ha hb hc hn h)
    simp only [CallV.val, CallV.cells] at F C ⊢
    have HB := Lib.hid (below1 w (.cells #[.int .i64 k, .int .i64 e, .int .i64 a, .int .i64 b, .int .i64 c, .string nm] 30))
    have HN := Lib.hid (heap_alloc_new w (.cells #[.int .i64 k, .int .i64 e, .int .i64 a, .int .i64 b, .int .i64 c, .string nm] 30))
    go_enter Tryz.func8, Tryz.ntmps8
    go_wp2_with fail
    refine (F.out _).mono ?_; rintro e' w1 ⟨rfl, b1⟩
    have B1 := Lib.hid (HB.out.trans (b1.mono (by simp)))
    have N1 := (b1.block w.heap.size (by simp)).trans HN.out
    have HT := Lib.hid (ht.below B1.out)
    have k0 := cell_of_row w1 _ 0 _ _ _ N1
    have k1 := cell_of_row w1 _ 1 _ _ _ N1
    have k2 := cell_of_row w1 _ 2 _ _ _ N1
    have k3 := cell_of_row w1 _ 3 _ _ _ N1
    have k4 := cell_of_row w1 _ 4 _ _ _ N1
    have k5 := cell_of_row w1 _ 5 _ _ _ N1
    clear N1 b1 HB HN F
    go_wp2_with fail
    refine (C.out _ HT.out).mono ?_; rintro e' w2 ⟨rfl, b2⟩
    clear k0 k1 k2 k3 k4 k5
    go_wp2_with fail
    go_ret
    exact ⟨by rw [T.out]; rfl, B1.out.trans (b2.mono B1.out.size)⟩
end Go.Proofs.YtgdehdfbdjgmdaaGreatDoor
