/-
  Walks: a text of calls drawn.
-/
import Derived.Test.YtgdehdfbdjgmdaaGreatDoorDrCs
import Derived.Test.YtgdehdfbdjgmdaaGreatDoorDrC
set_option linter.unusedVariables false
namespace Go.Proofs.YtgdehdfbdjgmdaaGreatDoor
open Go.RowKit

def dCallsParseR (s : ByteArray) (g k lo : Nat) (ix : Nat) (vv : Value) (ww : World) : Prop := match ix with
  | 0 => vv = .string s
  | 1 => vv = .int .i64 k
  | 2 => vv = .string (s.extract 0 k)
  | 3 => vv = .pointer (some ⟨g, 0, none⟩)
  | 4 => ∃ q : Nat, vv = .slice (some ⟨q, 0, none⟩) 6 6 ∧ lo ≤ q ∧ ww.heap[q]? = some (.cells #[.string ⟨#[]⟩, .string ⟨#[32]⟩, .string ⟨#[48]⟩, .string ⟨#[59]⟩, .string ⟨#[47]⟩, .string ⟨#[97]⟩] 9 (0, 0))
  | 5 => ∃ t : ByteArray, vv = .string t ∧ t.size ≤ 1
  | 6 => ∃ t : ByteArray, vv = .string t ∧ t.size ≤ 500 + 1
  | 7 => vv = .string s
  | 8 => vv = .int .i64 k
  | 9 => vv = .pointer (some ⟨g, 0, none⟩)
  | 10 => ∃ x : Nat, vv = .int .i64 x ∧ x ≤ 1
  | 11 => ∃ x : Nat, vv = .int .i64 ((k : Int) + x) ∧ x ≤ 1
  | 12 => ∃ t : ByteArray, vv = .string t ∧ t.size ≤ 500
  | 13 => ∃ t : ByteArray, vv = .string t ∧ t.size ≤ 500 + 500 + 1
  | _ => True
theorem dCallsParseR_keep {s : ByteArray} {g k lo i : Nat} {v : Value} {w w' : World} (h : dCallsParseR s g k lo i v w) (hg : w.grownBy w' (some g)) (hlt : g < lo) : dCallsParseR s g k lo i v w' := by
  match i with
  | 4 => obtain ⟨q, e, h1, h2⟩ := h; exact ⟨q, e, h1, (hg.block q (blk_lt h2) (by simp; omega)).trans h2⟩
  | 0 | 1 | 2 | 3 | 5 | 6 | 7 | 8 | 9 | 10 | 11 | 12 | 13 => exact h
  | _ + 14 => trivial

set_option maxRecDepth 100000 in
set_option maxHeartbeats 4000000 in
theorem DrawCallsParse_any (v : Value) (bs : List Int) (w : World) (h : RdBytes w v bs) :
    Calls Tryz.prog 4 #[v] w fun e w' => (∃ t : ByteArray, e = .returned (.string t) ∧ t.size ≤ 1200) ∧ Below w.heap.size w w' := by
  obtain ⟨a, c, hv, hc, hcm, _⟩ := h.open
  subst hv
  go_enter Tryz.func4, Tryz.ntmps4
  go_wp2_with fail
  refine (l6Open_any _ bs _ h).mono ?_; rintro e w1 ⟨R, rfl, hr, hb⟩
  obtain ⟨g, rfl, hd⟩ := Dr.of hr hb
  clear hr hb
  go_wp2_with fail
  refine (l93Calls_any hd (by omega)).mono ?_; rintro e w2 ⟨u, rfl, ⟨xs, ox, hx, hxl⟩, hd2, hg2⟩
  have R2 := ox.rd
  have T := Lib.hid (fun w' (hb : Below w2.heap.size w2 w') => CallsText_spec u xs w' (R2.below hb) (fun x hm => Nat.le_trans (hx x hm) (by decide)))
  have hsz : (callsB xs).size ≤ 500 := by
    unfold callsB
    split
    · next hf =>
      have h1 := listFit_iff.1 hf
      have := pre_size h1.1
      omega
    · exact Nat.zero_le _
  generalize callsB xs = s at T hsz
  obtain ⟨au, cu, rfl, _, _, _⟩ := ox.rd.open
  clear hd hg2 ox R2
  go_wp2_with fail
  refine (T.out _ (Below.refl _ _)).mono ?_; rintro e w3 ⟨rfl, b3⟩
  have hd3 := (hd2.below b3).mono (M := 198) (by omega)
  clear hd2 b3 T
  by_cases hz : s.size = 0
  · have t0 : ¬ (0 : Int) < s.size := by omega
    have hsz0 := hsz
    clear hz
    go_wp2_with fail
    go_ret
    exact ⟨⟨s, rfl, by omega⟩, hd3.2.1⟩
  have t0 : (0 : Int) < s.size := by omega
  go_wp2_with fail
  refine (hd3.pick _ (by omega) (by decide)).mono ?_; rintro e w4 ⟨z, rfl, z0, z1, hd4, hg4⟩
  by_cases hz0 : z ≠ 0
  · have tz : (z == 0) = false := by simp [hz0]
    go_wp2_with fail
    go_ret
    exact ⟨⟨s, rfl, by omega⟩, hd4.2.1⟩
  have tz : (z == 0) = true := by simp only [ne_eq, Decidable.not_not] at hz0; simp [hz0]
  clear z0 z1 hz0
  go_wp2_with fail
  refine (hd4.pick _ (by omega) (by omega)).mono ?_; rintro e w5 ⟨ki, rfl, k0, k1, hd5, hg5⟩
  replace k1 := k1 t0
  obtain ⟨k, rfl⟩ := Int.eq_ofNat_of_zero_le k0
  have hk : k < s.size := by omega
  clear hd3 hd4 hg4 hg5 k0 k1 tz t0 hz
  go_wp2_with fail
  have hlt := hd5.lt
  have hex : (s.extract 0 k).size ≤ 500 := by simp only [ByteArray.size_extract]; omega
  have C0 : ∀ L : Nat → Bool, ∀ i, i ≠ 5 → i ≠ 10 → drN (upd L i) = drN L := fun L i h1 h2 => by simp [drN, upd, Ne.symm h1, Ne.symm h2]
  have C5 : ∀ L : Nat → Bool, L 5 = false → drN (upd L 5) = drN L + 1 := fun L h => by simp [drN, upd, h]; omega
  have C10 : ∀ L : Nat → Bool, L 10 = false → drN (upd L 10) = drN L + 1 := fun L h => by simp [drN, upd, h]
  have C2 : ∀ L : Nat → Bool, drN L ≤ 2 := fun L => by unfold drN; split <;> split <;> omega
  have HC := Lib.hid (And.intro C0 (And.intro C5 (And.intro C10 C2)))
  clear C0 C5 C10 C2
  have Z := Lib.hid (fun (L : Nat → Bool) (W : World) (i : Nat) (h1 : i ≠ 5) (h2 : i ≠ 10) (h : Dr w g (200 + drN L) W ∧ w5.grownBy W (some g)) => (show Dr w g (200 + drN (upd L i)) W ∧ w5.grownBy W (some g) by rw [HC.out.1 L i h1 h2]; exact h))
  refine wp_region_posts 14 Tryz.mixed (by kernel_rfl) 38 rfl (by kernel_rfl) (dCallsParseR s g k w5.heap.size) (fun L W => Dr w g (200 + drN L) W ∧ w5.grownBy W (some g)) ⟨hd5.below (below_drewN (Below.refl _ _) 1), grown_below (below_drewN (Below.refl _ _) 1) _⟩ ?_ ?_
  · intro i hi o ho a wx Hb Hd L HL hG K HK
    match i, hi with
    | 0, _ =>
      obtain rfl := Option.some.inj ho
      have e4 : a.tmps[4]?.getD undef = .string s := by rw [Hb.out.2.2 4 (by decide)]; rfl
      clear Hd Hb
      refine Does.of rfl ?_
      go_simp
      exact HK.out _ _ rfl (Z.out _ _ _ (by decide) (by decide) hG) (fun j u _ _ _ h => h)
    | 1, _ =>
      obtain rfl := Option.some.inj ho
      have e5 : a.tmps[5]?.getD undef = .int .i64 k := by rw [Hb.out.2.2 5 (by decide)]; rfl
      clear Hd Hb
      refine Does.of rfl ?_
      go_simp
      exact HK.out _ _ rfl (Z.out _ _ _ (by decide) (by decide) hG) (fun j u _ _ _ h => h)
    | 2, _ =>
      obtain rfl := Option.some.inj ho
      have d0 := Hd.out 0 (by kernel_rfl)
      change a.tmps[23]?.getD undef = .string s at d0
      have d1 := Hd.out 1 (by kernel_rfl)
      change a.tmps[24]?.getD undef = .int .i64 k at d1
      clear Hd Hb
      have i1 : (k : Int) ≤ s.size := by omega
      have i0 : (0 : Int) ≤ k := by omega
      refine Does.of rfl ?_
      go_simp
      exact HK.out _ _ rfl (Z.out _ _ _ (by decide) (by decide) hG) (fun j u _ _ _ h => h)
    | 3, _ =>
      obtain rfl := Option.some.inj ho
      have e3 : a.tmps[3]?.getD undef = .pointer (some ⟨g, 0, none⟩) := by rw [Hb.out.2.2 3 (by decide)]; rfl
      clear Hd Hb
      refine Does.of rfl ?_
      go_simp
      exact HK.out _ _ rfl (Z.out _ _ _ (by decide) (by decide) hG) (fun j u _ _ _ h => h)
    | 4, _ =>
      obtain rfl := Option.some.inj ho
      clear Hd Hb
      refine Does.of rfl ?_
      go_simp
      exact HK.out _ _ ⟨_, rfl, hG.2.size, heap_alloc_new _ _⟩ ⟨(Z.out _ _ 4 (by decide) (by decide) hG).1.alloc _, grown_alloc hG.2 _⟩ (fun j u _ _ _ h => dCallsParseR_keep h (grown_below (below1 _ _) _) hlt)
    | 5, _ =>
      obtain rfl := Option.some.inj ho
      have d3 := Hd.out 3 (by kernel_rfl)
      change a.tmps[26]?.getD undef = .pointer (some ⟨g, 0, none⟩) at d3
      have d4 := Hd.out 4 (by kernel_rfl)
      change ∃ q : Nat, a.tmps[27]?.getD undef = .slice (some ⟨q, 0, none⟩) 6 6 ∧ _ ≤ q ∧ _ at d4
      obtain ⟨q, d4, hq, hqb⟩ := d4
      clear Hd Hb
      refine Does.of rfl ?_
      go_simp
      refine (of_any q 6 [⟨#[]⟩, ⟨#[32]⟩, ⟨#[48]⟩, ⟨#[59]⟩, ⟨#[47]⟩, ⟨#[97]⟩] hG.1 (by have := HC.out.2.2.2 L; omega) rfl (by decide) (by decide) (by omega) (blk_lt hqb) (fun j hj => ?_)).mono ?_
      · rw [cell_of_row wx q j _ _ _ hqb]
        have := nthS_lt (ss := [⟨#[]⟩, ⟨#[32]⟩, ⟨#[48]⟩, ⟨#[59]⟩, ⟨#[47]⟩, ⟨#[97]⟩]) hj
        match j, hj with
        | 0, _ => rfl
        | 1, _ => rfl
        | 2, _ => rfl
        | 3, _ => rfl
        | 4, _ => rfl
        | 5, _ => rfl
      · rintro e w6 ⟨v6, rfl, ⟨s6, hs6, rfl⟩, hd6, hg6⟩
        exact HK.out _ _ ⟨s6, rfl, by simp only [List.mem_cons, List.not_mem_nil, or_false] at hs6; rcases hs6 with rfl | rfl | rfl | rfl | rfl | rfl <;> decide⟩ ⟨by rw [HC.out.2.1 L HL.out.1]; exact hd6, grown_trans hG.2 hg6⟩ (fun j u _ _ _ h => dCallsParseR_keep h hg6 hlt)
    | 6, _ =>
      obtain rfl := Option.some.inj ho
      have d2 := Hd.out 2 (by kernel_rfl)
      change a.tmps[25]?.getD undef = .string (s.extract 0 k) at d2
      have d5 := Hd.out 5 (by kernel_rfl)
      change ∃ t : ByteArray, a.tmps[28]?.getD undef = .string t ∧ _ at d5
      obtain ⟨t5, d5, h5⟩ := d5
      clear Hd Hb
      have n1 : ¬ 9223372036854775807 < min k s.size + t5.size := by omega
      refine Does.of rfl ?_
      go_simp
      exact HK.out _ _ ⟨s.extract 0 k ++ t5, rfl, by rw [ByteArray.size_append]; omega⟩ (Z.out _ _ _ (by decide) (by decide) hG) (fun j u _ _ _ h => h)
    | 7, _ =>
      obtain rfl := Option.some.inj ho
      have e4 : a.tmps[4]?.getD undef = .string s := by rw [Hb.out.2.2 4 (by decide)]; rfl
      clear Hd Hb
      refine Does.of rfl ?_
      go_simp
      exact HK.out _ _ rfl (Z.out _ _ _ (by decide) (by decide) hG) (fun j u _ _ _ h => h)
    | 8, _ =>
      obtain rfl := Option.some.inj ho
      have e5 : a.tmps[5]?.getD undef = .int .i64 k := by rw [Hb.out.2.2 5 (by decide)]; rfl
      clear Hd Hb
      refine Does.of rfl ?_
      go_simp
      exact HK.out _ _ rfl (Z.out _ _ _ (by decide) (by decide) hG) (fun j u _ _ _ h => h)
    | 9, _ =>
      obtain rfl := Option.some.inj ho
      have e3 : a.tmps[3]?.getD undef = .pointer (some ⟨g, 0, none⟩) := by rw [Hb.out.2.2 3 (by decide)]; rfl
      clear Hd Hb
      refine Does.of rfl ?_
      go_simp
      exact HK.out _ _ rfl (Z.out _ _ _ (by decide) (by decide) hG) (fun j u _ _ _ h => h)
    | 10, _ =>
      obtain rfl := Option.some.inj ho
      have d9 := Hd.out 9 (by kernel_rfl)
      change a.tmps[32]?.getD undef = .pointer (some ⟨g, 0, none⟩) at d9
      clear Hd Hb
      refine Does.of rfl ?_
      go_simp
      refine (hG.1.pick _ (by have := HC.out.2.2.2 L; omega) (by decide)).mono ?_; rintro e w6 ⟨x, rfl, x0, x1, hd6, hg6⟩
      replace x1 := x1 (by decide)
      obtain ⟨x, rfl⟩ := Int.eq_ofNat_of_zero_le x0
      exact HK.out _ _ ⟨x, rfl, by omega⟩ ⟨by rw [HC.out.2.2.1 L HL.out.1]; exact hd6, grown_trans hG.2 hg6⟩ (fun j u _ _ _ h => dCallsParseR_keep h hg6 hlt)
    | 11, _ =>
      obtain rfl := Option.some.inj ho
      have d8 := Hd.out 8 (by kernel_rfl)
      change a.tmps[31]?.getD undef = .int .i64 k at d8
      have d10 := Hd.out 10 (by kernel_rfl)
      change ∃ x : Nat, a.tmps[33]?.getD undef = .int .i64 x ∧ _ at d10
      obtain ⟨x10, d10, h10⟩ := d10
      clear Hd Hb
      have w1 : IntKind.i64.wrap ((k : Int) + x10) = (k : Int) + x10 := IntWalk.i64_in _ (by omega)
      refine Does.of rfl ?_
      go_simp
      exact HK.out _ _ ⟨x10, rfl, h10⟩ (Z.out _ _ _ (by decide) (by decide) hG) (fun j u _ _ _ h => h)
    | 12, _ =>
      obtain rfl := Option.some.inj ho
      have d7 := Hd.out 7 (by kernel_rfl)
      change a.tmps[30]?.getD undef = .string s at d7
      have d11 := Hd.out 11 (by kernel_rfl)
      change ∃ x : Nat, a.tmps[34]?.getD undef = .int .i64 ((k : Int) + x) ∧ _ at d11
      obtain ⟨x11, d11, h11⟩ := d11
      clear Hd Hb
      have i1 : (0 : Int) ≤ (k : Int) + x11 := by omega
      have i2 : (k : Int) + x11 ≤ s.size := by omega
      refine Does.of rfl ?_
      go_simp
      exact HK.out _ _ ⟨_, rfl, by simp only [ByteArray.size_extract]; omega⟩ (Z.out _ _ _ (by decide) (by decide) hG) (fun j u _ _ _ h => h)
    | 13, _ =>
      obtain rfl := Option.some.inj ho
      have d6 := Hd.out 6 (by kernel_rfl)
      change ∃ t : ByteArray, a.tmps[29]?.getD undef = .string t ∧ _ at d6
      obtain ⟨t6, d6, h6⟩ := d6
      have d12 := Hd.out 12 (by kernel_rfl)
      change ∃ t : ByteArray, a.tmps[35]?.getD undef = .string t ∧ _ at d12
      obtain ⟨t12, d12, h12⟩ := d12
      clear Hd Hb
      have n1 : ¬ 9223372036854775807 < t6.size + t12.size := by omega
      refine Does.of rfl ?_
      go_simp
      exact HK.out _ _ ⟨t6 ++ t12, rfl, by rw [ByteArray.size_append]; omega⟩ (Z.out _ _ _ (by decide) (by decide) hG) (fun j u _ _ _ h => h)
  · intro vs wx hR L hL hG
    have q13 := hR 13 (by decide)
    change ∃ t : ByteArray, vs 13 = .string t ∧ _ at q13
    obtain ⟨t13, q13, h13⟩ := q13
    clear hR
    simp only [fillAt, dstOf, List.range, List.range.loop, List.foldl_cons, List.foldl_nil, q13]
    simp
    generalize vs 0 = y0
    generalize vs 1 = y1
    generalize vs 2 = y2
    generalize vs 3 = y3
    generalize vs 4 = y4
    generalize vs 5 = y5
    generalize vs 6 = y6
    generalize vs 7 = y7
    generalize vs 8 = y8
    generalize vs 9 = y9
    generalize vs 10 = y10
    generalize vs 11 = y11
    generalize vs 12 = y12
    have B := Lib.hid hG.1.2.1
    clear hG q13 Z HC
    go_wp2_with fail
    go_ret
    exact ⟨⟨t13, rfl, by omega⟩, B.out⟩
end Go.Proofs.YtgdehdfbdjgmdaaGreatDoor
