/-
  Walks of a slice that is given: the program's and the reference's.
-/
import Derived.Test.YtpkbfkolllcjgaaApp
import Derived.Test.YtpkbfkolllcjgaaSl4
namespace Go.Proofs.Ytpkbfkolllcjgaa
open Go.RowKit

def giveOk (xs : List Int) (at_ env : Int) : Bool :=
  slicesOk xs && inB at_ 0 (xs.length - 1) && inB env (-1) 2 && !(env != -1 && nth xs at_.toNat != -1 && nth xs at_.toNat != env)
def giveList (xs : List Int) (at_ env : Int) : List Int := if giveOk xs at_ env = true then xs.set at_.toNat env else []

theorem giveOk_no1 {xs : List Int} {at_ env : Int} (h : slicesOk xs = false) : giveOk xs at_ env = false := by simp [giveOk, h]
theorem giveOk_no2 {xs : List Int} {at_ env : Int} (h : inB at_ 0 (xs.length - 1) = false) : giveOk xs at_ env = false := by simp [giveOk, h]
theorem giveOk_no3 {xs : List Int} {at_ env : Int} (h : inB env (-1) 2 = false) : giveOk xs at_ env = false := by simp [giveOk, h]
theorem giveOk_no4 {xs : List Int} {a : Nat} {env : Int} (h : env ≠ -1 ∧ nth xs a ≠ -1 ∧ nth xs a ≠ env) : giveOk xs a env = false := by simp [giveOk, h]
theorem giveOk_yes {xs : List Int} {a : Nat} {env : Int} (h1 : slicesOk xs = true) (h2 : inB a 0 (xs.length - 1) = true) (h3 : inB env (-1) 2 = true) (h : ¬ (env ≠ -1 ∧ nth xs a ≠ -1 ∧ nth xs a ≠ env)) : giveOk xs a env = true := by
  simp only [giveOk, h1, h2, h3, Bool.true_and, Int.toNat_natCast]
  by_cases q1 : env = -1
  · simp [q1]
  · by_cases q2 : nth xs a = -1
    · simp [q2]
    · by_cases q3 : nth xs a = env
      · simp [q3]
      · exact absurd ⟨q1, q2, q3⟩ h
theorem giveList_no {xs : List Int} {at_ env : Int} (h : giveOk xs at_ env = false) : giveList xs at_ env = [] := by simp [giveList, h]
theorem giveList_yes {xs : List Int} {a : Nat} {env : Int} (h : giveOk xs a env = true) : giveList xs a env = xs.set a env := by simp [giveList, h]

theorem own_shape {w : World} {lo e sz n : Nat} {v : Value} {xs : List Value} (h : w.ownsRow lo e sz v n xs) (hn : 0 < n) : ∃ g cap, v = .slice (some ⟨g, 0, none⟩) n cap ∧ lo ≤ g ∧ g < w.heap.size := by
  have hlt := h.lt
  rcases h.2 with ⟨_, rfl⟩ | ⟨g, cap, cur, rfl, hb, hg, _⟩
  · omega
  · exact ⟨g, cap, rfl, hb, (hlt g rfl).2⟩
theorem getElem_ints {xs : List Int} {a : Nat} (h : a < xs.length) : (xs.map (Value.int .i64))[a]? = some (.int .i64 (nth xs a)) := by
  rw [List.getElem?_map, nth_lt h]; rfl
theorem own_set {lo : Nat} {w : World} {v : Value} {xs : List Int} {a : Nat} {x : Int} (h : w.ownsRow lo 3 1 v xs.length ((xs.map (Value.int .i64)).set a (.int .i64 x))) : OwnInts lo w v (xs.set a x) := by
  unfold OwnInts
  rw [List.length_set, List.map_set]
  exact h

set_option maxHeartbeats 2000000 in
theorem SlicesGive_impl (v : Value) (xs : List Int) (at_ env : Int) (w : World) (h : RdInts w v xs) :
    Calls Try.prog 25 #[v, .int .i64 at_, .int .i64 env] w fun e w' => ∃ v', e = .returned (.tuple #[v', .bool (giveOk xs at_ env)]) ∧ OwnInts w.heap.size w' v' (giveList xs at_ env) ∧ Below w.heap.size w w' := by
  cases h1 : slicesOk xs
  · have Hb := giveOk_no1 (at_ := at_) (env := env) h1
    rw [giveList_no Hb, Hb]
    clear Hb
    have H1 := Lib.hid h1; clear h1
    go_enter Try.func25, Try.ntmps25
    go_wp2_with (first | (go_at_call 18; refine (SlicesValid_impl _ xs _ h).mono ?_; rintro e w' ⟨rfl, rfl⟩; rw [H1.out]))
    go_ret2
    exact ⟨_, rfl, World.ownsRow_nil _ _ _ _, Below.refl _ _⟩
  obtain ⟨hl1, hl2⟩ := slicesOk_len h1
  cases h2 : inB at_ 0 (xs.length - 1)
  · have Hb := giveOk_no2 (env := env) h2
    rw [giveList_no Hb, Hb]
    clear Hb
    have H1 := Lib.hid h1; clear h1
    have H2 := Lib.hid h2; clear h2
    obtain ⟨ad, c, rfl, hc, hcm, H⟩ := h.open
    unfold maxLen at hcm
    go_enter Try.func25, Try.ntmps25
    go_wp2_with (first | (go_at_call 18; refine (SlicesValid_impl _ xs _ h).mono ?_; rintro e w' ⟨rfl, rfl⟩; rw [H1.out]) | (go_at_call 37; refine (within_any _ _ _ _).mono ?_; rintro e w' ⟨rfl, rfl⟩; rw [H2.out]))
    go_ret2
    exact ⟨_, rfl, World.ownsRow_nil _ _ _ _, Below.refl _ _⟩
  cases h3 : inB env (-1) 2
  · have Hb := giveOk_no3 (xs := xs) (at_ := at_) h3
    rw [giveList_no Hb, Hb]
    clear Hb
    have H1 := Lib.hid h1; clear h1
    have H2 := Lib.hid h2; clear h2
    have H3 := Lib.hid h3; clear h3
    obtain ⟨ad, c, rfl, hc, hcm, H⟩ := h.open
    unfold maxLen at hcm
    go_enter Try.func25, Try.ntmps25
    go_wp2_with (first | (go_at_call 18; refine (SlicesValid_impl _ xs _ h).mono ?_; rintro e w' ⟨rfl, rfl⟩; rw [H1.out]) | (go_at_call 37; refine (within_any _ _ _ _).mono ?_; rintro e w' ⟨rfl, rfl⟩; rw [H2.out]) | (go_at_call 40; refine (isSlice_any _ _).mono ?_; rintro e w' ⟨rfl, rfl⟩; rw [H3.out]))
    go_ret2
    exact ⟨_, rfl, World.ownsRow_nil _ _ _ _, Below.refl _ _⟩
  obtain ⟨ha0, ha1⟩ := inB_iff.1 h2
  obtain ⟨a, rfl⟩ := Int.eq_ofNat_of_zero_le ha0
  have ha : a < xs.length := by omega
  by_cases hno : env ≠ -1 ∧ nth xs a ≠ -1 ∧ nth xs a ≠ env
  · have Hb := giveOk_no4 hno
    rw [giveList_no Hb, Hb]
    clear Hb
    obtain ⟨n1, n2, n3⟩ := hno
    have t1 : (env != -1) = true := by simp [n1]
    have t2 : (nth xs a != -1) = true := by simp [n2]
    have t3 : (nth xs a != env) = true := by simp [n3]
    clear n1 n2 n3
    have H1 := Lib.hid h1; clear h1
    have H2 := Lib.hid h2; clear h2
    have H3 := Lib.hid h3; clear h3
    obtain ⟨ad, c, rfl, hc, hcm, H⟩ := h.open
    unfold maxLen at hcm
    obtain ⟨b, off, rfl, D⟩ := H.at ha
    go_enter Try.func25, Try.ntmps25
    go_wp2_with (first | (go_at_call 18; refine (SlicesValid_impl _ xs _ h).mono ?_; rintro e w' ⟨rfl, rfl⟩; rw [H1.out]) | (go_at_call 37; refine (within_any _ _ _ _).mono ?_; rintro e w' ⟨rfl, rfl⟩; rw [H2.out]) | (go_at_call 40; refine (isSlice_any _ _).mono ?_; rintro e w' ⟨rfl, rfl⟩; rw [H3.out]))
    go_ret2
    exact ⟨_, rfl, World.ownsRow_nil _ _ _ _, Below.refl _ _⟩
  · have Hb := giveOk_yes h1 h2 h3 hno
    rw [giveList_yes Hb, Hb]
    clear Hb
    have H1 := Lib.hid h1; clear h1
    have H2 := Lib.hid h2; clear h2
    have H3 := Lib.hid h3; clear h3
    obtain ⟨ad, c, hv, hc, hcm, H⟩ := h.open
    unfold maxLen at hcm
    obtain ⟨b, off, rfl, D⟩ := H.at ha
    have hway : (env = -1 ∧ (nth xs a != -1) = true) ∨ (env = -1 ∧ (nth xs a != -1) = false) ∨ ((env != -1) = true ∧ (nth xs a != -1) = false) ∨ ((env != -1) = true ∧ (nth xs a != -1) = true ∧ (nth xs a != env) = false) := by
      by_cases q1 : env = -1
      · by_cases q2 : nth xs a = -1
        · exact .inr (.inl ⟨q1, by simp [q2]⟩)
        · exact .inl ⟨q1, by simp [q2]⟩
      · by_cases q2 : nth xs a = -1
        · exact .inr (.inr (.inl ⟨by simp [q1], by simp [q2]⟩))
        · by_cases q3 : nth xs a = env
          · exact .inr (.inr (.inr ⟨by simp [q1], by simp [q2], by simp [q3]⟩))
          · exact absurd ⟨q1, q2, q3⟩ hno
    clear hno
    subst hv
    rcases hway with ⟨rfl, t2⟩ | ⟨rfl, t2⟩ | ⟨t1, t2⟩ | ⟨t1, t2, t3⟩
    all_goals
      go_enter Try.func25, Try.ntmps25
      go_wp2_with (first | (go_at_call 18; refine (SlicesValid_impl _ xs _ h).mono ?_; rintro e w' ⟨rfl, rfl⟩; rw [H1.out]) | (go_at_call 37; refine (within_any _ _ _ _).mono ?_; rintro e w' ⟨rfl, rfl⟩; rw [H2.out]) | (go_at_call 40; refine (isSlice_any _ _).mono ?_; rintro e w' ⟨rfl, rfl⟩; rw [H3.out]) | (go_at_call 43; refine (CloneInts_any _ xs _ h (by omega)).mono ?_; rintro e w1 ⟨v1, rfl, hown, hbel⟩; obtain ⟨g, cap, rfl, hg, hg2⟩ := own_shape hown (by omega); have C := (hown.cellAt a (by omega)).trans (getElem_ints ha); have Fr := hown.frozenAt a))
      all_goals
        go_ret2
        exact ⟨_, rfl, own_set (hown.stored a _).1, Below.of_grown_row hbel (hown.stored a _).2 hbel.size hg⟩

set_option maxHeartbeats 2000000 in
theorem SlicesGive_spec (v : Value) (xs : List Int) (at_ env : Int) (w : World) (h : RdInts w v xs) :
    Calls Try.prog 24 #[v, .int .i64 at_, .int .i64 env] w fun e w' => ∃ v', e = .returned (.tuple #[v', .bool (giveOk xs at_ env)]) ∧ OwnInts w.heap.size w' v' (giveList xs at_ env) ∧ Below w.heap.size w w' := by
  cases h1 : slicesOk xs
  · have Hb := giveOk_no1 (at_ := at_) (env := env) h1
    rw [giveList_no Hb, Hb]
    clear Hb
    have H1 := Lib.hid h1; clear h1
    go_enter Try.func24, Try.ntmps24
    go_wp2_with (first | (go_at_call 16; refine (SlicesValid_spec _ xs _ h).mono ?_; rintro e w' ⟨rfl, rfl⟩; rw [H1.out]))
    go_ret2
    exact ⟨_, rfl, ownsRow_empty _ _ _, (Below.refl _ _).alloc (Nat.le_refl _) _⟩
  obtain ⟨hl1, hl2⟩ := slicesOk_len h1
  cases h2 : inB at_ 0 (xs.length - 1)
  · have Hb := giveOk_no2 (env := env) h2
    rw [giveList_no Hb, Hb]
    clear Hb
    have H1 := Lib.hid h1; clear h1
    have H2 := Lib.hid h2; clear h2
    obtain ⟨ad, c, rfl, hc, hcm, H⟩ := h.open
    unfold maxLen at hcm
    go_enter Try.func24, Try.ntmps24
    go_wp2_with (first | (go_at_call 16; refine (SlicesValid_spec _ xs _ h).mono ?_; rintro e w' ⟨rfl, rfl⟩; rw [H1.out]) | (go_at_call 36; refine (l6In_any _ _ _ _).mono ?_; rintro e w' ⟨rfl, rfl⟩; rw [H2.out]))
    go_ret2
    exact ⟨_, rfl, ownsRow_empty _ _ _, (Below.refl _ _).alloc (Nat.le_refl _) _⟩
  cases h3 : inB env (-1) 2
  · have Hb := giveOk_no3 (xs := xs) (at_ := at_) h3
    rw [giveList_no Hb, Hb]
    clear Hb
    have H1 := Lib.hid h1; clear h1
    have H2 := Lib.hid h2; clear h2
    have H3 := Lib.hid h3; clear h3
    obtain ⟨ad, c, rfl, hc, hcm, H⟩ := h.open
    unfold maxLen at hcm
    go_enter Try.func24, Try.ntmps24
    go_wp2_with (first | (go_at_call 16; refine (SlicesValid_spec _ xs _ h).mono ?_; rintro e w' ⟨rfl, rfl⟩; rw [H1.out]) | (go_at_call 36; refine (l6In_any _ _ _ _).mono ?_; rintro e w' ⟨rfl, rfl⟩; rw [H2.out]) | (go_at_call 36; refine (l6In_any _ _ _ _).mono ?_; rintro e w' ⟨rfl, rfl⟩; rw [H3.out]))
    go_ret2
    exact ⟨_, rfl, ownsRow_empty _ _ _, (Below.refl _ _).alloc (Nat.le_refl _) _⟩
  obtain ⟨ha0, ha1⟩ := inB_iff.1 h2
  obtain ⟨a, rfl⟩ := Int.eq_ofNat_of_zero_le ha0
  have ha : a < xs.length := by omega
  by_cases hno : env ≠ -1 ∧ nth xs a ≠ -1 ∧ nth xs a ≠ env
  · have Hb := giveOk_no4 hno
    rw [giveList_no Hb, Hb]
    clear Hb
    obtain ⟨n1, n2, n3⟩ := hno
    have t1 : (env != -1) = true := by simp [n1]
    have t2 : (nth xs a != -1) = true := by simp [n2]
    have t3 : (nth xs a != env) = true := by simp [n3]
    clear n1 n2 n3
    have H1 := Lib.hid h1; clear h1
    have H2 := Lib.hid h2; clear h2
    have H3 := Lib.hid h3; clear h3
    obtain ⟨ad, c, rfl, hc, hcm, H⟩ := h.open
    unfold maxLen at hcm
    obtain ⟨b, off, rfl, D⟩ := H.at ha
    go_enter Try.func24, Try.ntmps24
    go_wp2_with (first | (go_at_call 16; refine (SlicesValid_spec _ xs _ h).mono ?_; rintro e w' ⟨rfl, rfl⟩; rw [H1.out]) | (go_at_call 36; refine (l6In_any _ _ _ _).mono ?_; rintro e w' ⟨rfl, rfl⟩; rw [H2.out]) | (go_at_call 36; refine (l6In_any _ _ _ _).mono ?_; rintro e w' ⟨rfl, rfl⟩; rw [H3.out]))
    go_ret2
    exact ⟨_, rfl, ownsRow_empty _ _ _, (Below.refl _ _).alloc (Nat.le_refl _) _⟩
  · have Hb := giveOk_yes h1 h2 h3 hno
    rw [giveList_yes Hb, Hb]
    clear Hb
    have H1 := Lib.hid h1; clear h1
    have H2 := Lib.hid h2; clear h2
    have H3 := Lib.hid h3; clear h3
    obtain ⟨ad, c, hv, hc, hcm, H⟩ := h.open
    unfold maxLen at hcm
    obtain ⟨b, off, rfl, D⟩ := H.at ha
    have hway : (env = -1 ∧ (nth xs a != -1) = true) ∨ (env = -1 ∧ (nth xs a != -1) = false) ∨ ((env != -1) = true ∧ (nth xs a != -1) = false) ∨ ((env != -1) = true ∧ (nth xs a != -1) = true ∧ (nth xs a != env) = false) := by
      by_cases q1 : env = -1
      · by_cases q2 : nth xs a = -1
        · exact .inr (.inl ⟨q1, by simp [q2]⟩)
        · exact .inl ⟨q1, by simp [q2]⟩
      · by_cases q2 : nth xs a = -1
        · exact .inr (.inr (.inl ⟨by simp [q1], by simp [q2]⟩))
        · by_cases q3 : nth xs a = env
          · exact .inr (.inr (.inr ⟨by simp [q1], by simp [q2], by simp [q3]⟩))
          · exact absurd ⟨q1, q2, q3⟩ hno
    clear hno
    subst hv
    rcases hway with ⟨rfl, t2⟩ | ⟨rfl, t2⟩ | ⟨t1, t2⟩ | ⟨t1, t2, t3⟩
    all_goals
      go_enter Try.func24, Try.ntmps24
      go_wp2_with (first | (go_at_call 16; refine (SlicesValid_spec _ xs _ h).mono ?_; rintro e w' ⟨rfl, rfl⟩; rw [H1.out]) | (go_at_call 36; refine (l6In_any _ _ _ _).mono ?_; rintro e w' ⟨rfl, rfl⟩; rw [H2.out]) | (go_at_call 36; refine (l6In_any _ _ _ _).mono ?_; rintro e w' ⟨rfl, rfl⟩; rw [H3.out]) | (refine wp_append (lo := w.heap.size) (v := .slice (some ⟨w.heap.size, 0, none⟩) 0 0) (n := 0) (xs := []) (m := xs.length) (news := xs.map (Value.int .i64)) rfl rfl 3 (.int .i64 0) 1 8 Try.underlying22 Try.infoInt rfl (by decide) rfl (ownsRow_empty _ _ _) rfl (h.alloc _) mem_ints (by unfold maxLen; omega) (by omega) (by simp) ?_; intro v1 w1 hown _ hbel'; rw [Nat.zero_add, List.nil_append] at hown; have hbel := ((Below.refl w.heap.size w).alloc (Nat.le_refl _) _).trans hbel'; obtain ⟨g, cap, rfl, hg, hg2⟩ := own_shape hown (by omega); have C := (hown.cellAt a (by omega)).trans (getElem_ints ha); have Fr := hown.frozenAt a))
      all_goals
        go_ret2
        exact ⟨_, rfl, own_set (hown.stored a _).1, Below.of_grown_row hbel (hown.stored a _).2 hbel.size hg⟩
end Go.Proofs.Ytpkbfkolllcjgaa
