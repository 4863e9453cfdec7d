/-
  The law laws.FnSteps returns true for every input. No conditions.
-/
import Derived.Test.YtabaemnknjdjoaaDr7
import Derived.Test.YtabaemnknjdjoaaReg
import Derived.Test.YtabaemnknjdjoaaCopyE
set_option linter.unusedVariables false
namespace Go.Proofs.Ytabaemnknjdjoaa.fnSteps
open Go.RowKit
open Go.Proofs.Ytabaemnknjdjoaa

theorem rd_take {w : World} {b off n c sz k : Nat} {xs : List Value} (h : Rd w (.slice (some ⟨b, off, none⟩) n c) sz n xs) (hk : k ≤ n) : Rd w (.slice (some ⟨b, off, none⟩) k c) sz k (xs.take (k * sz)) := by
  obtain ⟨ao, c', hv, hmc, hcm, hl, hnil, hc⟩ := h
  simp only [Value.slice.injEq, true_and] at hv
  obtain ⟨rfl, rfl⟩ := hv
  have hks : k * sz ≤ n * sz := Nat.mul_le_mul_right _ hk
  refine ⟨_, _, rfl, by omega, hcm, by rw [List.length_take]; omega, (by intro e; cases e), fun hk0 => ?_⟩
  obtain ⟨b', off', e, hcell⟩ := hc (by omega)
  refine ⟨b', off', e, fun j hj => ?_⟩
  rw [hcell j (by omega), List.getElem?_take, if_pos hj]
theorem rd_drop {w : World} {b off n c sz k : Nat} {xs : List Value} (h : Rd w (.slice (some ⟨b, off, none⟩) n c) sz n xs) (hk : k ≤ n) : Rd w (.slice (some ⟨b, off + k * sz, none⟩) (n - k) (c - k)) sz (n - k) (xs.drop (k * sz)) := by
  obtain ⟨ao, c', hv, hmc, hcm, hl, hnil, hc⟩ := h
  simp only [Value.slice.injEq, true_and] at hv
  obtain ⟨rfl, rfl⟩ := hv
  have hks : k * sz + (n - k) * sz = n * sz := by rw [← Nat.add_mul]; congr 1; omega
  refine ⟨_, _, rfl, by omega, by omega, by rw [List.length_drop]; omega, (by intro e; cases e), fun hk0 => ?_⟩
  obtain ⟨b', off', e, hcell⟩ := hc (by omega)
  obtain ⟨rfl, rfl⟩ : b = b' ∧ off = off' := by simpa using e
  refine ⟨_, _, rfl, fun j hj => ?_⟩
  rw [Nat.add_assoc, hcell (k * sz + j) (by omega), List.getElem?_drop]
theorem steps_take (ss : List StepV) (k : Nat) : (stepCells ss).take (k * 9) = stepCells (ss.take k) := by
  rcases Nat.le_total k ss.length with h | h
  · have e : stepCells ss = stepCells (ss.take k) ++ stepCells (ss.drop k) := by rw [stepCells, stepCells, stepCells, ← List.flatMap_append, List.take_append_drop]
    have hl : (stepCells (ss.take k)).length = k * 9 := by rw [stepCells_len, List.length_take]; congr 1; omega
    rw [e, ← hl, List.take_left]
  · rw [List.take_of_length_le h, List.take_of_length_le (by rw [stepCells_len]; omega)]
theorem steps_drop (ss : List StepV) (k : Nat) : (stepCells ss).drop (k * 9) = stepCells (ss.drop k) := by
  rcases Nat.le_total k ss.length with h | h
  · have e : stepCells ss = stepCells (ss.take k) ++ stepCells (ss.drop k) := by rw [stepCells, stepCells, stepCells, ← List.flatMap_append, List.take_append_drop]
    have hl : (stepCells (ss.take k)).length = k * 9 := by rw [stepCells_len, List.length_take]; congr 1; omega
    rw [e, ← hl, List.drop_left]
  · rw [List.drop_of_length_le h, List.drop_of_length_le (by rw [stepCells_len]; omega)]; rfl
theorem ok_without {ss : List StepV} (k : Nat) (h : stepsOk ss = true) : stepsOk (ss.take k ++ ss.drop (k + 1)) = true := by
  simp only [stepsOk, Bool.and_eq_true, decide_eq_true_eq, List.all_eq_true] at h ⊢
  refine ⟨by rw [List.length_append, List.length_take, List.length_drop]; omega, fun s hs => h.2 s ?_⟩
  rcases List.mem_append.1 hs with h' | h'
  · exact List.mem_of_mem_take h'
  · exact List.mem_of_mem_drop h'
theorem stepCells_one (ss : List StepV) : ∀ u ∈ stepCells ss, u.oneCell' = true := by
  intro u hu
  simp only [stepCells, List.mem_flatMap] at hu
  obtain ⟨s, _, h⟩ := hu
  simp only [StepV.cells, List.mem_cons, List.not_mem_nil, or_false] at h
  rcases h with rfl | rfl | rfl | rfl | rfl | rfl | rfl | rfl | rfl <;> rfl
def zeroStep : StepV := ⟨0, 0, 0, 0, 0, 0, 0, 0, ⟨#[]⟩⟩
theorem ok_zero {ss : List StepV} {k : Nat} (hk : k < ss.length) : stepsOk (ss.set k zeroStep) = false :=
  stepsOk_bad (k := k) (s := zeroStep) (by rw [List.getElem?_set_self hk]) rfl

/-- What the copy's operations yield. -/
def cutR (lo b n c k : Nat) (ss : List StepV) (i : Nat) (v : Value) (w : World) : Prop := match i with
  | 0 => ∃ B, v = .slice (some ⟨B, 0, none⟩) 0 0 ∧ lo ≤ B ∧ w.heap[B]? = some (.cells #[] 40 (0, 0))
  | 1 => v = .slice (some ⟨b, 0, none⟩) n c
  | 2 => v = .int .i64 k
  | 3 => RdSteps w v (ss.take k)
  | 4 => OwnSteps lo w v (ss.take k)
  | 5 => v = .slice (some ⟨b, 0, none⟩) n c
  | 6 => v = .int .i64 k
  | 7 => v = .int .i64 (k + 1)
  | 8 => RdSteps w v (ss.drop (k + 1))
  | _ => True
theorem cutR_below {lo b n c k : Nat} {ss : List StepV} {i : Nat} {v : Value} {w w' : World} (h : cutR lo b n c k ss i v w) (hb : Below w.heap.size w w') : cutR lo b n c k ss i v w' := by
  match i with
  | 0 => obtain ⟨B, h0, h1, h2⟩ := h; exact ⟨B, h0, h1, blk_below h2 hb⟩
  | 1 | 2 | 5 | 6 | 7 => exact h
  | 3 => exact Rd.below h hb
  | 4 => exact ownsRow_below h hb
  | 8 => exact Rd.below h hb
  | _ + 9 => trivial

set_option maxRecDepth 100000 in
set_option maxHeartbeats 4000000 in
theorem walkR (v : Value) (bs : List Int) (v' : Value) (bs' : List Int) (w : World) (h : RdBytes w v bs) (h' : RdBytes w v' bs') :
    Calls Try.prog 5 #[v, v'] w fun e w' => e = .returned (.bool true) ∧ Below w.heap.size w w' := by
  obtain ⟨a, c, hv, hc, hcm, hA⟩ := h.open
  subst hv
  obtain ⟨a', c', hv, hc', hcm', _⟩ := h'.open
  subst hv
  clear h'
  unfold maxLen at hcm hcm'
  by_cases hl : 1048576 < bs.length
  · go_enter Try.func5, Try.ntmps5
    go_wp2_with fail
    go_ret
    exact ⟨rfl, Below.refl _ _⟩
  by_cases hl' : 1048576 < bs'.length
  · go_enter Try.func5, Try.ntmps5
    go_wp2_with fail
    go_ret
    exact ⟨rfl, Below.refl _ _⟩
  go_enter Try.func5, Try.ntmps5
  go_wp2_with fail
  refine (DrawStepsValid_any _ bs _ h).mono ?_; rintro e w1 ⟨v1, ss, rfl, o1, hsl, b1⟩
  have hz1 := b1.size
  clear hA h
  go_wp2_with fail
  refine (StepsValid_impl _ ss _ o1.rd).mono ?_; rintro e w2 ⟨rfl, c2⟩
  have b2 := b1.trans (c2.mono b1.size)
  have o1 : OwnSteps w.heap.size w2 v1 ss := ownsRow_below o1 c2
  clear c2 b1
  go_wp2_with fail
  refine (StepsValid_spec _ ss _ o1.rd).mono ?_; rintro e w3 ⟨rfl, c3⟩
  have b3 := b2.trans (c3.mono b2.size)
  have o1 : OwnSteps w.heap.size w3 v1 ss := ownsRow_below o1 c3
  clear c3 b2
  cases hok : stepsOk ss
  · have Hk := Lib.hid hok; clear hok
    go_wp2_with fail
    go_ret
    exact ⟨rfl, b3⟩
  have Hok := Lib.hid hok; clear hok
  obtain ⟨a1, c1, rfl, hc1, hcm1, H0⟩ := (OwnSteps.rd o1).open
  have hcm2 := hcm1
  unfold maxLen at hcm2
  by_cases hz : ss.length = 0
  · have t0 : ((ss.length : Int) == 0) = true := by simp [hz]
    clear hz
    go_wp2_with fail
    go_ret
    exact ⟨rfl, b3⟩
  have t0 : ((ss.length : Int) == 0) = false := by simp [hz]
  have hpos : 0 < ss.length := by omega
  clear hz
  obtain ⟨b, c1', hv1, hb1, hb2⟩ := own_shape o1 hpos
  simp only [Value.slice.injEq, true_and] at hv1
  obtain ⟨rfl, rfl⟩ := hv1
  go_wp2_with fail
  obtain ⟨k, hke, hk⟩ : ∃ k : Nat, (bs'.length : Int) % (ss.length : Int) = k ∧ k < ss.length := ⟨bs'.length % ss.length, by simp, Nat.mod_lt _ hpos⟩
  rw [hke]
  clear hke
  have O1 := Lib.hid o1
  have hkc : k ≤ c1 := by omega
  have hkn : k + 1 ≤ ss.length := by omega
  have hkc1 : k + 1 ≤ c1 := by omega
  have hz3 := b3.size
  refine wp_region_posts 9 Try.mixed (by kernel_rfl) 69 rfl (by kernel_rfl) (cutR w3.heap.size b ss.length c1 k ss) (fun L wr => Below w3.heap.size w3 wr) ?_ ?_ ?_
  · exact below_drewN (Below.refl _ _) 1
  · intro i hi o ho a w5 Hb Hd L HL hG K HK
    match i, hi with
    | 0, _ =>
      obtain rfl := Option.some.inj ho
      clear Hd Hb
      refine Does.of rfl ?_
      go_simp
      exact HK.out _ _ ⟨_, rfl, hG.size, heap_alloc_new _ _⟩ (hG.alloc hG.size _) (fun j u _ _ _ h => cutR_below h (below1 _ _))
    | 1, _ =>
      obtain rfl := Option.some.inj ho
      have e5 : a.tmps[5]?.getD undef = .slice (some ⟨b, 0, none⟩) ss.length c1 := by rw [Hb.out.2.2 5 (by decide)]; rfl
      clear Hd Hb
      refine Does.of rfl ?_
      go_simp
      exact HK.out _ _ rfl hG (fun j u _ _ _ h => h)
    | 2, _ =>
      obtain rfl := Option.some.inj ho
      have e8 : a.tmps[8]?.getD undef = .int .i64 k := by rw [Hb.out.2.2 8 (by decide)]; rfl
      clear Hd Hb
      refine Does.of rfl ?_
      go_simp
      exact HK.out _ _ rfl hG (fun j u _ _ _ h => h)
    | 3, _ =>
      obtain rfl := Option.some.inj ho
      have d1 := Hd.out 1 (by kernel_rfl)
      change a.tmps[46]?.getD undef = .slice (some ⟨b, 0, none⟩) ss.length c1 at d1
      have d2 := Hd.out 2 (by kernel_rfl)
      change a.tmps[47]?.getD undef = .int .i64 k at d2
      clear Hd Hb
      refine Does.of rfl ?_
      go_simp
      refine HK.out _ _ ?_ hG (fun j u _ _ _ h => h)
      have r := rd_take (Rd.below (OwnSteps.rd O1.out) hG) (k := k) (by omega)
      rw [steps_take] at r
      show Rd _ _ 9 (ss.take k).length _
      rw [List.length_take, Nat.min_eq_left (by omega)]
      exact r
    | 4, _ =>
      obtain rfl := Option.some.inj ho
      have d0 := Hd.out 0 (by kernel_rfl)
      change ∃ B, a.tmps[45]?.getD undef = .slice (some ⟨B, 0, none⟩) 0 0 ∧ _ at d0
      have d3 := Hd.out 3 (by kernel_rfl)
      change RdSteps w5 (a.tmps[48]?.getD undef) (ss.take k) at d3
      clear Hd Hb
      refine Does.of rfl ?_
      obtain ⟨B, d0, hB, d0b⟩ := d0
      obtain ⟨v7, w4, hrun, r1, r2, r3⟩ := run_append_empty (lo := w3.heap.size) (w := w5) (t := 25) (ty := 25) 40 _ 9 _ Try.underlying25 Try.infoStep rfl (by decide) d0b hB d3 (stepCells_one _) (by rw [List.length_take]; omega)
      refine wp_append_run rfl (eval_tmp d0) (eval_tmp rfl) hrun ?_
      exact HK.out _ _ r1 (hG.trans (r2.mono hG.size)) (fun j u _ _ _ h => cutR_below h r2)
    | 5, _ =>
      obtain rfl := Option.some.inj ho
      have e5 : a.tmps[5]?.getD undef = .slice (some ⟨b, 0, none⟩) ss.length c1 := by rw [Hb.out.2.2 5 (by decide)]; rfl
      clear Hd Hb
      refine Does.of rfl ?_
      go_simp
      exact HK.out _ _ rfl hG (fun j u _ _ _ h => h)
    | 6, _ =>
      obtain rfl := Option.some.inj ho
      have e8 : a.tmps[8]?.getD undef = .int .i64 k := by rw [Hb.out.2.2 8 (by decide)]; rfl
      clear Hd Hb
      refine Does.of rfl ?_
      go_simp
      exact HK.out _ _ rfl hG (fun j u _ _ _ h => h)
    | 7, _ =>
      obtain rfl := Option.some.inj ho
      have d6 := Hd.out 6 (by kernel_rfl)
      change a.tmps[51]?.getD undef = .int .i64 k at d6
      clear Hd Hb
      refine Does.of rfl ?_
      go_simp
      exact HK.out _ _ (show Value.int .i64 (IntKind.i64.wrap ((k : Int) + 1)) = .int .i64 ((k : Int) + 1) by rw [IntWalk.i64_in _ (by omega)]) hG (fun j u _ _ _ h => h)
    | 8, _ =>
      obtain rfl := Option.some.inj ho
      have d5 := Hd.out 5 (by kernel_rfl)
      change a.tmps[50]?.getD undef = .slice (some ⟨b, 0, none⟩) ss.length c1 at d5
      have d7 := Hd.out 7 (by kernel_rfl)
      change a.tmps[52]?.getD undef = .int .i64 (k + 1) at d7
      clear Hd Hb
      refine Does.of rfl ?_
      have i0 : 0 ≤ (k : Int) + 1 := by omega
      have i1 : (k : Int) + 1 ≤ ss.length := by omega
      have r := rd_drop (Rd.below (OwnSteps.rd O1.out) hG) (k := k + 1) (by omega)
      rw [steps_drop, Nat.zero_add] at r
      have R8 : Hid (∀ u, u = (if c1 = k + 1 then some (⟨b, 0, none⟩ : Addr) else some ⟨b, (k + 1) * 9, none⟩) → RdSteps w5 (.slice u (ss.length - (k + 1)) (c1 - (k + 1))) (ss.drop (k + 1))) := Lib.hid (by
        rintro u rfl
        show Rd _ _ 9 (ss.drop (k + 1)).length _
        rw [List.length_drop]
        split
        · next hq =>
          obtain ⟨_, _, hv, g1, g2, g3, g4, g5⟩ := r
          refine ⟨_, _, rfl, by omega, by unfold maxLen; omega, g3, (by intro e; cases e), fun h0 => by omega⟩
        · exact r)
      clear r
      go_simp
      exact HK.out _ _ (R8.out _ rfl) hG (fun j u _ _ _ h => h)
  · intro ys w5 hR L hL hG
    have h4 : OwnSteps w3.heap.size w5 (ys 4) (ss.take k) := hR 4 (by decide)
    have h8 : RdSteps w5 (ys 8) (ss.drop (k + 1)) := hR 8 (by decide)
    clear hR hL
    simp only [fillAt, dstOf, List.range, List.range.loop, List.foldl_cons, List.foldl_nil]
    simp
    generalize ys 0 = z0
    generalize ys 1 = z1
    generalize ys 2 = z2
    generalize ys 3 = z3
    generalize ys 4 = z4 at h4 ⊢
    generalize ys 5 = z5
    generalize ys 6 = z6
    generalize ys 7 = z7
    generalize ys 8 = z8 at h8 ⊢
    have htl : (ss.take k).length ≤ 82 := by rw [List.length_take]; omega
    have hdl : (ss.drop (k + 1)).length ≤ 82 := by rw [List.length_drop]; omega
    have Z := Lib.hid (ok_without k Hok.out)
    have Z2 := Lib.hid (ok_zero hk)
    have hzG := hG.size
    go_upto_region 10 with (at_builtin; go_must (refine wp_appendL (lo := w3.heap.size) (n := (ss.take k).length) (xs := stepCells (ss.take k)) (m := (ss.drop (k + 1)).length) (news := stepCells (ss.drop (k + 1))) rfl rfl 40 _ 9 _ Try.underlying25 Try.infoStep rfl (by decide) rfl h4 rfl h8 (stepCells_one _) (by unfold maxLen; omega) (by omega) (by omega) ?_; intro o' w9 k1 k2 k3 k4))
    have oX : OwnSteps w3.heap.size w9 o' (ss.take k ++ ss.drop (k + 1)) := by
      unfold OwnSteps
      rw [List.length_append, show stepCells (ss.take k ++ ss.drop (k + 1)) = stepCells (ss.take k) ++ stepCells (ss.drop (k + 1)) by simp [stepCells]]
      exact k1
    have bX := hG.trans k4
    have lX := World.ownsRow.lt oX
    have r1 : RdSteps w9 _ ss := Rd.below (OwnSteps.rd O1.out) (bX)
    have b9 := b3.trans (bX.mono b3.size)
    have hz9 := bX.size
    clear k1 k2 k3 k4 h4 h8 hG
    go_upto_region 11 with (at_builtin; go_must (refine wp_appendL (lo := w9.heap.size) (n := 0) (xs := []) (m := ss.length) (news := stepCells ss) rfl rfl 40 _ 9 _ Try.underlying25 Try.infoStep rfl (by decide) rfl (ownsRow_empty w9 40 9) rfl (Rd.below r1 (below1 _ _)) (stepCells_one _) (by unfold maxLen; omega) (by omega) (by simp) ?_; intro oy w10 k1 k2 k3 k4))
    have oY : OwnSteps w9.heap.size w10 oy ss := by
      unfold OwnSteps
      simpa using k1
    have b10 := (below1 w9 (.cells #[] 40)).trans k4
    have oX : OwnSteps w3.heap.size w10 o' (ss.take k ++ ss.drop (k + 1)) := ownsRow_below oX b10
    clear k1 k2 k3 k4 r1
    obtain ⟨qb, cq, rfl, hq, hql⟩ := own_shape oY hpos
    obtain ⟨a7, c7, hv, hcc, hcm7, H7⟩ := (OwnSteps.rd oY).open
    simp only [Value.slice.injEq, true_and] at hv
    obtain ⟨rfl, rfl⟩ := hv
    obtain ⟨sx, hs⟩ : ∃ x, ss[k]? = some x := ⟨_, List.getElem?_eq_getElem hk⟩
    obtain ⟨b', off, hab, D0, D1, D2, D3, D4, D5, D6, D7, D8⟩ := H7.nine (Below.refl _ _) hs
    obtain ⟨rfl, rfl⟩ : qb = b' ∧ 0 = off := by simpa using hab
    simp only [Nat.zero_add] at D0 D1 D2 D3 D4 D5 D6 D7 D8
    have F := World.ownsRow.frozenAt oY
    have S := Lib.hid (setMany_own oY (k * 9) 0 (stepCs zeroStep))
    have hqne : o'.ownBlock ≠ some qb := fun e => by have := (lX qb e).2; omega
    have oX : OwnSteps w3.heap.size (setMany w10 qb (k * 9) 0 (stepCs zeroStep)) o' (ss.take k ++ ss.drop (k + 1)) := own_grown oX S.out.2 (.inr hqne)
    have oY2 : OwnSteps w9.heap.size (setMany w10 qb (k * 9) 0 (stepCs zeroStep)) (.slice (some ⟨qb, 0, none⟩) ss.length cq) (ss.set k zeroStep) := by
      have S1 := S.out.1
      have e1 := flat_set (cs := stepCs) (sz := 9) (fun _ => rfl) hk zeroStep
      unfold OwnSteps
      rw [List.length_set]
      exact (show setList (stepCells ss) (k * 9) 0 _ = stepCells (ss.set k _) from e1) ▸ S1
    have bS := Below.of_grown_row (b9.trans (b10.mono b9.size)) S.out.2 (by omega) (by omega)
    have hbs := bS.size
    generalize hW : setMany w10 qb (k * 9) 0 (stepCs zeroStep) = W at oX oY2 bS hbs
    have HW := Lib.hid hW
    clear hs hab oY H7 hcc S hW
    unfold maxLen at hcm7
    have hqne' := Lib.hid hqne
    clear hqne
    go_upto_region 12 with fail
    have hW := HW.out
    simp only [stepCs, zeroStep, StepV.cells, setMany, Nat.add_zero, Nat.reduceAdd, Nat.zero_add] at hW
    rw [hW]
    clear hW D0 D1 D2 D3 D4 D5 D6 D7 D8 F
    go_wp2_with fail
    refine (StepsValid_impl _ _ _ (OwnSteps.rd oX)).mono ?_; rintro e wx ⟨rfl, cx⟩; rw [Z.out]
    go_wp2_with fail
    refine (StepsValid_impl _ _ _ (Rd.below (OwnSteps.rd oY2) cx)).mono ?_; rintro e wy ⟨rfl, cy⟩; rw [Z2.out]
    go_wp2_with fail
    go_ret
    exact ⟨rfl, (bS.trans (cx.mono bS.size)).trans (cy.mono (Nat.le_trans bS.size cx.size))⟩
end Go.Proofs.Ytabaemnknjdjoaa.fnSteps
