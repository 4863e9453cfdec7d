/-
  Walks: calls drawn.
-/
import Derived.Test.YtgdehdfbdjgmdaaGreatDoorCsText
import Derived.Test.YtgdehdfbdjgmdaaGreatDoorDrP
set_option linter.unusedVariables false
set_option linter.unusedSimpArgs false
namespace Go.Proofs.YtgdehdfbdjgmdaaGreatDoor
open Go.RowKit

/-- The state of a list of calls that is drawn. -/
def CsSt (w0 : World) (g N : Nat) (w : World) (o : Value) (xs : List CallV) (wr : World) : Prop := Dr w0 g N wr ∧ OwnCalls w.heap.size wr o xs ∧ w.grownBy wr (some g) ∧ g < w.heap.size ∧ w0.heap.size ≤ w.heap.size ∧ ∀ x ∈ xs, x.nm.size ≤ 8
theorem CsSt.draw {w0 w wr w' : World} {g N M : Nat} {o : Value} {xs : List CallV} (h : CsSt w0 g N w o xs wr) (hd : Dr w0 g M w') (hg : wr.grownBy w' (some g)) : CsSt w0 g M w o xs w' := by
  obtain ⟨h1, h2, h3, h4, h6, h5⟩ := h
  refine ⟨hd, own_grown h2 hg ?_, grown_trans h3 hg, h4, h6, h5⟩
  cases hv : o.ownBlock with
  | none => exact .inl rfl
  | some k =>
    refine .inr fun he => ?_
    simp only [Option.some.injEq] at he
    have := (h2.lt k hv).1
    omega
theorem cs_app {w0 w wr w' : World} {g N k : Nat} {o o' : Value} {xs : List CallV} {x : CallV} {ob : Obj} (h : CsSt w0 g (N + 3 + 9 * k + 9) w o xs wr) (hx : x.nm.size ≤ 8) (ho : OwnCalls w.heap.size w' o' (xs ++ [x])) (hg : (wr.alloc ob).grownBy w' o.ownBlock) (hlo : ∀ q, o.ownBlock = some q → w.heap.size ≤ q) (hl : xs.length = k) (hk : k ≤ 12) : CsSt w0 g (N + 3 + 9 * (k + 1)) w o' (xs ++ [x]) w' := by
  obtain ⟨h1, h2, h3, h4, h6, h5⟩ := h
  have hw := h1.2.1.size
  have hd : Dr w0 g (N + 3 + 9 * k + 9) w' := (h1.alloc ob).keep hg (fun e => by have := hlo g e; omega) (fun q hq => by have := hlo q hq; have := h3.size; omega)
  refine ⟨hd.mono (by omega), ho, ?_, h4, h6, fun y hy => ?_⟩
  · have g1 := grown_alloc h3 ob
    refine ⟨hg.os.trans g1.os, hg.tape.trans g1.tape, hg.output.trans g1.output, Nat.le_trans g1.size hg.size, fun q hq hne => ?_⟩
    refine (hg.block q (Nat.lt_of_lt_of_le hq g1.size) (fun e => ?_)).trans (g1.block q hq hne)
    have := hlo q e.symm
    omega
  · rcases List.mem_append.1 hy with hy | hy
    · exact h5 y hy
    · rw [List.mem_singleton.1 hy]; exact hx

set_option maxRecDepth 100000 in
set_option maxHeartbeats 4000000 in
theorem l93Calls_any {w0 w : World} {g N : Nat} (h : Dr w0 g N w) (hN : N ≤ 800000) :
    Calls Tryz.prog 12 #[.pointer (some ⟨g, 0, none⟩)] w fun e w' => ∃ v, e = .returned v ∧ (∃ xs, OwnCalls w.heap.size w' v xs ∧ (∀ x ∈ xs, x.nm.size ≤ 8) ∧ xs.length ≤ 13) ∧ Dr w0 g (N + 130) w' ∧ w.grownBy w' (some g) := by
  have hlt := h.lt
  have S0 : CsSt w0 g N w (.slice (some ⟨w.heap.size, 0, none⟩) 0 0) [] (w.alloc (.cells #[] 30)) := ⟨h.alloc _, ownsRow_empty w 30 6, grown_below (below1 _ _) _, hlt, h.2.1.size, fun x hx => by simp at hx⟩
  have hS := Lib.hid S0
  clear S0 h
  go_enter Tryz.func12, Tryz.ntmps12
  go_wp2_with fail
  refine (hS.out.1.pick _ (by omega) (by decide)).mono ?_; rintro e w1 ⟨n, rfl, n0, n1, hd1, hg1⟩
  replace n1 := n1 (by decide)
  have S1 := Lib.hid (hS.out.draw hd1 hg1)
  clear hS hd1 hg1
  go_wp2_with fail
  refine (S1.out.1.pick _ (by omega) (by decide)).mono ?_; rintro e w2 ⟨z, rfl, z0, z1, hd2, hg2⟩
  have S2 := Lib.hid (S1.out.draw hd2 hg2)
  clear S1 hd2 hg2
  by_cases hz : z = 0
  · have tz : (z == 0) = true := by simp [hz]
    clear hz z0 z1
    go_wp2_with fail
    refine (S2.out.1.pick _ (by omega) (by decide)).mono ?_; rintro e w3 ⟨m, rfl, m0, m1, hd3, hg3⟩
    replace m1 := m1 (by decide)
    have S3 := Lib.hid (S2.out.draw hd3 hg3)
    have m0' : (0 : Int) ≤ 12 + m := by omega
    clear S2 hd3 hg3
    go_wp2_with fail
    go_loopw [3, 5] (fun o i wr => ∃ (k : Nat) (xs : List CallV), (k : Int) ≤ 12 + m ∧ i = .int .i64 k ∧ xs.length = k ∧ CsSt w0 g (N + 3 + 9 * k) w o xs wr) (fun _ i _ => (12 + m - intOf i).toNat)
    case atStart => exact ⟨0, [], m0', rfl, rfl, S3.out⟩
    case round =>
      obtain ⟨k, xs, hk, rfl, hxl, hst⟩ := hrel
      have St := Lib.hid hst
      have Hxl := Lib.hid hxl
      obtain ⟨ao, co, rfl, _, _, _⟩ := hst.2.1.rd.open
      have hlt2 := hst.1.lt
      clear hst hxl
      by_cases hlk : (k : Int) < 12 + m
      · go_wp2_with fail
        refine (l93Call_any St.out.1 (by omega)).mono ?_; rintro e w5 ⟨v5, rfl, ⟨x, rfl, hx⟩, hd5, hg5⟩
        have S5 := Lib.hid (St.out.draw hd5 hg5)
        have Ef := Lib.hid (show callCells (xs ++ [x]) = callCells xs ++ callCs x by simp only [callCells, flat_append, flat_one])
        have o3 := S5.out.2.1
        have hsz := S5.out.2.2.1.size
        unfold OwnCalls at o3
        clear hd5 hg5
        have hOr := o3
        clear o3
        obtain ⟨xk, xe, xa, xb, xc, xn⟩ := x
        simp only [CallV.val, CallV.cells] at hOr hsz ⊢
        have hx12 : xs.length ≤ 12 := by have := Hxl.out; omega
        go_wp2_with (at_builtin; go_must (refine wp_append (lo := w.heap.size) (n := xs.length) (xs := callCells xs) (m := 1) (news := callCs ⟨xk, xe, xa, xb, xc, xn⟩) rfl rfl 30 _ 6 56 Tryz.underlying24 Tryz.infoCall rfl (by decide) rfl (ownsRow_below hOr (below1 _ _)) rfl (Rd.newsAt _ (CallV.mk xk xe xa xb xc xn).cells _ 6 1 _ (by simp [CallV.cells]) rfl (by simp [maxLen])) (by simp [callCs, CallV.cells, Value.oneCell']) (by unfold maxLen; omega) (by omega) (by simp at hsz ⊢; omega) ?_; intro o' w4 g1 g2 g3))
        go_roundw
        case rel =>
          refine ⟨k + 1, xs ++ [⟨xk, xe, xa, xb, xc, xn⟩], by omega, by go_num, by rw [List.length_append, Hxl.out]; rfl, ?_⟩
          refine cs_app (S5.out) hx ?_ g2 (fun q hq => (hOr.lt q hq).1) Hxl.out (by omega)
          unfold OwnCalls
          rw [List.length_append, Ef.out]
          exact g1
        case measure => simp [intOf]; omega
      · have P := Lib.hid (show (∃ ys, OwnCalls w.heap.size wr (.slice ao xs.length co) ys ∧ (∀ x ∈ ys, x.nm.size ≤ 8) ∧ ys.length ≤ 13) ∧ Dr w0 g (N + 130) wr ∧ w.grownBy wr (some g) from ⟨⟨xs, St.out.2.1, St.out.2.2.2.2.2, by have := Hxl.out; omega⟩, St.out.1.mono (by have := Hxl.out; omega), St.out.2.2.1⟩)
        go_wp2_with fail
        go_ret
        exact ⟨_, rfl, P.out⟩
  · have tz : (z == 0) = false := by simp [hz]
    have S3 := Lib.hid (show CsSt w0 g (N + 1 + 1 + 1) w _ [] w2 from ⟨S2.out.1.mono (by omega), S2.out.2⟩)
    clear hz z0 z1 S2
    go_wp2_with fail
    go_loopw [3, 5] (fun o i wr => ∃ (k : Nat) (xs : List CallV), (k : Int) ≤ n ∧ i = .int .i64 k ∧ xs.length = k ∧ CsSt w0 g (N + 3 + 9 * k) w o xs wr) (fun _ i _ => (n - intOf i).toNat)
    case atStart => exact ⟨0, [], n0, rfl, rfl, S3.out⟩
    case round =>
      obtain ⟨k, xs, hk, rfl, hxl, hst⟩ := hrel
      have St := Lib.hid hst
      have Hxl := Lib.hid hxl
      obtain ⟨ao, co, rfl, _, _, _⟩ := hst.2.1.rd.open
      have hlt2 := hst.1.lt
      clear hst hxl
      by_cases hlk : (k : Int) < n
      · go_wp2_with fail
        refine (l93Call_any St.out.1 (by omega)).mono ?_; rintro e w5 ⟨v5, rfl, ⟨x, rfl, hx⟩, hd5, hg5⟩
        have S5 := Lib.hid (St.out.draw hd5 hg5)
        have Ef := Lib.hid (show callCells (xs ++ [x]) = callCells xs ++ callCs x by simp only [callCells, flat_append, flat_one])
        have o3 := S5.out.2.1
        have hsz := S5.out.2.2.1.size
        unfold OwnCalls at o3
        clear hd5 hg5
        have hOr := o3
        clear o3
        obtain ⟨xk, xe, xa, xb, xc, xn⟩ := x
        simp only [CallV.val, CallV.cells] at hOr hsz ⊢
        have hx12 : xs.length ≤ 12 := by have := Hxl.out; omega
        go_wp2_with (at_builtin; go_must (refine wp_append (lo := w.heap.size) (n := xs.length) (xs := callCells xs) (m := 1) (news := callCs ⟨xk, xe, xa, xb, xc, xn⟩) rfl rfl 30 _ 6 56 Tryz.underlying24 Tryz.infoCall rfl (by decide) rfl (ownsRow_below hOr (below1 _ _)) rfl (Rd.newsAt _ (CallV.mk xk xe xa xb xc xn).cells _ 6 1 _ (by simp [CallV.cells]) rfl (by simp [maxLen])) (by simp [callCs, CallV.cells, Value.oneCell']) (by unfold maxLen; omega) (by omega) (by simp at hsz ⊢; omega) ?_; intro o' w4 g1 g2 g3))
        go_roundw
        case rel =>
          refine ⟨k + 1, xs ++ [⟨xk, xe, xa, xb, xc, xn⟩], by omega, by go_num, by rw [List.length_append, Hxl.out]; rfl, ?_⟩
          refine cs_app (S5.out) hx ?_ g2 (fun q hq => (hOr.lt q hq).1) Hxl.out (by omega)
          unfold OwnCalls
          rw [List.length_append, Ef.out]
          exact g1
        case measure => simp [intOf]; omega
      · have P := Lib.hid (show (∃ ys, OwnCalls w.heap.size wr (.slice ao xs.length co) ys ∧ (∀ x ∈ ys, x.nm.size ≤ 8) ∧ ys.length ≤ 13) ∧ Dr w0 g (N + 130) wr ∧ w.grownBy wr (some g) from ⟨⟨xs, St.out.2.1, St.out.2.2.2.2.2, by have := Hxl.out; omega⟩, St.out.1.mono (by have := Hxl.out; omega), St.out.2.2.1⟩)
        go_wp2_with fail
        go_ret
        exact ⟨_, rfl, P.out⟩

end Go.Proofs.YtgdehdfbdjgmdaaGreatDoor
