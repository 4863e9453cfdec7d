/-
  Walks of the helpers of the exact laws over slices of ints: copies, comparisons, marks.
-/
import Derived.Test.YtpkbfkolllcjgaaSl1
namespace Go.Proofs.Ytpkbfkolllcjgaa
open Go.RowKit

theorem Try.infoInt : (Try.prog.info? 3).map (fun i => (i.zero, i.size, i.bytes)) = some (some (.int .i64 0), 1, 8) := by kernel_rfl

theorem OwnInts.below {lo : Nat} {w w' : World} {v : Value} {xs : List Int} (h : OwnInts lo w v xs) (hb : Below w.heap.size w w') : OwnInts lo w' v xs := by
  refine World.ownsRow.kept (row := none) h ⟨hb.os, hb.tape, hb.output, hb.size, fun k hk _ => hb.block k hk⟩ ?_
  cases v.ownBlock <;> simp

theorem ownsRow_below {lo : Nat} {w w' : World} {v : Value} {e sz n : Nat} {xs : List Value} (h : w.ownsRow lo e sz v n xs) (hb : Below w.heap.size w w') : w'.ownsRow lo e sz v n xs := by
  refine World.ownsRow.kept (row := none) h ⟨hb.os, hb.tape, hb.output, hb.size, fun k hk _ => hb.block k hk⟩ ?_
  cases v.ownBlock <;> simp

theorem Below.of_grown {w w' : World} (h : w.grownBy w' none) : Below w.heap.size w w' := ⟨h.os, h.tape, h.output, h.size, fun k hk => h.block k hk (by simp)⟩

theorem madeOnes (z : Value) (hz : z.cells = #[z]) (n : Nat) : (madeCells z.cells (n * 1)).toList = List.replicate n z := by
  rw [hz, Nat.mul_one, toList_madeCells_one]

/-- 'make([]T, n)': n zero elements of one cell in a new block. -/
theorem wp_make {w : World} {ops : Array Oper} {rest : List Oper} {o : Oper} {a : Act} {Q : Exit → Act → World → Prop} {l : Operand} {t : TypeId} {n : Nat}
    (hg : o.guard = none) (hop : o.op = Op.makeSlice t l l) (e : TypeId) (z : Value) (bytes : Nat) (h1 : Try.prog.underlying t = some (.slice e))
    (h2 : (Try.prog.info? e).map (fun i => (i.zero, i.size, i.bytes)) = some (some z, 1, bytes)) (hz : z.cells = #[z])
    (hl : a.eval l = .int .i64 n) (b2 : bytes * n ≤ 281474976710656) (b3 : n ≤ maxLen)
    (hK : ∀ w', w'.ownsRow w.heap.size e 1 (.slice (some ⟨w.heap.size, 0, none⟩) n n) n (List.replicate n z) → Below w.heap.size w w' → w.heap.size < w'.heap.size →
      wpList Try.prog ops Q rest (a.put o.dst (.slice (some ⟨w.heap.size, 0, none⟩) n n)) w') : wpList Try.prog ops Q (o :: rest) a w := by
  obtain ⟨i0, hi, hz0, hz1, hz2⟩ := info_parts h2
  refine wpList_make_full w hg l l t hop w.heap.size e i0 z 1 h1 hi hz0 hz1 .i64 .i64 n n n hl hl rfl rfl (by rw [hz2]; exact b2) b3 (Nat.le_refl _) fun w' h h' => ?_
  rw [madeOnes z hz] at h
  exact hK w' h (Below.of_grown h') (h.lt _ rfl).2

theorem Below.of_grown_row {B : Nat} {a w w' : World} (hb : Below B a w) {g : Nat} (h : w.grownBy w' (some g)) (hB : B ≤ w.heap.size) (hg : B ≤ g) : Below B a w' :=
  hb.grown h hB (fun k hk => by cases hk; exact hg)

theorem set_append_take {xs : List Int} {k : Nat} (hk : k < xs.length) (z : Value) :
    ((xs.take k).map (Value.int .i64) ++ List.replicate (xs.length - k) z).set k (.int .i64 (nth xs k)) = (xs.take (k + 1)).map (Value.int .i64) ++ List.replicate (xs.length - (k + 1)) z := by
  rw [take_nth hk, List.set_append_right _ _ (by simp; omega)]
  have e1 : k - ((xs.take k).map (Value.int .i64)).length = 0 := by simp; omega
  have e2 : xs.length - k = (xs.length - (k + 1)) + 1 := by omega
  rw [e1, e2, List.replicate_succ]
  simp

set_option maxHeartbeats 400000 in
theorem toIntS_any (v : Value) (xs : List Int) (w : World) (h : RdInts w v xs) (hs : xs.length ≤ 1048576) :
    Calls Try.prog 17 #[v] w fun e w' => ∃ v', e = .returned v' ∧ OwnInts w.heap.size w' v' xs ∧ Below w.heap.size w w' := by
  obtain ⟨a, c, rfl, hc, hcm, H0⟩ := h.open
  unfold maxLen at hcm
  go_enter Try.func17, Try.ntmps17
  go_wp2_with (refine wp_make rfl rfl 3 (.int .i64 0) 8 Try.underlying22 Try.infoInt rfl rfl (by omega) (by unfold maxLen; omega) ?_; intro w1 hown hbel hsz)
  go_loopw [4] (fun i wr => ∃ k : Nat, k ≤ xs.length ∧ i = .int .i64 k ∧ wr.ownsRow w.heap.size 3 1 (.slice (some ⟨w.heap.size, 0, none⟩) xs.length xs.length) xs.length ((xs.take k).map (Value.int .i64) ++ List.replicate (xs.length - k) (.int .i64 0)) ∧ Below w.heap.size w wr) (fun i _ => xs.length - (intOf i).toNat)
  case atStart => exact ⟨0, Nat.zero_le _, rfl, by simpa using hown, hbel⟩
  case round =>
    clear hown hbel hsz
    obtain ⟨k, hk, rfl, hown, hbel⟩ := hrel
    have Hrd := H0
    by_cases hlt : k < xs.length
    · obtain ⟨b, off, rfl, D0⟩ := H0.at hlt
      have D : wr.cell? ⟨b, off + k, none⟩ = some (.int .i64 (nth xs k)) := (hbel.cell (World.block_lt_of_cell? w _ D0)).trans D0
      clear D0 Hrd H0 h
      have C := hown.cellAt k (by omega)
      obtain ⟨u, hu⟩ : ∃ u, ((xs.take k).map (Value.int .i64) ++ List.replicate (xs.length - k) (Value.int .i64 0))[k]? = some u := ⟨_, List.getElem?_eq_getElem (by simp; omega)⟩
      rw [hu] at C
      clear hu
      have Fr := hown.frozenAt k
      have S := Lib.hid (hown.stored k (.int .i64 (nth xs k)))
      rw [set_append_take hlt] at S
      clear hown
      go_wp2
      go_roundw
      case rel => exact ⟨k + 1, by omega, by go_num, S.out.1, Below.of_grown_row hbel S.out.2 hbel.size (Nat.le_refl _)⟩
      case measure => simp [intOf]; omega
    · go_wp2
      go_ret
      refine ⟨_, rfl, ?_, hbel⟩
      have e1 : xs.take k = xs := List.take_of_length_le (by omega)
      have e2 : xs.length - k = 0 := by omega
      rw [e1, e2] at hown
      simpa [OwnInts] using hown

theorem eq_of_nth {xs ys : List Int} (hl : xs.length = ys.length) (h : ∀ j, j < xs.length → nth xs j = nth ys j) : xs = ys := by
  refine List.ext_getElem hl fun j h1 h2 => ?_
  have := h j h1
  rwa [nth_eq h1, nth_eq h2] at this
theorem ne_of_nth {xs ys : List Int} {k : Nat} (h : nth xs k ≠ nth ys k) : decide (xs = ys) = false := by
  simp only [decide_eq_false_iff_not]
  rintro rfl
  exact h rfl
theorem ne_of_len {xs ys : List Int} (h : xs.length ≠ ys.length) : decide (xs = ys) = false := by
  simp only [decide_eq_false_iff_not]
  rintro rfl
  exact h rfl

set_option maxHeartbeats 400000 in
theorem eqIntS_any (v1 v2 : Value) (xs ys : List Int) (w : World) (h1 : RdInts w v1 xs) (h2 : RdInts w v2 ys) :
    Calls Try.prog 19 #[v1, v2] w fun e w' => e = .returned (.bool (decide (xs = ys))) ∧ ∃ n, w' = w.drewN n := by
  obtain ⟨a1, c1, rfl, hc1, hcm1, H1⟩ := h1.open
  obtain ⟨a2, c2, rfl, hc2, hcm2, H2⟩ := h2.open
  clear h1 h2
  unfold maxLen at hcm1 hcm2
  by_cases hlen : (xs.length : Int) = ys.length
  · have hb : ((xs.length : Int) != ys.length) = false := by simp [hlen]
    have hlen' : xs.length ≤ ys.length ∧ ys.length ≤ xs.length := by omega
    clear hlen
    go_enter Try.func19, Try.ntmps19
    go_wp2
    go_loopw [5] (fun i wr => ∃ k : Nat, k ≤ xs.length ∧ i = .int .i64 k ∧ (∀ j, j < k → nth xs j = nth ys j) ∧ ∃ n, wr = w.drewN n) (fun i _ => xs.length - (intOf i).toNat)
    case atStart => exact ⟨0, Nat.zero_le _, rfl, fun j hj => absurd hj (Nat.not_lt_zero _), 0, rfl⟩
    case round =>
      obtain ⟨k, hk, rfl, hpre, n, rfl⟩ := hrel
      have Hpre := Lib.hid hpre
      clear hpre
      by_cases hlt : k < xs.length
      · obtain ⟨b1, o1, rfl, D1⟩ := H1.at hlt
        have hlt2 : k < ys.length := by omega
        obtain ⟨b2, o2, rfl, D2⟩ := H2.at hlt2
        clear H1 H2
        by_cases he : nth xs k = nth ys k
        · have he' : (nth xs k != nth ys k) = false := by simp [he]
          have He := Lib.hid he; clear he
          go_wp2
          go_quiet (fail)
          go_wp2
          go_roundw
          case rel => exact ⟨k + 1, by omega, by go_num, forall_lt_succ Hpre.out He.out, _, rfl⟩
          case measure => simp [intOf]; omega
        · have he' : (nth xs k != nth ys k) = true := by simp [he]
          have Hres := Lib.hid (ne_of_nth he); clear he
          go_wp2
          go_quiet (fail)
          go_wp2
          go_ret
          first | exact ⟨ret_bool Hres.out.symm, ex_drew2 _ _ _⟩ | exact ⟨ret_bool Hres.out.symm, ex_drew1 _ _⟩
      · have Hres := Lib.hid (eq_of_nth (xs := xs) (ys := ys) (by omega) (fun j hj => Hpre.out j (by omega)))
        go_wp2
        go_ret
        exact ⟨ret_bool (by simp [Hres.out]), _, rfl⟩
  · have hb : ((xs.length : Int) != ys.length) = true := by simp [hlen]
    have Hres := Lib.hid (ne_of_len (xs := xs) (ys := ys) (by omega))
    clear hlen
    go_enter Try.func19, Try.ntmps19
    go_wp2
    go_ret
    exact ⟨ret_bool Hres.out.symm, 0, rfl⟩
end Go.Proofs.Ytpkbfkolllcjgaa
