/-
  Walks of helpers over slices of ints: made, copied, compared, appended to, marked.
-/
import Derived.Test.YtjacdlekgdnndaaDoorCore
import Derived.Laws.AppendOwnNone
namespace Go.Proofs.YtjacdlekgdnndaaDoor
open Go.RowKit

theorem Tryd.infoInt : (Tryd.prog.info? 3).map (fun i => (i.zero, i.size, i.bytes)) = some (some (.int .i64 0), 1, 8) := by kernel_rfl

theorem OwnInts.below {lo : Nat} {w w' : World} {v : Value} {xs : List Int} (h : OwnInts lo w v xs) (hb : Below w.heap.size w w') : OwnInts lo w' v xs := by
  refine World.ownsRow.kept (row := none) h ⟨hb.os, hb.tape, hb.output, hb.size, fun k hk _ => hb.block k hk⟩ ?_
  cases v.ownBlock <;> simp

theorem ownsRow_below {lo : Nat} {w w' : World} {v : Value} {e sz n : Nat} {xs : List Value} (h : w.ownsRow lo e sz v n xs) (hb : Below w.heap.size w w') : w'.ownsRow lo e sz v n xs := by
  refine World.ownsRow.kept (row := none) h ⟨hb.os, hb.tape, hb.output, hb.size, fun k hk _ => hb.block k hk⟩ ?_
  cases v.ownBlock <;> simp

theorem Below.of_grown {w w' : World} (h : w.grownBy w' none) : Below w.heap.size w w' := ⟨h.os, h.tape, h.output, h.size, fun k hk => h.block k hk (by simp)⟩

theorem madeOnes (z : Value) (hz : z.cells = #[z]) (n : Nat) : (madeCells z.cells (n * 1)).toList = List.replicate n z := by
  rw [hz, Nat.mul_one, toList_madeCells_one]

/-- 'make([]T, n)': n zero elements of one cell in a new block. -/
theorem wp_make {w : World} {ops : Array Oper} {rest : List Oper} {o : Oper} {a : Act} {Q : Exit → Act → World → Prop} {l : Operand} {t : TypeId} {n : Nat}
    (hg : o.guard = none) (hop : o.op = Op.makeSlice t l l) (e : TypeId) (z : Value) (bytes : Nat) (h1 : Tryd.prog.underlying t = some (.slice e))
    (h2 : (Tryd.prog.info? e).map (fun i => (i.zero, i.size, i.bytes)) = some (some z, 1, bytes)) (hz : z.cells = #[z])
    (hl : a.eval l = .int .i64 n) (b2 : bytes * n ≤ 281474976710656) (b3 : n ≤ maxLen)
    (hK : ∀ w', w'.ownsRow w.heap.size e 1 (.slice (some ⟨w.heap.size, 0, none⟩) n n) n (List.replicate n z) → Below w.heap.size w w' → w.heap.size < w'.heap.size →
      wpList Tryd.prog ops Q rest (a.put o.dst (.slice (some ⟨w.heap.size, 0, none⟩) n n)) w') : wpList Tryd.prog ops Q (o :: rest) a w := by
  obtain ⟨i0, hi, hz0, hz1, hz2⟩ := info_parts h2
  refine wpList_make_full w hg l l t hop w.heap.size e i0 z 1 h1 hi hz0 hz1 .i64 .i64 n n n hl hl rfl rfl (by rw [hz2]; exact b2) b3 (Nat.le_refl _) fun w' h h' => ?_
  rw [madeOnes z hz] at h
  exact hK w' h (Below.of_grown h') (h.lt _ rfl).2

theorem Below.of_grown_row {B : Nat} {a w w' : World} (hb : Below B a w) {g : Nat} (h : w.grownBy w' (some g)) (hB : B ≤ w.heap.size) (hg : B ≤ g) : Below B a w' :=
  hb.grown h hB (fun k hk => by cases hk; exact hg)

theorem set_append_take {xs : List Int} {k : Nat} (hk : k < xs.length) (z : Value) :
    ((xs.take k).map (Value.int .i64) ++ List.replicate (xs.length - k) z).set k (.int .i64 (nth xs k)) = (xs.take (k + 1)).map (Value.int .i64) ++ List.replicate (xs.length - (k + 1)) z := by
  rw [take_nth hk, List.set_append_right _ _ (by simp; omega)]
  have e1 : k - ((xs.take k).map (Value.int .i64)).length = 0 := by simp; omega
  have e2 : xs.length - k = (xs.length - (k + 1)) + 1 := by omega
  rw [e1, e2, List.replicate_succ]
  simp


theorem eq_of_nth {xs ys : List Int} (hl : xs.length = ys.length) (h : ∀ j, j < xs.length → nth xs j = nth ys j) : xs = ys := by
  refine List.ext_getElem hl fun j h1 h2 => ?_
  have := h j h1
  rwa [nth_eq h1, nth_eq h2] at this

theorem ne_of_nth {xs ys : List Int} {k : Nat} (h : nth xs k ≠ nth ys k) : decide (xs = ys) = false := by
  simp only [decide_eq_false_iff_not]
  rintro rfl
  exact h rfl

theorem ne_of_len {xs ys : List Int} (h : xs.length ≠ ys.length) : decide (xs = ys) = false := by
  simp only [decide_eq_false_iff_not]
  rintro rfl
  exact h rfl



theorem wp_append {lo : Nat} {w : World} {ops : Array Oper} {rest : List Oper} {o : Oper} {a : Act} {Q : Exit → Act → World → Prop} {s x : Operand} {t : TypeId}
    (hgd : o.guard = none) (ho : o.op = .call { callee := .builtin .append, args := #[s, x], argTypes := #[t, t] })
    (e : TypeId) (z : Value) (sz bytes : Nat) (ht : Tryd.prog.underlying t = some (.slice e)) (hi : (Tryd.prog.info? e).map (fun i => (i.zero, i.size, i.bytes)) = some (some z, sz, bytes))
    (hzs : z.cells.size = sz) (hsz : 0 < sz) {v u : Value} {n m : Nat} {xs news : List Value} (hs : a.eval s = v) (hown : w.ownsRow lo e sz v n xs)
    (hx : a.eval x = u) (hr : Rd w u sz m news) (h1 : ∀ u ∈ news, u.oneCell' = true) (h63 : n + m ≤ maxLen) (hbytes : (n + m) * bytes ≤ 140737488355328) (hlo : lo ≤ w.heap.size)
    (hK : ∀ v' w', w'.ownsRow lo e sz v' (n + m) (xs ++ news) → w.grownBy w' v.ownBlock → Below lo w w' → wpList Tryd.prog ops Q rest (a.put o.dst v') w') : wpList Tryd.prog ops Q (o :: rest) a w := by
  obtain ⟨i0, hi0, hz0, hz1, hz2⟩ := info_parts hi
  obtain ⟨ao, c, rfl, hmc, hcm, hl, hnil, hc⟩ := hr
  have hbel : ∀ w', w.grownBy w' v.ownBlock → Below lo w w' := fun w' hg => (Below.refl lo w).grown hg hlo (fun k hk => (hown.lt k hk).1)
  cases ao with
  | none =>
    have hc0 := hnil rfl
    subst hc0
    obtain rfl : m = 0 := by omega
    have hnews : news = [] := List.eq_nil_of_length_eq_zero (by simpa using hl)
    subst hnews
    refine wpList_append_own_none hgd s x t ho lo e i0 sz ht hi0 v n xs hs hown hx ?_
    exact hK v w (by simpa using hown) ⟨rfl, rfl, rfl, Nat.le_refl _, fun _ _ _ => rfl⟩ (Below.refl _ _)
  | some ad =>
    refine wpList_append_own w hgd s x t ho lo e i0 z sz bytes ht hi0 hz0 hz1 hz2 hzs hsz v n xs hs hown ad m c news hx hl ?_ h1 h63 hbytes hlo (fun v' w' h2 h3 _ => hK v' w' h2 h3 (hbel w' h3))
    intro j u hu
    rcases Nat.eq_zero_or_pos m with rfl | hm
    · simp at hl
      simp [hl] at hu
    · obtain ⟨b, off, had, hcell⟩ := hc hm
      obtain rfl : ad = ⟨b, off, none⟩ := by simpa using had
      have hj : j < news.length := (List.getElem?_eq_some_iff.1 hu).1
      have hadd : (⟨b, off, none⟩ : Addr).add j = ⟨b, off + j, none⟩ := by unfold Addr.add; split <;> simp_all
      rw [hadd, hcell j (by omega), hu]

/-- The slice that the translation lays for the elements of one append. -/
theorem Rd.news (w : World) (cs : Array Value) (e : TypeId) (sz n : Nat) (hs : cs.size = n * sz) (hn : n ≤ maxLen) : Rd (w.alloc (.cells cs e)) (.slice (some ⟨w.heap.size, 0, none⟩) n n) sz n cs.toList :=
  Rd.of_owns (World.ownsRow_lit (base := w.heap.size) w cs n (Nat.le_refl _) hn hs)

theorem mem_ints {xs : List Int} : ∀ u ∈ xs.map (Value.int .i64), u.oneCell' = true := by
  intro u hu
  obtain ⟨x, _, rfl⟩ := List.mem_map.1 hu
  rfl

theorem ownsRow_empty (w : World) (e sz : Nat) : (w.alloc (.cells #[] e)).ownsRow w.heap.size e sz (.slice (some ⟨w.heap.size, 0, none⟩) 0 0) 0 [] :=
  World.ownsRow_made w #[] 0 (Nat.le_refl _) (by simp [maxLen]) (by simp)

theorem RdInts.nil_iff {w : World} {a : Option Addr} {n c : Nat} {xs : List Int} (h : RdInts w (.slice a n c) xs) : n = xs.length := by
  obtain ⟨a', c', h', _⟩ := h
  simp at h'
  exact h'.2.1


theorem own_shape {w : World} {lo e sz n : Nat} {v : Value} {xs : List Value} (h : w.ownsRow lo e sz v n xs) (hn : 0 < n) : ∃ g cap, v = .slice (some ⟨g, 0, none⟩) n cap ∧ lo ≤ g ∧ g < w.heap.size := by
  have hlt := h.lt
  rcases h.2 with ⟨_, rfl⟩ | ⟨g, cap, cur, rfl, hb, hg, _⟩
  · omega
  · exact ⟨g, cap, rfl, hb, (hlt g rfl).2⟩

theorem getElem_ints {xs : List Int} {a : Nat} (h : a < xs.length) : (xs.map (Value.int .i64))[a]? = some (.int .i64 (nth xs a)) := by
  rw [List.getElem?_map, nth_lt h]; rfl

theorem own_set {lo : Nat} {w : World} {v : Value} {xs : List Int} {a : Nat} {x : Int} (h : w.ownsRow lo 3 1 v xs.length ((xs.map (Value.int .i64)).set a (.int .i64 x))) : OwnInts lo w v (xs.set a x) := by
  unfold OwnInts
  rw [List.length_set, List.map_set]
  exact h

theorem nth_set {xs : List Int} {a j : Nat} {x : Int} (ha : a < xs.length) : nth (xs.set a x) j = if j = a then x else nth xs j := by
  unfold nth
  rw [List.getD_eq_getElem?_getD, List.getD_eq_getElem?_getD, List.getElem?_set]
  by_cases h : a = j
  · subst h; simp [ha]
  · have h' : j ≠ a := fun e => h e.symm
    simp [h, h']



theorem ownsRow_drewN {lo : Nat} {w : World} {v : Value} {e sz n : Nat} {xs : List Value} (h : w.ownsRow lo e sz v n xs) (k : Nat) : (w.drewN k).ownsRow lo e sz v n xs := ownsRow_below h (below_drewN (Below.refl _ _) k)
theorem own_kept {lo : Nat} {w w' : World} {v : Value} {xs : List Int} {row : Option Nat} (h : OwnInts lo w v xs) (hg : w.grownBy w' row) (hne : v.ownBlock = none ∨ v.ownBlock ≠ row) : OwnInts lo w' v xs := World.ownsRow.kept h hg hne
theorem apart_lt {v1 v2 : Value} {B : Nat} (h1 : ∀ k, v1.ownBlock = some k → k < B) (h2 : ∀ k, v2.ownBlock = some k → B ≤ k) : v1.ownBlock = none ∨ v1.ownBlock ≠ v2.ownBlock := by
  cases h : v1.ownBlock with
  | none => exact .inl rfl
  | some k =>
    refine .inr fun e => ?_
    have a1 := h1 k h
    have a2 := h2 k e.symm
    omega
theorem apart_gt {v1 v2 : Value} {B : Nat} (h1 : ∀ k, v1.ownBlock = some k → B ≤ k) (h2 : ∀ k, v2.ownBlock = some k → k < B) : v1.ownBlock = none ∨ v1.ownBlock ≠ v2.ownBlock := by
  cases h : v1.ownBlock with
  | none => exact .inl rfl
  | some k =>
    refine .inr fun e => ?_
    have a1 := h1 k h
    have a2 := h2 k e.symm
    omega
def lenOf : Value → Nat | .slice _ n _ => n | _ => 0
end Go.Proofs.YtjacdlekgdnndaaDoor
