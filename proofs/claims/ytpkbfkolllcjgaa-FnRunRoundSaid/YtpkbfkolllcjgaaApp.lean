/-
  One law for the built-in append onto a slice that the call owns, whatever the source; slices.Clone at []int.
-/
import Derived.Test.YtpkbfkolllcjgaaSl2
import Derived.Laws.AppendOwnNone
namespace Go.Proofs.Ytpkbfkolllcjgaa
open Go.RowKit

theorem wp_append {lo : Nat} {w : World} {ops : Array Oper} {rest : List Oper} {o : Oper} {a : Act} {Q : Exit → Act → World → Prop} {s x : Operand} {t : TypeId}
    (hgd : o.guard = none) (ho : o.op = .call { callee := .builtin .append, args := #[s, x], argTypes := #[t, t] })
    (e : TypeId) (z : Value) (sz bytes : Nat) (ht : Try.prog.underlying t = some (.slice e)) (hi : (Try.prog.info? e).map (fun i => (i.zero, i.size, i.bytes)) = some (some z, sz, bytes))
    (hzs : z.cells.size = sz) (hsz : 0 < sz) {v u : Value} {n m : Nat} {xs news : List Value} (hs : a.eval s = v) (hown : w.ownsRow lo e sz v n xs)
    (hx : a.eval x = u) (hr : Rd w u sz m news) (h1 : ∀ u ∈ news, u.oneCell' = true) (h63 : n + m ≤ maxLen) (hbytes : (n + m) * bytes ≤ 140737488355328) (hlo : lo ≤ w.heap.size)
    (hK : ∀ v' w', w'.ownsRow lo e sz v' (n + m) (xs ++ news) → w.grownBy w' v.ownBlock → Below lo w w' → wpList Try.prog ops Q rest (a.put o.dst v') w') : wpList Try.prog ops Q (o :: rest) a w := by
  obtain ⟨i0, hi0, hz0, hz1, hz2⟩ := info_parts hi
  obtain ⟨ao, c, rfl, hmc, hcm, hl, hnil, hc⟩ := hr
  have hbel : ∀ w', w.grownBy w' v.ownBlock → Below lo w w' := fun w' hg => (Below.refl lo w).grown hg hlo (fun k hk => (hown.lt k hk).1)
  cases ao with
  | none =>
    have hc0 := hnil rfl
    subst hc0
    obtain rfl : m = 0 := by omega
    have hnews : news = [] := List.eq_nil_of_length_eq_zero (by simpa using hl)
    subst hnews
    refine wpList_append_own_none hgd s x t ho lo e i0 sz ht hi0 v n xs hs hown hx ?_
    exact hK v w (by simpa using hown) ⟨rfl, rfl, rfl, Nat.le_refl _, fun _ _ _ => rfl⟩ (Below.refl _ _)
  | some ad =>
    refine wpList_append_own w hgd s x t ho lo e i0 z sz bytes ht hi0 hz0 hz1 hz2 hzs hsz v n xs hs hown ad m c news hx hl ?_ h1 h63 hbytes hlo (fun v' w' h2 h3 _ => hK v' w' h2 h3 (hbel w' h3))
    intro j u hu
    rcases Nat.eq_zero_or_pos m with rfl | hm
    · simp at hl
      simp [hl] at hu
    · obtain ⟨b, off, had, hcell⟩ := hc hm
      obtain rfl : ad = ⟨b, off, none⟩ := by simpa using had
      have hj : j < news.length := (List.getElem?_eq_some_iff.1 hu).1
      have hadd : (⟨b, off, none⟩ : Addr).add j = ⟨b, off + j, none⟩ := by unfold Addr.add; split <;> simp_all
      rw [hadd, hcell j (by omega), hu]

/-- The slice that the translation lays for the elements of one append. -/
theorem Rd.news (w : World) (cs : Array Value) (e : TypeId) (sz n : Nat) (hs : cs.size = n * sz) (hn : n ≤ maxLen) : Rd (w.alloc (.cells cs e)) (.slice (some ⟨w.heap.size, 0, none⟩) n n) sz n cs.toList :=
  Rd.of_owns (World.ownsRow_lit (base := w.heap.size) w cs n (Nat.le_refl _) hn hs)

theorem mem_ints {xs : List Int} : ∀ u ∈ xs.map (Value.int .i64), u.oneCell' = true := by
  intro u hu
  obtain ⟨x, _, rfl⟩ := List.mem_map.1 hu
  rfl

theorem ownsRow_empty (w : World) (e sz : Nat) : (w.alloc (.cells #[] e)).ownsRow w.heap.size e sz (.slice (some ⟨w.heap.size, 0, none⟩) 0 0) 0 [] :=
  World.ownsRow_made w #[] 0 (Nat.le_refl _) (by simp [maxLen]) (by simp)

theorem RdInts.nil_iff {w : World} {a : Option Addr} {n c : Nat} {xs : List Int} (h : RdInts w (.slice a n c) xs) : n = xs.length := by
  obtain ⟨a', c', h', _⟩ := h
  simp at h'
  exact h'.2.1

set_option maxHeartbeats 400000 in
theorem CloneInts_any (v : Value) (xs : List Int) (w : World) (h : RdInts w v xs) (hs : xs.length ≤ 1048576) :
    Calls Try.prog 43 #[v] w fun e w' => ∃ v', e = .returned v' ∧ OwnInts w.heap.size w' v' xs ∧ Below w.heap.size w w' := by
  have h' := h
  obtain ⟨a, c, rfl, hnc, hcm, hl, hnil, hc⟩ := h'
  have hq := fun w => Lib.run_eql_slice_nil (P := Try.prog) w 22 3 a xs.length c 0 0 Try.underlying22
  cases a with
  | none =>
    have hc0 := hnil rfl
    subst hc0
    have h0 : xs = [] := List.eq_nil_of_length_eq_zero (by omega)
    subst h0
    simp only [List.length_nil] at hq
    go_enter Try.func43, Try.ntmps43
    go_wp2
    go_ret
    exact ⟨_, rfl, World.ownsRow_nil _ _ _ _, Below.refl _ _⟩
  | some ad =>
    clear hc hnil
    go_enter Try.func43, Try.ntmps43
    go_wp2_with (refine wp_append (lo := w.heap.size) (v := .slice (some ⟨w.heap.size, 0, none⟩) 0 0) (n := 0) (xs := []) (m := xs.length) (news := xs.map (Value.int .i64)) rfl rfl 3 (.int .i64 0) 1 8 Try.underlying22 Try.infoInt rfl (by decide) rfl (ownsRow_empty _ _ _) rfl (h.alloc _) mem_ints (by unfold maxLen; omega) (by omega) (by simp) ?_; intro v' w' hown _ hbel)
    go_ret
    refine ⟨_, rfl, by simpa [OwnInts] using hown, ((Below.refl _ _).alloc (Nat.le_refl _) _).trans hbel⟩
end Go.Proofs.Ytpkbfkolllcjgaa
