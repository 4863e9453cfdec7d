/-
  append onto an empty slice that the statement itself has laid: the copy of a slice.
-/
import Derived.Test.YtabaemnknjdjoaaGen2
import Derived.ArgAppend
set_option linter.unusedVariables false
namespace Go.Proofs.Ytabaemnknjdjoaa
open Go.RowKit

theorem run_append_empty {lo : Nat} {w : World} {t ty : TypeId} (e : TypeId) (z : Value) (sz bytes : Nat) (ht : Try.prog.underlying t = some (.slice e)) (hi : (Try.prog.info? e).map (fun i => (i.zero, i.size, i.bytes)) = some (some z, sz, bytes))
    (hzs : z.cells.size = sz) (hsz : 0 < sz) {g : Nat} (hb : w.heap[g]? = some (.cells #[] e (0, 0))) (hlo : lo ≤ g) {u : Value} {m : Nat} {news : List Value} (hr : Rd w u sz m news) (h1 : ∀ u ∈ news, u.oneCell' = true)
    (hbytes : m * bytes ≤ 140737488355328) : ∃ v' w', (Builtin.append_ #[t, t] ty #[.slice (some ⟨g, 0, none⟩) 0 0, u]).run Try.prog w = .ok v' w' ∧ w'.ownsRow lo e sz v' m news ∧ Below w.heap.size w w' ∧ (∀ k, v'.ownBlock = some k → k = g ∨ w.heap.size ≤ k) := by
  obtain ⟨i0, hi0, hz0, hz1, hz2⟩ := info_parts hi
  obtain ⟨ao, c, rfl, hmc, hcm, hl, hnil, hc⟩ := hr
  have hgl : g < w.heap.size := (Array.getElem?_eq_some_iff.1 hb).1
  have hown : ∀ l, l ≤ g → w.ownsRow l e sz (.slice (some ⟨g, 0, none⟩) 0 0) 0 [] := fun l hl => ⟨by simp, .inr ⟨g, 0, #[], rfl, hl, hb, Nat.le_refl _, by simp [maxLen], by simp, by simp⟩⟩
  rcases Nat.eq_zero_or_pos m with rfl | hm
  · have hnews : news = [] := List.eq_nil_of_length_eq_zero (by simpa using hl)
    subst hnews
    cases ao with
    | none =>
      have hc0 := hnil rfl
      subst hc0
      exact ⟨_, w, by simp [Builtin.append_, run_underlying ht, sizeOf, typeInfo, hi0, Builtin.lenOf, Builtin.firstCells, storeCells], hown lo hlo, Below.refl _ _, fun k hk => by simp [Value.ownBlock] at hk; exact .inl hk.symm⟩
    | some a =>
      have hf := run_firstCells_some (P := Try.prog) w i0.size 0 a 0 c [] (by simp) (by simp)
      exact ⟨_, w, by simp [Builtin.append_, run_underlying ht, sizeOf, typeInfo, hi0, Builtin.lenOf, hf, storeCells], hown lo hlo, Below.refl _ _, fun k hk => by simp [Value.ownBlock] at hk; exact .inl hk.symm⟩
  · obtain ⟨b, off, rfl, hcell⟩ := hc hm
    obtain ⟨v', w', hrun, r1, r2⟩ := run_append_arg_grows (P := Try.prog) w t ty e i0 z sz bytes ht hi0 hz0 hz1 hz2 hzs hsz ⟨g, 0, none⟩ 0 0 [] (by simp) (by simp) ⟨b, off, none⟩ m c news hl (by
      intro j u hu
      have hj : j < news.length := (List.getElem?_eq_some_iff.1 hu).1
      have hadd : (⟨b, off, none⟩ : Addr).add j = ⟨b, off + j, none⟩ := by unfold Addr.add; split <;> simp_all
      rw [hadd, hcell j (by omega), hu]) (by omega) (by omega) (by rw [Nat.zero_add]; exact hbytes)
    have hB := Below.of_grown r2
    have r1' : w'.ownsRow w.heap.size e sz v' m news := by simpa using r1
    exact ⟨v', w', hrun, own_loV r1' (by omega), hB, fun k hk => .inr (r1'.lt k hk).1⟩
end Go.Proofs.Ytabaemnknjdjoaa
