/-
  Arguments that are slices of structs, opened: what they read as.
-/
import Derived.Test.YtgdehdfbdjgmdaaDoorGen
import Derived.Deep.Slices
import Derived.Deep.Fields
import Derived.ChangeSame
import Derived.ChangeArms
namespace Go.Proofs.YtgdehdfbdjgmdaaDoor
open Go.RowKit Go.ChangeShapes Go.WideShapes Go.Deep

theorem rd_of_open {α : Type} {cs : α → List Value} {sz : Nat} (hs : ∀ x, (cs x).length = sz) (hsz : 0 < sz) {w : World} (a : Addr) (len cap : Nat) (hlc : len ≤ cap) (hcm : cap ≤ maxLen)
    (hel : ∀ i, i < len → ∃ x, ∀ j, j < sz → w.cell? (a.add (i * sz + j)) = (cs x)[j]?) : ∃ xs : List α, xs.length = len ∧ Rd w (.slice (some a) len cap) sz len (flat cs xs) := by
  have hall : ∀ n, n ≤ len → ∃ xs : List α, xs.length = n ∧ ∀ i x, xs[i]? = some x → ∀ j, j < sz → w.cell? (a.add (i * sz + j)) = (cs x)[j]? := by
    intro n
    induction n with
    | zero => intro _; exact ⟨[], rfl, fun i x h => by simp at h⟩
    | succ n ih =>
      intro hn
      obtain ⟨xs, hl, hx⟩ := ih (by omega)
      obtain ⟨y, hy⟩ := hel n (by omega)
      refine ⟨xs ++ [y], by simp [hl], fun i x h => ?_⟩
      by_cases hi : i < xs.length
      · rw [List.getElem?_append_left hi] at h
        exact hx i x h
      · have hi' := (List.getElem?_eq_some_iff.1 h).1
        simp at hi'
        obtain rfl : i = xs.length := by omega
        simp at h
        subst h
        rw [hl]
        exact hy
  obtain ⟨xs, hl, hx⟩ := hall len (Nat.le_refl _)
  refine ⟨xs, hl, some a, cap, rfl, hlc, hcm, by rw [flat_len hs, hl], (fun h => by cases h), fun hn => ?_⟩
  have key : ∀ j, j < len * sz → w.cell? (a.add j) = (flat cs xs)[j]? := by
    intro j hj
    have hk : j / sz < len := Nat.div_lt_of_lt_mul (by rw [Nat.mul_comm]; exact hj)
    obtain ⟨x, hxk⟩ : ∃ x, xs[j / sz]? = some x := ⟨_, List.getElem?_eq_getElem (by omega)⟩
    have hr := Nat.mod_lt j hsz
    have e : j / sz * sz + j % sz = j := by rw [Nat.mul_comm]; exact Nat.div_add_mod j sz
    have h1 := hx _ _ hxk (j % sz) hr
    have h2 := flat_at hs hxk hr
    rw [e] at h1 h2
    rw [h1, h2]
  obtain ⟨b, off, spot⟩ := a
  have h0 : 0 < len * sz := Nat.mul_pos hn hsz
  have hz := key 0 h0
  rw [List.getElem?_eq_getElem (by rw [flat_len hs, hl]; exact h0)] at hz
  cases spot with
  | some q => simp [Addr.add, World.cell?] at hz; split at hz <;> simp_all
  | none =>
    refine ⟨b, off, rfl, fun j hj => ?_⟩
    have hadd : (⟨b, off, none⟩ : Addr).add j = ⟨b, off + j, none⟩ := by unfold Addr.add; split <;> simp_all
    rw [← hadd]
    exact key j hj

set_option maxRecDepth 100000 in
/-- A slice that came in, of whatever elements. -/
theorem open_flat {α : Type} {cs : α → List Value} {sz : Nat} (hs : ∀ x, (cs x).length = sz) (hsz : 0 < sz) {H : Type} {enc : TypeId × Value → H} {W : World} {base b0 : Nat} {spare : Nat → Bool} {held : Bool} {r : Reach} {T E : TypeId} {v : Value} {d : DataW H} {p : List MemPlace}
    (ht : Tryd.prog.underlying T = some (.slice E)) (hc : Tryd.prog.cellsOf E = sz) (hv : Value.okWide Tryd.prog W r b0 T v) (h : DataW.Trod enc Tryd.prog W base spare held T v d p)
    (hel : ∀ (n : Nat) (l : List Value) y, DataW.trod enc Tryd.prog W base spare held n E l = some y → ∃ x, l = cs x) : ∃ xs : List α, Rd W v sz xs.length (flat cs xs) := by
  obtain ⟨a0, len0, cap0, rfl⟩ := okWide_slice ht hv
  obtain ⟨fuel, hf⟩ := h
  rcases open_slice ht hf with ⟨h0, _⟩ | ⟨a, len, cap, m, n, D, Pl, hcs, hb, hl, hm, hmm, hx, hi⟩
  · simp [Value.cells] at h0
    obtain ⟨rfl, rfl, rfl⟩ := h0
    exact ⟨[], none, 0, rfl, Nat.le_refl _, by simp [maxLen], by simp [flat], fun _ => rfl, fun h => absurd h (by simp)⟩
  · simp [Value.cells] at hcs
    obtain ⟨rfl, rfl, rfl⟩ := hcs
    have hle : len0 ≤ m := by rw [hmm]; split <;> omega
    obtain ⟨xs, hxl, hR⟩ := rd_of_open (cs := cs) hs hsz a len0 cap0 hl hm (fun i hlt => by
      obtain ⟨l, hc1, ht1⟩ := hi i (by omega)
      obtain ⟨x, rfl⟩ := hel n l _ ht1
      rw [hc] at hc1
      obtain ⟨_, _, hcell⟩ := World.cells?_some hc1
      exact ⟨x, fun j hj => by rw [← add_add]; exact hcell j hj⟩)
    exact ⟨xs, by rw [hxl]; exact hR⟩
end Go.Proofs.YtgdehdfbdjgmdaaDoor
