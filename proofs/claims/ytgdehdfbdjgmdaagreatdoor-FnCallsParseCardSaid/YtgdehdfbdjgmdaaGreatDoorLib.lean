/-
  Walks: what the library gives for reading a call: Split, Atoi, Index, TrimPrefix. Conditions: some variables of the library lie as they are laid.
-/
import Derived.Test.YtgdehdfbdjgmdaaGreatDoorCut
import Derived.Test.YtgdehdfbdjgmdaaGreatDoorShelf
set_option linter.unusedVariables false
namespace Go.Proofs.YtgdehdfbdjgmdaaGreatDoor
open Go.RowKit Go.Shelf

/-- The variables that the library's functions read. -/
def PTabs (w : World) : Prop := Tabs w ∧ (∃ m, w.cell? ⟨0, 0, none⟩ = some (.int .i64 m)) ∧ (∃ t p, w.cell? ⟨1, 0, none⟩ = some (.iface t p)) ∧ ∃ t p, w.cell? ⟨2, 0, none⟩ = some (.iface t p)
theorem PTabs.below {w w' : World} (h : PTabs w) (hb : Below w.heap.size w w') : PTabs w' := by
  obtain ⟨h0, ⟨m, h1⟩, ⟨t, p, h2⟩, ⟨t', p', h3⟩⟩ := h
  exact ⟨h0.below hb, ⟨m, (hb.cell (World.block_lt_of_cell? w _ h1)).trans h1⟩, ⟨t, p, (hb.cell (World.block_lt_of_cell? w _ h2)).trans h2⟩, ⟨t', p', (hb.cell (World.block_lt_of_cell? w _ h3)).trans h3⟩⟩

theorem split_cutB (a : UInt8) (s : ByteArray) : Lib.splitB ⟨#[a]⟩ 0 (Lib.countB s ⟨#[a]⟩) s = cutB a s := by
  have h := Lib.splitB_data ⟨#[a]⟩ 0 (Lib.countB s ⟨#[a]⟩) s
  have h2 : Lib.splitK [a] 0 (Lib.countB s ⟨#[a]⟩) s.data.toList = cutL a s.data.toList := splitK_cutL a _ _ (by rw [Lib.countB]; exact (Lib.count_one _ _).symm)
  have h3 : (Lib.splitB ⟨#[a]⟩ 0 (Lib.countB s ⟨#[a]⟩) s).map (·.data.toList) = cutL a s.data.toList := h.trans h2
  unfold cutB
  rw [← h3, List.map_map]
  have : (ofL ∘ fun x : ByteArray => x.data.toList) = id := by funext x; exact ofL_of x
  rw [this, List.map_id]

theorem ownsRow_lit (w : World) (e : TypeId) (sz n : Nat) (xs : List Value) (hl : xs.length = n * sz) (hm : n ≤ maxLen) : (w.alloc (.cells xs.toArray e)).ownsRow w.heap.size e sz (.slice (some ⟨w.heap.size, 0, none⟩) n n) n xs :=
  ⟨hl, .inr ⟨_, _, _, rfl, Nat.le_refl _, heap_alloc_new _ _, Nat.le_refl _, hm, by simpa using hl, by rw [← hl]; simp⟩⟩

theorem Split_any (s : ByteArray) (a : UInt8) (w : World) (hs : s.size ≤ 1048577) (h : PTabs w) :
    Calls Tryz.prog 15 #[.string s, .string ⟨#[a]⟩] w fun e w' => ∃ v, e = .returned v ∧ OwnStrs w.heap.size w' v (cutB a s) ∧ Below w.heap.size w w' := by
  obtain ⟨_, ⟨m, hm⟩, _⟩ := h
  refine (Any.strings_Split { Tryz.laysM146 with } Tryz.laysM146.i9 s ⟨#[a]⟩ m w (by omega) hm (Nat.le_refl 1)).mono ?_
  rintro e w' ⟨rfl, rfl⟩
  have hl := Lib.splitB_all ⟨#[a]⟩ (Nat.le_refl 1) 0 _ s rfl
  rw [← hl, split_cutB]
  refine ⟨_, rfl, ?_, below1 _ _⟩
  have hc : (cutB a s).length ≤ 1048578 := by
    unfold cutB
    rw [List.length_map]
    have := cutL_len_le a s.data.toList
    have e : s.data.toList.length = s.size := by simp
    omega
  exact ownsRow_lit w 9 1 (cutB a s).length ((cutB a s).map Value.string) (by simp) (by simp only [maxLen]; omega)

/-- What Atoi gives. -/
def AtoiRes (s : ByteArray) (n : Int) (err : Value) : Prop := (err = .nilIface ∧ Lib.atoiAll s.data.toList = .ok n) ∨ ((∃ t p, err = .iface t p) ∧ ∀ v, Lib.atoiAll s.data.toList ≠ .ok v)
theorem Atoi_any (s : ByteArray) (w : World) (hs : s.size ≤ 1048577) (h : PTabs w) :
    Calls Tryz.prog 26 #[.string s] w fun e w' => (∃ n err, e = .returned (.tuple #[.int .i64 n, err]) ∧ AtoiRes s n err) ∧ Below w.heap.size w w' := by
  obtain ⟨_, _, ⟨t, p, h2⟩, ⟨t', p', h3⟩⟩ := h
  generalize hr : Lib.atoiAll s.data.toList = r
  cases r
  · refine (Any.strconv_Atoi_ok Tryz.laysC172 s (by omega) _ hr w).mono ?_
    rintro e w' ⟨rfl, hw⟩
    refine ⟨⟨_, _, rfl, .inl ⟨rfl, hr⟩⟩, ?_⟩
    rcases hw with rfl | ⟨t, rfl⟩
    · exact Below.refl _ _
    · exact Lib.bytesWorld_below _ _ _
  · refine (Any.strconv_Atoi_syntax Tryz.laysC172 s (by omega) hr _ w h2 (.inr ⟨t, p, rfl⟩)).mono ?_
    rintro e w' ⟨N, rfl, _, _, hb⟩
    exact ⟨⟨_, _, rfl, .inr ⟨⟨_, _, rfl⟩, fun v h => by rw [hr] at h; cases h⟩⟩, hb⟩
  · refine (Any.strconv_Atoi_range Tryz.laysC172 s (by omega) hr _ w h3 (.inr ⟨t', p', rfl⟩)).mono ?_
    rintro e w' ⟨N, rfl, _, _, hb⟩
    exact ⟨⟨_, _, rfl, .inr ⟨⟨_, _, rfl⟩, fun v h => by rw [hr] at h; cases h⟩⟩, hb⟩

def kindLs : List ByteArray := (List.range 11).map fun i => kindB (i + 1)
theorem kind_idx : ∀ j : Fin 12, 1 ≤ j.val → Lib.idxOfS kindLs (kindB j.val) = (j.val : Int) - 1 := by decide +kernel
theorem idx_bounds : ∀ (zs : List ByteArray) (x : ByteArray) (i : Nat), -1 ≤ Lib.idxFromS zs x i ∧ Lib.idxFromS zs x i ≤ (zs.length + i : Nat) := by
  intro zs
  induction zs with
  | nil => intro x i; simp only [Lib.idxFromS, List.length_nil]; omega
  | cons z zs ih =>
    intro x i
    unfold Lib.idxFromS
    split
    · simp only [List.length_cons]; omega
    · have := ih x (i + 1)
      simp only [List.length_cons]
      omega
theorem idx_kinds (x : ByteArray) : -1 ≤ Lib.idxOfS kindLs x ∧ Lib.idxOfS kindLs x ≤ 11 := idx_bounds kindLs x 0

theorem Index_kinds (g : Nat) (x : ByteArray) (w : World) (h : w.heap[g]? = some (.cells kindArr 9 (0, 0))) :
    Calls Tryz.prog 27 #[.slice (some ⟨g, 0, none⟩) 11 11, .string x] w fun e w' => e = .returned (.int .i64 (Lib.idxOfS kindLs x)) ∧ w' = w := by
  refine (Any.slices_Index_string Tryz.lays109 g 0 11 11 kindLs x w (by decide) (by decide) ?_).mono ?_
  · intro j hj
    have hj' : j < 11 := by simpa [kindLs] using hj
    have := cell_at_arr (k := j + 1) ⟨by omega, by omega⟩ h
    rw [Nat.add_sub_cancel] at this
    rw [Nat.zero_add, this]
    simp [kindLs, hj']
  · rintro e w' ⟨rfl, rfl⟩
    exact ⟨by rw [List.take_of_length_le (by decide)], rfl⟩

def dropSl (s : ByteArray) : ByteArray := ⟨(Lib.trimPrefix s.data.toList [47]).toArray⟩
theorem dropSl_ok (l : List UInt8) : dropSl (ofL (47 :: l)) = ofL l := by
  simp [dropSl, ofL, Lib.trimPrefix, Lib.hasPrefix]
theorem dropSl_size (s : ByteArray) : (dropSl s).size ≤ s.size := by
  unfold dropSl Lib.trimPrefix
  split
  · simp only [ByteArray.size, List.size_toArray, List.length_drop, Array.length_toList]; omega
  · simp only [ByteArray.size, List.size_toArray, Array.length_toList]; omega
theorem TrimPrefix_any (s : ByteArray) (w : World) :
    Calls Tryz.prog 29 #[.string s, .string ⟨#[47]⟩] w fun e w' => e = .returned (.string (dropSl s)) ∧ w' = w := Any.strings_TrimPrefix Tryz.lays101 s ⟨#[47]⟩ w
end Go.Proofs.YtgdehdfbdjgmdaaGreatDoor
