/-
  What a run against a flat memory loads.
-/
import Derived.Test.YtabaemnknjdjoaaStep3
import Derived.Test.YtabaemnknjdjoaaGen2
namespace Go.Proofs.Ytabaemnknjdjoaa
open Go.RowKit

/-- One step: the words and what has been loaded. -/
def flatStep (st : List Int × List Int) (s : StepV) : List Int × List Int :=
  if s.k = 1 then (st.1, st.2 ++ [nth st.1 s.a.toNat]) else if s.k = 2 then (st.1.set s.a.toNat s.x, st.2) else st
def flatRun (ss : List StepV) : List Int × List Int := ss.foldl flatStep (List.replicate 64 0, [])
def flatOut (ss : List StepV) : List Int := if stepsOk ss then (flatRun ss).2 else []

theorem flatRun_snoc (ss : List StepV) (s : StepV) : flatRun (ss ++ [s]) = flatStep (flatRun ss) s := by simp [flatRun]
theorem flatRun_next {ss : List StepV} {k : Nat} {s : StepV} (h : ss[k]? = some s) : flatRun (ss.take (k + 1)) = flatStep (flatRun (ss.take k)) s := by rw [take_one h, flatRun_snoc]
theorem flatStep_len (st : List Int × List Int) (s : StepV) : (flatStep st s).1.length = st.1.length := by
  unfold flatStep; split
  · rfl
  · split
    · simp
    · rfl
theorem flatRun_len (ss : List StepV) : (flatRun ss).1.length = 64 := by
  have : ∀ (ss : List StepV) (st : List Int × List Int), st.1.length = 64 → (ss.foldl flatStep st).1.length = 64 := by
    intro ss
    induction ss with
    | nil => intro st h; exact h
    | cons s ss ih => intro st h; exact ih _ (by rw [flatStep_len, h])
  exact this ss _ (by simp)
theorem flatRun_out (ss : List StepV) : (flatRun ss).2.length ≤ ss.length := by
  have : ∀ (ss : List StepV) (st : List Int × List Int), (ss.foldl flatStep st).2.length ≤ st.2.length + ss.length := by
    intro ss
    induction ss with
    | nil => intro st; simp
    | cons s ss ih =>
      intro st
      have h1 := ih (flatStep st s)
      have h2 : (flatStep st s).2.length ≤ st.2.length + 1 := by
        unfold flatStep; split
        · simp
        · split <;> simp
      simp only [List.foldl_cons, List.length_cons]
      omega
  have := this ss (List.replicate 64 0, [])
  simpa [flatRun] using this
theorem flatStep1 {st : List Int × List Int} {s : StepV} (h : s.k = 1) : flatStep st s = (st.1, st.2 ++ [nth st.1 s.a.toNat]) := by simp [flatStep, h]
theorem flatStep2 {st : List Int × List Int} {s : StepV} (h : s.k = 2) : flatStep st s = (st.1.set s.a.toNat s.x, st.2) := by simp [flatStep, h]
theorem flatStep3 {st : List Int × List Int} {s : StepV} (h1 : s.k ≠ 1) (h2 : s.k ≠ 2) : flatStep st s = st := by simp [flatStep, h1, h2]

theorem stepsOk_at {ss : List StepV} {k : Nat} {s : StepV} (h : stepsOk ss = true) (hs : ss[k]? = some s) : s.ok = true := by
  simp only [stepsOk, Bool.and_eq_true] at h
  exact List.all_eq_true.1 h.2 s (List.mem_of_getElem? hs)
theorem stepsOk_len {ss : List StepV} (h : stepsOk ss = true) : ss.length ≤ 80 := by
  simp only [stepsOk, Bool.and_eq_true, decide_eq_true_eq] at h
  exact h.1
theorem ok_load {s : StepV} (h : s.ok = true) (hk : s.k = 1) : 0 ≤ s.a ∧ s.a ≤ 63 := by
  rw [StepV.ok, if_pos hk] at h; exact inB_iff.1 h
theorem ok_store {s : StepV} (h : s.ok = true) (hk : s.k = 2) : 0 ≤ s.a ∧ s.a ≤ 63 := by
  rw [StepV.ok, if_neg (by omega), if_pos hk, Bool.and_eq_true] at h; exact inB_iff.1 h.1

/-- The state of a run: the words in block g, what has been loaded in o. -/
def FlatSt (lo g : Nat) (o : Value) (st : List Int × List Int) (w0 w : World) : Prop :=
  OwnInts lo w (.slice (some ⟨g, 0, none⟩) 64 64) st.1 ∧ OwnInts lo w o st.2 ∧ Apart o (.slice (some ⟨g, 0, none⟩) 64 64) ∧ Below lo w0 w ∧ lo ≤ w.heap.size

theorem FlatSt.below {lo g : Nat} {o : Value} {st : List Int × List Int} {w0 w w1 : World} (h : FlatSt lo g o st w0 w) (hb : Below w.heap.size w w1) : FlatSt lo g o st w0 w1 :=
  ⟨h.1.below hb, h.2.1.below hb, h.2.2.1, h.2.2.2.1.trans (hb.mono h.2.2.2.2), Nat.le_trans h.2.2.2.2 hb.size⟩

theorem FlatSt.load {lo g : Nat} {o o' : Value} {st : List Int × List Int} {w0 w w1 : World} {x : Int} (h : FlatSt lo g o st w0 w)
    (h1 : w1.ownsRow lo 3 1 o' (st.2.length + 1) (st.2.map (Value.int .i64) ++ [.int .i64 x])) (h2 : w.grownBy w1 o.ownBlock) (h3 : o'.ownBlock = o.ownBlock ∨ o'.ownBlock = some w.heap.size) (h4 : Below lo w w1) :
    FlatSt lo g o' (st.1, st.2 ++ [x]) w0 w1 := by
  obtain ⟨a1, a2, a3, a4, a5⟩ := h
  refine ⟨own_grown a1 h2 a3.symm.ne, by simpa [OwnInts] using h1, a3.grown h3 (fun k hk => (a1.lt k hk).2), a4.trans h4, Nat.le_trans a5 h4.size⟩

theorem FlatSt.store {lo g : Nat} {o : Value} {st : List Int × List Int} {w0 w : World} (h : FlatSt lo g o st w0 w) (hl : st.1.length = 64) (j : Nat) (x : Int) :
    FlatSt lo g o (st.1.set j x, st.2) w0 (w.setCell ⟨g, j, none⟩ (.int .i64 x)) := by
  obtain ⟨a1, a2, a3, a4, a5⟩ := h
  have hg : lo ≤ g := (a1.lt g rfl).1
  have b1 : w.ownsRow lo 3 1 (.slice (some ⟨g, 0, none⟩) 64 64) 64 (st.1.map (Value.int .i64)) := by have := a1; unfold OwnInts at this; rwa [hl] at this
  obtain ⟨s1, s2⟩ := World.ownsRow.stored b1 j (.int .i64 x)
  refine ⟨?_, own_grown a2 s2 (by have := a3.ne; simpa [Value.ownBlock] using this), a3, a4.trans ((Below.refl _ _).setCell hg _), by simpa using a5⟩
  unfold OwnInts
  rw [List.length_set, List.map_set, hl]
  exact s1
end Go.Proofs.Ytabaemnknjdjoaa
