/-
  Walks: a text cut at a byte, by the reference; rows of texts.
-/
import Derived.Test.YtgdehdfbdjgmdaaGreatDoorDrC
import Derived.Test.YtgdehdfbdjgmdaaGreatDoorCText
import Derived.Test.YtgdehdfbdjgmdaaGreatDoorCTextB
set_option linter.unusedVariables false
namespace Go.Proofs.YtgdehdfbdjgmdaaGreatDoor
open Go.RowKit

def strCs (s : ByteArray) : List Value := [.string s]
theorem strCs_len (s : ByteArray) : (strCs s).length = 1 := rfl
theorem flat_strs (ss : List ByteArray) : flat strCs ss = ss.map Value.string := by
  induction ss with
  | nil => rfl
  | cons s ss ih => rw [flat_cons, ih]; rfl
/-- v reads as the texts ss. -/
def RdStrs (w : World) (v : Value) (ss : List ByteArray) : Prop := Rd w v 1 ss.length (ss.map Value.string)
def OwnStrs (lo : Nat) (w : World) (v : Value) (ss : List ByteArray) : Prop := w.ownsRow lo 9 1 v ss.length (ss.map Value.string)
theorem OwnStrs.rd {lo : Nat} {w : World} {v : Value} {ss : List ByteArray} (h : OwnStrs lo w v ss) : RdStrs w v ss := Rd.of_owns h
theorem OwnStrs.below {lo : Nat} {w w' : World} {v : Value} {ss : List ByteArray} (h : OwnStrs lo w v ss) (hb : Below w.heap.size w w') : OwnStrs lo w' v ss := ownsRow_below h hb
theorem RdStrs.below {w w' : World} {v : Value} {ss : List ByteArray} (h : RdStrs w v ss) (hb : Below w.heap.size w w') : RdStrs w' v ss := Rd.below h hb
theorem RdStrs.open {w : World} {v : Value} {ss : List ByteArray} (h : RdStrs w v ss) : ∃ a cap, v = .slice a ss.length cap ∧ ss.length ≤ cap ∧ cap ≤ maxLen ∧ ∀ k, k < ss.length → ∃ b off, a = some ⟨b, off, none⟩ ∧ b < w.heap.size ∧ w.cell? ⟨b, off + k, none⟩ = some (.string (nthS ss k)) := by
  obtain ⟨a, cap, rfl, hnc, hcm, hl, _, hc⟩ := h
  refine ⟨a, cap, rfl, hnc, hcm, fun k hk => ?_⟩
  obtain ⟨b, off, rfl, hcell⟩ := hc (by omega)
  have := hcell k (by omega)
  rw [List.getElem?_map, nthS_lt hk] at this
  exact ⟨b, off, rfl, World.block_lt_of_cell? w _ this, this⟩

theorem Tryz.infoStr : (Tryz.prog.info? 9).map (fun i => (i.zero, i.size, i.bytes)) = some (some (.string ⟨#[]⟩), 1, 16) := by kernel_rfl

def ofL (l : List UInt8) : ByteArray := ⟨l.toArray⟩
theorem ofL_toList (l : List UInt8) : (ofL l).data.toList = l := rfl
theorem ofL_of (s : ByteArray) : ofL s.data.toList = s := by
  obtain ⟨⟨l⟩⟩ := s
  rfl
/-- The pieces of a text. -/
def cutB (a : UInt8) (s : ByteArray) : List ByteArray := (cutL a s.data.toList).map ofL

theorem ext_list (s : ByteArray) (f t : Nat) : (s.extract f t).data.toList = (s.data.toList.drop f).take (t - f) := by
  rw [ByteArray.data_extract, Array.toList_extract, List.extract_eq_take_drop]
theorem cut_hit {s : ByteArray} {a : UInt8} {f k : Nat} (hf : f ≤ k) (hk : k < s.size) (hpre : ∀ j (hj : j < s.size), f ≤ j → j < k → s[j] ≠ a) (ha : s[k] = a) :
    cutL a (s.data.toList.drop f) = (s.extract f k).data.toList :: cutL a (s.data.toList.drop (k + 1)) := by
  have hl : s.data.toList.length = s.size := by simp
  have e : s.data.toList.drop f = (s.extract f k).data.toList ++ a :: s.data.toList.drop (k + 1) := by
    rw [ext_list]
    have h1 : s.data.toList.drop f = (s.data.toList.drop f).take (k - f) ++ (s.data.toList.drop f).drop (k - f) := (List.take_append_drop _ _).symm
    rw [List.drop_drop, show f + (k - f) = k by omega] at h1
    rw [h1]
    congr 1
    · rw [List.take_append_of_le_length (by rw [List.length_take, List.length_drop]; omega), List.take_take, Nat.min_self]
    · rw [List.drop_eq_getElem_cons (by omega)]
      congr 1
  rw [e]
  refine cutL_app (fun b hb => ?_) _
  rw [ext_list] at hb
  obtain ⟨j, hj, rfl⟩ := List.getElem_of_mem hb
  rw [List.length_take, List.length_drop] at hj
  rw [List.getElem_take, List.getElem_drop]
  have := hpre (f + j) (by omega) (by omega) (by omega)
  simpa [ByteArray.getElem_eq_getElem_data] using this
theorem cut_end {s : ByteArray} {a : UInt8} {f : Nat} (hpre : ∀ j (hj : j < s.size), f ≤ j → s[j] ≠ a) : cutL a (s.data.toList.drop f) = [(s.extract f s.size).data.toList] := by
  have hl : s.data.toList.length = s.size := by simp
  have e : (s.extract f s.size).data.toList = s.data.toList.drop f := by
    rw [ext_list, List.take_of_length_le]
    rw [List.length_drop]; omega
  rw [e]
  refine cutL_free fun b hb => ?_
  obtain ⟨j, hj, rfl⟩ := List.getElem_of_mem hb
  rw [List.length_drop] at hj
  rw [List.getElem_drop]
  have := hpre (f + j) (by omega) (by omega)
  simpa [ByteArray.getElem_eq_getElem_data] using this

theorem ofL_ext (s : ByteArray) (f t : Nat) : ofL (s.extract f t).data.toList = s.extract f t := ofL_of _

set_option maxRecDepth 100000 in
set_option maxHeartbeats 2000000 in
theorem l43Cut_any (s : ByteArray) (a : UInt8) (w : World) (hs : s.size ≤ 1048577) :
    Calls Tryz.prog 17 #[.string s, .int .u8 (a.toNat : Int)] w fun e w' => ∃ v, e = .returned v ∧ OwnStrs w.heap.size w' v (cutB a s) ∧ Below w.heap.size w w' := by
  go_enter Tryz.func17, Tryz.ntmps17
  go_wp2_with fail
  go_loopw [5, 6, 7] (fun o fr i wr => ∃ k f : Nat, f ≤ k ∧ k ≤ s.size ∧ i = .int .i64 k ∧ fr = .int .i64 f ∧ ∃ done : List ByteArray, done.length ≤ f ∧ OwnStrs w.heap.size wr o done ∧ cutB a s = done ++ (cutL a (s.data.toList.drop f)).map ofL ∧ (∀ j (hj : j < s.size), f ≤ j → j < k → s[j] ≠ a) ∧ Below w.heap.size w wr) (fun _ _ i _ => s.size - (intOf i).toNat)
  case atStart => exact ⟨0, 0, Nat.le_refl _, Nat.zero_le _, rfl, rfl, [], Nat.le_refl _, ownsRow_empty _ _ _, by simp [cutB], fun j _ _ hj => absurd hj (Nat.not_lt_zero _), below1 _ _⟩
  case round =>
    obtain ⟨k, f, hfk, hk, rfl, rfl, done, hdl, hown, hcut, hpre, hbel⟩ := hrel
    have Hcut := Lib.hid hcut; clear hcut
    have Hpre := Lib.hid hpre; clear hpre
    have hz := hbel.size
    by_cases hlt : k < s.size
    · by_cases ha : s[k] = a
      · have t : ((s[k].toNat : Int) == (a.toNat : Int)) = true := by simp [ha]
        have S := Lib.hid (cut_hit hfk hlt Hpre.out ha)
        clear ha
        have i1 : (f : Int) ≤ k := by omega
        have i2 : (k : Int) ≤ s.size := by omega
        go_wp2_with (at_builtin; go_must (refine wp_append (lo := w.heap.size) (n := done.length) (xs := done.map Value.string) (m := 1) (news := [.string (s.extract f k)]) rfl rfl 9 (.string ⟨#[]⟩) 1 16 Tryz.underlying38 Tryz.infoStr rfl (by decide) rfl (ownsRow_below hown (below1 _ _)) rfl (Rd.newsAt _ #[_] _ 1 1 _ (by simp) rfl (by simp [maxLen])) (by simp [Value.oneCell']) (by unfold maxLen; omega) (by omega) (by simp; omega) ?_; intro o' w4 g1 g2 g3))
        go_roundw
        case rel =>
          refine ⟨k + 1, k + 1, Nat.le_refl _, by omega, by go_num, by go_num, done ++ [s.extract f k], by simp; omega, by simpa [OwnStrs] using g1, ?_, fun j _ h1 h2 => by omega, hbel.trans (((below1 wr _).mono hz).trans g3)⟩
          rw [Hcut.out, S.out, List.map_cons, ofL_ext]
          simp
        case measure => simp [intOf]; omega
      · have t : ((s[k].toNat : Int) == (a.toNat : Int)) = false := by
          rw [beq_eq_false_iff_ne]
          intro e
          exact ha (UInt8.toNat_inj.1 (by omega))
        have Ha := Lib.hid ha
        clear ha
        go_wp2_with fail
        go_roundw
        case rel => exact ⟨k + 1, f, by omega, by omega, by go_num, rfl, done, hdl, hown, Hcut.out, fun j hj h1 h2 => by
            rcases Nat.lt_succ_iff_lt_or_eq.1 h2 with h | h
            · exact Hpre.out j hj h1 h
            · subst h; exact Ha.out, hbel⟩
        case measure => simp [intOf]; omega
    · have S := Lib.hid (cut_end (s := s) (a := a) (f := f) (fun j hj h1 => Hpre.out j hj h1 (by omega)))
      have i1 : (f : Int) ≤ s.size := by omega
      go_wp2_with (at_builtin; go_must (refine wp_append (lo := w.heap.size) (n := done.length) (xs := done.map Value.string) (m := 1) (news := [.string (s.extract f s.size)]) rfl rfl 9 (.string ⟨#[]⟩) 1 16 Tryz.underlying38 Tryz.infoStr rfl (by decide) rfl (ownsRow_below hown (below1 _ _)) rfl (Rd.newsAt _ #[_] _ 1 1 _ (by simp) rfl (by simp [maxLen])) (by simp [Value.oneCell']) (by unfold maxLen; omega) (by omega) (by simp; omega) ?_; intro o' w4 g1 g2 g3))
      go_ret
      refine ⟨_, rfl, ?_, hbel.trans (((below1 wr _).mono hz).trans g3)⟩
      have e : cutB a s = done ++ [s.extract f s.size] := by rw [Hcut.out, S.out, List.map_cons, ofL_ext]; rfl
      rw [e]
      simpa [OwnStrs] using g1
end Go.Proofs.YtgdehdfbdjgmdaaGreatDoor
