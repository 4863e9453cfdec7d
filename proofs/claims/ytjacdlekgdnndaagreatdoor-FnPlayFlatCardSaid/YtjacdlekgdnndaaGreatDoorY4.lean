/-
  Packed: 17 texts.
-/
import Derived.Ground.NamesProg
import Derived.Ground.Names2Prog
import Derived.Shelf.Slices.CompactI
import Derived.Shelf.Slices.Turned
import Derived.Shelf.Sort.Plain
import Derived.Shelf.Spec.SearchS
import Derived.Shelf.Spec.SlicesInsertGrow
import Derived.Shelf.Strings.Prefix
import Derived.Shelf.Strings.SlTrimAscii
import Derived.Test.YtjacdlekgdnndaaGreatDoorProg
import Derived.Shelf.Strconv.ErrVarAll
import Derived.Shelf.Strconv.Itoa3
import Derived.Shelf.Strings.SplitShaped
import Derived.Test.YtjacdlekgdnndaaGreatDoorY1
import Derived.Test.YtjacdlekgdnndaaGreatDoorY3
import Derived.Sort.OwnSortedInts
import Derived.Shelf.Slices.In.SortNone
namespace Go.Proofs
open Go.Shelf
def Tryz.lays189_ren : Go.Shelf.Ren := ⟨fun | 189 => 122 | 125 => 189 | 257 => 188 | 128 => 242 | 129 => 243 | 294 => 233 | 295 => 234 | 296 => 235 | 297 => 236 | 298 => 237 | 299 => 238 | 216 => 239 | 300 => 240 | 301 => 241 | 328 => 283 | 329 => 284 | 330 => 285 | 331 => 286 | 332 => 287 | 215 => 288 | 343 => 327 | n => n, fun | 28 => 38 | 3 => 3 | 46 => 195 | 0 => 0 | 51 => 245 | 53 => 247 | 4 => 4 | 183 => 238 | 182 => 237 | 131 => 101 | 5 => 5 | 9 => 9 | 218 => 269 | 222 => 233 | 228 => 298 | 229 => 147 | n => n, fun | n => n⟩
theorem Tryz.lays189 : Go.Proofs.Lays.n189 Tryz.prog Tryz.lays189_ren := {
 mixed := by kernel_rfl
 f125 := Tryz.func189.trans (congrArg some (by kernel_rfl))
 f128 := Tryz.func242.trans (congrArg some (by kernel_rfl))
 f129 := Tryz.func243.trans (congrArg some (by kernel_rfl))
 f189 := Tryz.func122.trans (congrArg some (by kernel_rfl))
 f215 := Tryz.func288.trans (congrArg some (by kernel_rfl))
 f216 := Tryz.func239.trans (congrArg some (by kernel_rfl))
 f257 := Tryz.func188.trans (congrArg some (by kernel_rfl))
 f294 := Tryz.func233.trans (congrArg some (by kernel_rfl))
 f295 := Tryz.func234.trans (congrArg some (by kernel_rfl))
 f296 := Tryz.func235.trans (congrArg some (by kernel_rfl))
 f297 := Tryz.func236.trans (congrArg some (by kernel_rfl))
 f298 := Tryz.func237.trans (congrArg some (by kernel_rfl))
 f299 := Tryz.func238.trans (congrArg some (by kernel_rfl))
 f300 := Tryz.func240.trans (congrArg some (by kernel_rfl))
 f301 := Tryz.func241.trans (congrArg some (by kernel_rfl))
 f328 := Tryz.func283.trans (congrArg some (by kernel_rfl))
 f329 := Tryz.func284.trans (congrArg some (by kernel_rfl))
 f330 := Tryz.func285.trans (congrArg some (by kernel_rfl))
 f331 := Tryz.func286.trans (congrArg some (by kernel_rfl))
 f332 := Tryz.func287.trans (congrArg some (by kernel_rfl))
 f343 := Tryz.func327.trans (congrArg some (by kernel_rfl))
 t0 := Tryz.underlying0
 a0 := Tryz.isAgg0
 z0 := Tryz.sizeOf0
 v0 := Tryz.zeroValue0
 t3 := Tryz.underlying3
 a3 := Tryz.isAgg3
 z3 := Tryz.sizeOf3
 v3 := Tryz.zeroValue3
 t4 := Tryz.underlying4
 a4 := Tryz.isAgg4
 z4 := Tryz.sizeOf4
 v4 := Tryz.zeroValue4
 t5 := Tryz.underlying5
 a5 := Tryz.isAgg5
 z5 := Tryz.sizeOf5
 v5 := Tryz.zeroValue5
 t9 := Tryz.underlying9
 a9 := Tryz.isAgg9
 z9 := Tryz.sizeOf9
 v9 := Tryz.zeroValue9
 t28 := Tryz.underlying38
 a28 := Tryz.isAgg38
 z28 := Tryz.sizeOf38
 v28 := Tryz.zeroValue38
 t46 := Tryz.underlying195
 a46 := Tryz.isAgg195
 z46 := Tryz.sizeOf195
 v46 := Tryz.zeroValue195
 t51 := Tryz.underlying245
 a51 := Tryz.isAgg245
 z51 := Tryz.sizeOf245
 v51 := Tryz.zeroValue245
 t53 := Tryz.underlying247
 a53 := Tryz.isAgg247
 z53 := Tryz.sizeOf247
 v53 := Tryz.zeroValue247
 t131 := Tryz.underlying101
 a131 := Tryz.isAgg101
 z131 := Tryz.sizeOf101
 v131 := Tryz.zeroValue101
 t182 := Tryz.underlying237
 a182 := Tryz.isAgg237
 z182 := Tryz.sizeOf237
 v182 := Tryz.zeroValue237
 t183 := Tryz.underlying238
 a183 := Tryz.isAgg238
 z183 := Tryz.sizeOf238
 v183 := Tryz.zeroValue238
 t218 := Tryz.underlying269
 a218 := Tryz.isAgg269
 z218 := Tryz.sizeOf269
 v218 := Tryz.zeroValue269
 t222 := Tryz.underlying233
 a222 := Tryz.isAgg233
 z222 := Tryz.sizeOf233
 v222 := Tryz.zeroValue233
 t228 := Tryz.underlying298
 a228 := Tryz.isAgg298
 z228 := Tryz.sizeOf298
 v228 := Tryz.zeroValue298
 t229 := Tryz.underlying147
 a229 := Tryz.isAgg147
 z229 := Tryz.sizeOf147
 v229 := Tryz.zeroValue147 }
def Tryz.lays2n20_ren : Go.Shelf.Ren := ⟨fun | 20 => 123 | n => n, fun | 22 => 38 | 3 => 3 | 4 => 4 | 0 => 0 | n => n, fun | n => n⟩
theorem Tryz.lays2n20 : Go.Proofs.Lays2.n20 Tryz.prog Tryz.lays2n20_ren := {
 mixed := by kernel_rfl
 f20 := Tryz.func123.trans (congrArg some (by kernel_rfl))
 t0 := Tryz.underlying0
 a0 := Tryz.isAgg0
 z0 := Tryz.sizeOf0
 v0 := Tryz.zeroValue0
 t3 := Tryz.underlying3
 a3 := Tryz.isAgg3
 z3 := Tryz.sizeOf3
 v3 := Tryz.zeroValue3
 t4 := Tryz.underlying4
 a4 := Tryz.isAgg4
 z4 := Tryz.sizeOf4
 v4 := Tryz.zeroValue4
 t22 := Tryz.underlying38
 a22 := Tryz.isAgg38
 z22 := Tryz.sizeOf38
 v22 := Tryz.zeroValue38
 i3 := by kernel_rfl }
def Tryz.lays107_ren : Go.Shelf.Ren := ⟨fun | 107 => 273 | 108 => 322 | n => n, fun | 28 => 38 | 3 => 3 | 4 => 4 | 0 => 0 | n => n, fun | n => n⟩
theorem Tryz.lays107 : Go.Proofs.Lays.n107 Tryz.prog Tryz.lays107_ren := {
 mixed := by kernel_rfl
 f107 := Tryz.func273.trans (congrArg some (by kernel_rfl))
 f108 := Tryz.func322.trans (congrArg some (by kernel_rfl))
 t0 := Tryz.underlying0
 a0 := Tryz.isAgg0
 z0 := Tryz.sizeOf0
 v0 := Tryz.zeroValue0
 t3 := Tryz.underlying3
 a3 := Tryz.isAgg3
 z3 := Tryz.sizeOf3
 v3 := Tryz.zeroValue3
 t4 := Tryz.underlying4
 a4 := Tryz.isAgg4
 z4 := Tryz.sizeOf4
 v4 := Tryz.zeroValue4
 t28 := Tryz.underlying38
 a28 := Tryz.isAgg38
 z28 := Tryz.sizeOf38
 v28 := Tryz.zeroValue38 }
def Tryz.lays2n26_ren : Go.Shelf.Ren := ⟨fun | 26 => 277 | 33 => 323 | 34 => 324 | 38 => 345 | n => n, fun | 24 => 36 | 9 => 9 | 3 => 3 | 4 => 4 | 40 => 195 | 0 => 0 | n => n, fun | n => n⟩
theorem Tryz.lays2n26 : Go.Proofs.Lays2.n26 Tryz.prog Tryz.lays2n26_ren := {
 mixed := by kernel_rfl
 f26 := Tryz.func277.trans (congrArg some (by kernel_rfl))
 f33 := Tryz.func323.trans (congrArg some (by kernel_rfl))
 f34 := Tryz.func324.trans (congrArg some (by kernel_rfl))
 f38 := Tryz.func345.trans (congrArg some (by kernel_rfl))
 t0 := Tryz.underlying0
 a0 := Tryz.isAgg0
 z0 := Tryz.sizeOf0
 v0 := Tryz.zeroValue0
 t3 := Tryz.underlying3
 a3 := Tryz.isAgg3
 z3 := Tryz.sizeOf3
 v3 := Tryz.zeroValue3
 t4 := Tryz.underlying4
 a4 := Tryz.isAgg4
 z4 := Tryz.sizeOf4
 v4 := Tryz.zeroValue4
 t9 := Tryz.underlying9
 a9 := Tryz.isAgg9
 z9 := Tryz.sizeOf9
 v9 := Tryz.zeroValue9
 t24 := Tryz.underlying36
 a24 := Tryz.isAgg36
 z24 := Tryz.sizeOf36
 v24 := Tryz.zeroValue36
 t40 := Tryz.underlying195
 a40 := Tryz.isAgg195
 z40 := Tryz.sizeOf195
 v40 := Tryz.zeroValue195 }
def Tryz.lays2n22_ren : Go.Shelf.Ren := ⟨fun | 22 => 278 | 29 => 325 | 30 => 326 | 36 => 346 | 17 => 353 | n => n, fun | 24 => 36 | 9 => 9 | 3 => 3 | 4 => 4 | 0 => 0 | n => n, fun | n => n⟩
theorem Tryz.lays2n22 : Go.Proofs.Lays2.n22 Tryz.prog Tryz.lays2n22_ren := {
 mixed := by kernel_rfl
 f17 := Tryz.func353.trans (congrArg some (by kernel_rfl))
 f22 := Tryz.func278.trans (congrArg some (by kernel_rfl))
 f29 := Tryz.func325.trans (congrArg some (by kernel_rfl))
 f30 := Tryz.func326.trans (congrArg some (by kernel_rfl))
 f36 := Tryz.func346.trans (congrArg some (by kernel_rfl))
 t0 := Tryz.underlying0
 a0 := Tryz.isAgg0
 z0 := Tryz.sizeOf0
 v0 := Tryz.zeroValue0
 t3 := Tryz.underlying3
 a3 := Tryz.isAgg3
 z3 := Tryz.sizeOf3
 v3 := Tryz.zeroValue3
 t4 := Tryz.underlying4
 a4 := Tryz.isAgg4
 z4 := Tryz.sizeOf4
 v4 := Tryz.zeroValue4
 t9 := Tryz.underlying9
 a9 := Tryz.isAgg9
 z9 := Tryz.sizeOf9
 v9 := Tryz.zeroValue9
 t24 := Tryz.underlying36
 a24 := Tryz.isAgg36
 z24 := Tryz.sizeOf36
 v24 := Tryz.zeroValue36
 i9 := by kernel_rfl }
def Tryz.lays160_ren : Go.Shelf.Ren := ⟨fun | 160 => 172 | 232 => 215 | 231 => 214 | 227 => 216 | 234 => 218 | 233 => 217 | 236 => 220 | 235 => 219 | 228 => 269 | 271 => 271 | 151 => 270 | 197 => 205 | 120 => 321 | 152 => 320 | 260 => 260 | 137 => 343 | 119 => 344 | 224 => 263 | 225 => 262 | 217 => 261 | 266 => 312 | n => n, fun | 9 => 9 | 4 => 4 | 3 => 3 | 5 => 5 | 117 => 216 | 116 => 215 | 0 => 0 | 124 => 219 | 21 => 21 | 105 => 204 | 46 => 195 | 119 => 281 | 139 => 284 | 138 => 283 | n => n, fun | 3 => 3 | 4 => 4 | n => n⟩
theorem Tryz.lays160 : Go.Proofs.Lays.n160 Tryz.prog Tryz.lays160_ren := {
 mixed := by kernel_rfl
 f119 := Tryz.func344.trans (congrArg some (by kernel_rfl))
 f120 := Tryz.func321.trans (congrArg some (by kernel_rfl))
 f137 := Tryz.func343.trans (congrArg some (by kernel_rfl))
 f151 := Tryz.func270.trans (congrArg some (by kernel_rfl))
 f152 := Tryz.func320.trans (congrArg some (by kernel_rfl))
 f160 := Tryz.func172.trans (congrArg some (by kernel_rfl))
 f197 := Tryz.func205.trans (congrArg some (by kernel_rfl))
 f217 := Tryz.func261.trans (congrArg some (by kernel_rfl))
 f224 := Tryz.func263.trans (congrArg some (by kernel_rfl))
 f225 := Tryz.func262.trans (congrArg some (by kernel_rfl))
 f227 := Tryz.func216.trans (congrArg some (by kernel_rfl))
 f228 := Tryz.func269.trans (congrArg some (by kernel_rfl))
 f231 := Tryz.func214.trans (congrArg some (by kernel_rfl))
 f232 := Tryz.func215.trans (congrArg some (by kernel_rfl))
 f233 := Tryz.func217.trans (congrArg some (by kernel_rfl))
 f234 := Tryz.func218.trans (congrArg some (by kernel_rfl))
 f235 := Tryz.func219.trans (congrArg some (by kernel_rfl))
 f236 := Tryz.func220.trans (congrArg some (by kernel_rfl))
 f260 := Tryz.func260.trans (congrArg some (by kernel_rfl))
 f266 := Tryz.func312.trans (congrArg some (by kernel_rfl))
 f271 := Tryz.func271.trans (congrArg some (by kernel_rfl))
 t0 := Tryz.underlying0
 a0 := Tryz.isAgg0
 z0 := Tryz.sizeOf0
 v0 := Tryz.zeroValue0
 t3 := Tryz.underlying3
 a3 := Tryz.isAgg3
 z3 := Tryz.sizeOf3
 v3 := Tryz.zeroValue3
 t4 := Tryz.underlying4
 a4 := Tryz.isAgg4
 z4 := Tryz.sizeOf4
 v4 := Tryz.zeroValue4
 t5 := Tryz.underlying5
 a5 := Tryz.isAgg5
 z5 := Tryz.sizeOf5
 v5 := Tryz.zeroValue5
 t9 := Tryz.underlying9
 a9 := Tryz.isAgg9
 z9 := Tryz.sizeOf9
 v9 := Tryz.zeroValue9
 t21 := Tryz.underlying21
 a21 := Tryz.isAgg21
 z21 := Tryz.sizeOf21
 v21 := Tryz.zeroValue21
 t46 := Tryz.underlying195
 a46 := Tryz.isAgg195
 z46 := Tryz.sizeOf195
 v46 := Tryz.zeroValue195
 t105 := Tryz.underlying204
 a105 := Tryz.isAgg204
 z105 := Tryz.sizeOf204
 v105 := Tryz.zeroValue204
 t116 := Tryz.underlying215
 a116 := Tryz.isAgg215
 z116 := Tryz.sizeOf215
 t117 := Tryz.underlying216
 a117 := Tryz.isAgg216
 z117 := Tryz.sizeOf216
 v117 := Tryz.zeroValue216
 t119 := Tryz.underlying281
 a119 := Tryz.isAgg281
 z119 := Tryz.sizeOf281
 t124 := Tryz.underlying219
 a124 := Tryz.isAgg219
 z124 := Tryz.sizeOf219
 v124 := Tryz.zeroValue219
 t138 := Tryz.underlying283
 a138 := Tryz.isAgg283
 z138 := Tryz.sizeOf283
 v138 := Tryz.zeroValue283
 t139 := Tryz.underlying284
 a139 := Tryz.isAgg284
 z139 := Tryz.sizeOf284
 v139 := Tryz.zeroValue284
 g3 := by kernel_rfl
 g4 := by kernel_rfl }
def Tryz.lays99_ren : Go.Shelf.Ren := ⟨fun | 99 => 140 | 206 => 194 | n => n, fun | 9 => 9 | 4 => 4 | 3 => 3 | n => n, fun | n => n⟩
theorem Tryz.lays99 : Go.Proofs.Lays.n99 Tryz.prog Tryz.lays99_ren := {
 mixed := by kernel_rfl
 f99 := Tryz.func140.trans (congrArg some (by kernel_rfl))
 f206 := Tryz.func194.trans (congrArg some (by kernel_rfl))
 t3 := Tryz.underlying3
 a3 := Tryz.isAgg3
 z3 := Tryz.sizeOf3
 v3 := Tryz.zeroValue3
 t4 := Tryz.underlying4
 a4 := Tryz.isAgg4
 z4 := Tryz.sizeOf4
 v4 := Tryz.zeroValue4
 t9 := Tryz.underlying9
 a9 := Tryz.isAgg9
 z9 := Tryz.sizeOf9
 v9 := Tryz.zeroValue9 }
end Go.Proofs
set_option linter.unusedVariables false
namespace Go.Proofs.YtjacdlekgdnndaaGreatDoor
open Go.RowKit Go.Shelf
theorem trim_left_nil (l cs : List UInt8) : Lib.trimLeftS l cs = [] ↔ ∀ b ∈ l, cs.contains b = true := by
 unfold Lib.trimLeftS
 induction l with
 | nil => simp
 | cons x l ih =>
  rw [List.dropWhile_cons]
  by_cases hx : cs.contains x = true
  ·rw [if_pos hx, ih]
   constructor
   ·intro h b hb
    rcases List.mem_cons.1 hb with e | e
    ·subst e; exact hx
    ·exact h b e
   ·intro h b hb
    exact h b (List.mem_cons_of_mem _ hb)
  ·rw [if_neg hx]
   constructor
   ·intro h; cases h
   ·intro h; exact absurd (h x List.mem_cons_self) hx
theorem trim_nil (l cs : List UInt8) : Lib.trimS l cs = [] ↔ ∀ b ∈ l, cs.contains b = true := by
 unfold Lib.trimS
 rw [trim_left_nil]
 unfold Lib.trimRightS
 constructor
 ·intro h b hb
  by_cases hc : cs.contains b = true
  ·exact hc
  ·refine h b ?_
   have h2 : b ∈ l.reverse := List.mem_reverse.2 hb
   have : ∀ l' : List UInt8, b ∈ l' → b ∈ l'.dropWhile (cs.contains ·) := by
    intro l'
    induction l' with
    | nil => intro h; exact h
    | cons x l' ih =>
     intro h
     rw [List.dropWhile_cons]
     split
     ·next hx =>
      rcases List.mem_cons.1 h with e | e
      ·subst e; exact absurd hx hc
      ·exact ih e
     ·exact h
   exact List.mem_reverse.2 (this _ h2)
 ·intro h b hb
  exact h b (List.mem_reverse.1 ((List.dropWhile_sublist _).subset (List.mem_reverse.1 hb)))
theorem letter_abc (c : UInt8) : ([97, 98, 99] : List UInt8).contains c = letterOk c := by
 have h : ∀ n : Fin 256, ([97, 98, 99] : List UInt8).contains ⟨⟨n⟩⟩ = letterOk ⟨⟨n⟩⟩ := by decide +kernel
 exact h c.toBitVec.toFin
theorem rightOk_trim (s : ByteArray) (h : s.size ≤ 4) : (Value.string ⟨(Lib.trimS s.data.toList [97, 98, 99]).toArray⟩ = .string ⟨#[]⟩) ↔ rightOk s = true := by
 have e : rightOk s = s.data.toList.all letterOk := by simp [rightOk, h]
 rw [e, List.all_eq_true]
 have t := trim_nil s.data.toList [97, 98, 99]
 constructor
 ·intro hv b hb
  have : Lib.trimS s.data.toList [97, 98, 99] = [] := by
   simp only [Value.string.injEq, ByteArray.mk.injEq] at hv
   have := congrArg Array.toList hv
   simpa using this
  rw [← letter_abc]
  exact t.1 this b hb
 ·intro ha
  rw [t.2 (fun b hb => by rw [letter_abc]; exact ha b hb)]
theorem isEmpty_iff (r : ByteArray) : r.toList.isEmpty = true ↔ r = ⟨#[]⟩ := by
 rw [Lib.toList_data, List.isEmpty_iff]
 obtain ⟨⟨l⟩⟩ := r
 simp
set_option maxHeartbeats 1000000 in
theorem RightValid_impl (s : ByteArray) (w : World) (hs : s.size ≤ maxLen) :
 Calls Tryz.prog 104 #[.string s] w fun e w' => e = .returned (.bool (rightOk s)) ∧ Below w.heap.size w w' := by
 unfold maxLen at hs
 by_cases h4 : s.size ≤ 4
 ·have hcon := Any.strings_Trim_laid Tryz.lays160 (by kernel_rfl) s ⟨#[97, 98, 99]⟩ w (by omega) (by decide) (ascii_of_all (by decide))
  change Calls Tryz.prog 172 _ _ (fun e w' => e = .returned (.string ⟨(Lib.trimS s.data.toList [97, 98, 99]).toArray⟩) ∧ Below w.heap.size w w') at hcon
  have R := Lib.hid (rightOk_trim s h4)
  have i4 : (s.size : Int) ≤ 4 := by omega
  generalize (⟨(Lib.trimS s.data.toList [97, 98, 99]).toArray⟩ : ByteArray) = r at hcon R
  go_enter Tryz.func104, Tryz.ntmps104
  go_wp2_with fail
  refine hcon.mono ?_; rintro e w1 ⟨rfl, hb⟩
  have S : Hid (r.toList.isEmpty = rightOk s) := Lib.hid (by
   rw [Bool.eq_iff_iff, ← R.out, isEmpty_iff]
   simp)
  go_wp2_with fail
  go_ret
  exact ⟨ret_bool S.out, hb⟩
 ·have S := Lib.hid (show rightOk s = false by simp [rightOk, h4])
  have i4 : ¬ (s.size : Int) ≤ 4 := by omega
  go_enter Tryz.func104, Tryz.ntmps104
  go_wp2_with fail
  go_ret
  exact ⟨ret_bool S.out.symm, Below.refl _ _⟩
end Go.Proofs.YtjacdlekgdnndaaGreatDoor
set_option linter.unusedVariables false
namespace Go.Proofs.YtjacdlekgdnndaaGreatDoor
open Go.RowKit Go.Shelf Go.Sort
def ints (ns : List Nat) : List Int := ns.map fun n : Nat => (n : Int)
theorem ints_len (ns : List Nat) : (ints ns).length = ns.length := by simp [ints]
theorem nth_ints {ns : List Nat} {k : Nat} (h : k < ns.length) : nth (ints ns) k = ((ns.getD k 0 : Nat) : Int) := by simp [nth, ints, h]
theorem mem_ints_iff {ns : List Nat} {g : Nat} : (g : Int) ∈ ints ns ↔ g ∈ ns := by
 simp only [ints, List.mem_map]
 constructor
 ·rintro ⟨a, h, e⟩
  have : a = g := by omega
  subst this; exact h
 ·exact fun h => ⟨g, h, rfl⟩
theorem own_parts {lo e : Nat} {w : World} {v : Value} {n : Nat} {xs : List Value} (h : w.ownsRow lo e 1 v n xs) (hn : 0 < n) : ∃ g cap cur, v = .slice (some ⟨g, 0, none⟩) n cap ∧ lo ≤ g ∧ w.heap[g]? = some (.cells cur e (0, 0)) ∧ n ≤ cap ∧ cap ≤ maxLen ∧ cur.size = cap * 1 ∧ cur.toList.take (n * 1) = xs := by
 rcases h.2 with ⟨rfl, rfl⟩ | ⟨g, cap, cur, rfl, hb, hg, hnc, hcm, hcs, htake⟩
 ·have := h.1; simp at this; omega
 ·exact ⟨g, cap, cur, rfl, hb, hg, hnc, hcm, hcs, htake⟩
theorem SortInts_any {lo : Nat} (v : Value) (ns : List Nat) (w : World) (h : OwnInts lo w v (ints ns)) (hs : ns.length ≤ 1048576) :
 Calls Tryz.prog 122 #[v] w fun e w' => e = .returned (.tuple #[]) ∧ ∃ ts : List Nat, ts.length = ns.length ∧ (∀ g, g ∈ ts ↔ g ∈ ns) ∧ OwnInts lo w' v (ints ts) ∧ w.grownBy w' v.ownBlock := by
 by_cases h0 : ns.length = 0
 ·obtain rfl : ns = [] := List.eq_nil_of_length_eq_zero h0
  obtain ⟨a, c, rfl, _⟩ := h.rd.open
  refine (Any.slices_Sort_int_none Tryz.lays189 a c w).mono ?_
  rintro e w' ⟨rfl, rfl⟩
  exact ⟨rfl, [], rfl, fun _ => Iff.rfl, h, ⟨rfl, rfl, rfl, Nat.le_refl _, fun _ _ _ => rfl⟩⟩
 ·obtain ⟨g, cap, cur, rfl, hg, hb, hnc, hcm, hcs, ht⟩ := own_parts h (by rw [ints_len]; omega)
  have hH := holds_of_blockI (ss := ints ns) hb (by simpa using ht)
  have hl : (ns.mergeSort fun x y => decide (x ≤ y)).length = ns.length := List.length_mergeSort _
  have e1 : (ints ns).mergeSort (fun x y => decide (x ≤ y)) = ints (ns.mergeSort fun x y => decide (x ≤ y)) := by
   unfold ints
   rw [List.map_mergeSort]
   intro a _ b _
   simp
  refine (Any.slices_Sort_int Tryz.lays189 g 0 cap (ints ns) w hH (Array.getElem?_eq_some_iff.1 hb).1 (by rw [ints_len]; omega)).mono ?_
  rintro e w' ⟨rfl, nn, os, rfl⟩
  rw [e1]
  refine ⟨rfl, _, hl, fun g => List.mem_mergeSort, ?_, grownBy_sortedI _⟩
  have := ownsRow_sortedI (n := nn) (os := os) (ss := ints ns) (ts := ints (ns.mergeSort fun x y => decide (x ≤ y))) (by rw [ints_len, ints_len]; exact hl) hg hb hnc hcm hcs
  have el : (ints (ns.mergeSort fun x y => decide (x ≤ y))).length = (ints ns).length := by rw [ints_len, ints_len]; exact hl
  unfold OwnInts
  rw [el]
  exact this
theorem compact_mem (d : Array Int) : ∀ m, m ≤ d.size → ∀ x, x ∈ Lib.compactUpTo d m ↔ ∃ j, j < m ∧ d[j]! = x := by
 intro m
 induction m with
 | zero => intro _ x; simp [Lib.compactUpTo]
 | succ m ih =>
  intro hm x
  rw [Lib.compactUpTo_succ, List.mem_append, ih (by omega)]
  cases hk : Lib.keeps d m
  ·have hk' : m ≠ 0 ∧ d[m]! = d[m - 1]! := by
    unfold Lib.keeps at hk
    simp at hk
    exact ⟨by omega, hk.2⟩
   constructor
   ·rintro (⟨j, hj, h⟩ | h)
    ·exact ⟨j, by omega, h⟩
    ·simp at h
   ·rintro ⟨j, hj, h⟩
    by_cases e : j = m
    ·subst e; exact .inl ⟨j - 1, by omega, by rw [← hk'.2]; exact h⟩
    ·exact .inl ⟨j, by omega, h⟩
  ·constructor
   ·rintro (⟨j, hj, h⟩ | h)
    ·exact ⟨j, by omega, h⟩
    ·simp at h; exact ⟨m, by omega, h.symm⟩
   ·rintro ⟨j, hj, h⟩
    by_cases e : j = m
    ·subst e; exact .inr (by simp [h])
    ·exact .inl ⟨j, by omega, h⟩
theorem compact_mem' (zs : List Int) (x : Int) : x ∈ Lib.compact zs ↔ x ∈ zs := by
 unfold Lib.compact
 rw [compact_mem _ _ (by simp)]
 constructor
 ·rintro ⟨j, hj, rfl⟩
  simp [hj]
 ·intro h
  obtain ⟨j, hj, rfl⟩ := List.getElem_of_mem h
  exact ⟨j, hj, by simp [hj]⟩
theorem compact_le (zs : List Int) : (Lib.compact zs).length ≤ zs.length := by
 unfold Lib.compact Lib.compactUpTo
 rw [List.length_map]
 exact Nat.le_trans (List.length_filter_le _ _) (by simp)
theorem ints_of {zs : List Int} (h : ∀ z ∈ zs, 0 ≤ z) : ints (zs.map Int.toNat) = zs := by
 unfold ints
 rw [List.map_map]
 conv => rhs; rw [← List.map_id zs]
 exact List.map_congr_left fun z hz => by have := h z hz; simp; omega
theorem own_prefix {lo e n k : Nat} {w : World} {g cap : Nat} {xs : List Value} (h : w.ownsRow lo e 1 (.slice (some ⟨g, 0, none⟩) n cap) n xs) (hk : k ≤ n) : w.ownsRow lo e 1 (.slice (some ⟨g, 0, none⟩) k cap) k (xs.take k) := by
 rcases h.2 with ⟨h0, _⟩ | ⟨g', cap', cur, hv, hb, hg, hnc, hcm, hcs, htake⟩
 ·cases h0
 ·cases hv
  refine ⟨by have := h.1; simp at this; simp [this]; omega, .inr ⟨g, cap, cur, rfl, hb, hg, by omega, hcm, hcs, ?_⟩⟩
  rw [← htake, List.take_take, Nat.mul_one, Nat.mul_one, Nat.min_eq_left hk]
theorem CompactInts_any {lo : Nat} (v : Value) (ns : List Nat) (w : World) (h : OwnInts lo w v (ints ns)) (hs : ns.length ≤ 1048576) :
 Calls Tryz.prog 123 #[v] w fun e w' => ∃ v', e = .returned v' ∧ v'.ownBlock = v.ownBlock ∧ ∃ ts : List Nat, ts.length ≤ ns.length ∧ (∀ g, g ∈ ts ↔ g ∈ ns) ∧ OwnInts lo w' v' (ints ts) ∧ w.grownBy w' v.ownBlock := by
 by_cases h0 : ns.length = 0
 ·obtain rfl : ns = [] := List.eq_nil_of_length_eq_zero h0
  obtain ⟨a, c, rfl, _⟩ := h.rd.open
  refine (Any.slices_Compact_int_empty Tryz.lays2n20 a c w).mono ?_
  rintro e w' ⟨rfl, rfl⟩
  exact ⟨_, rfl, rfl, [], Nat.le_refl _, fun _ => Iff.rfl, h, ⟨rfl, rfl, rfl, Nat.le_refl _, fun _ _ _ => rfl⟩⟩
 ·obtain ⟨g, cap, cur, rfl, hg, hb, hnc, hcm, hcs, ht⟩ := own_parts h (by rw [ints_len]; omega)
  have hH := holds_of_blockI (ss := ints ns) hb (by simpa using ht)
  have hpos : ∀ z ∈ Lib.compact (ints ns), 0 ≤ z := by
   intro z hz
   rw [compact_mem'] at hz
   obtain ⟨n, _, rfl⟩ := List.mem_map.1 hz
   omega
  refine (Any.slices_Compact_int Tryz.lays2n20 g 0 cap (ints ns) w hH (by rw [ints_len]; omega) hnc).mono ?_
  rintro e w' ⟨rfl, nn, rfl⟩
  have hle := compact_le (ints ns)
  have hO := ownsRow_sortedI (n := nn) (os := #[]) (ss := ints ns) (ts := Lib.compact (ints ns) ++ List.replicate ((ints ns).length - (Lib.compact (ints ns)).length) 0) (by simp; omega) hg hb hnc hcm hcs
  have hG := grownBy_sortedI (w := w) (g := g) (n := nn) (os := #[]) (Lib.compact (ints ns) ++ List.replicate ((ints ns).length - (Lib.compact (ints ns)).length) 0).toArray
  rw [grow_empty] at hO hG
  refine ⟨_, rfl, rfl, (Lib.compact (ints ns)).map Int.toNat, by rw [List.length_map]; rw [ints_len] at hle; exact hle, fun g => ?_, ?_, hG⟩
  ·rw [← mem_ints_iff, ints_of hpos, compact_mem', mem_ints_iff]
  ·rw [ints_of hpos]
   have hP := own_prefix hO hle
   unfold OwnInts
   have e : ((Lib.compact (ints ns) ++ List.replicate ((ints ns).length - (Lib.compact (ints ns)).length) 0).map (Value.int .i64)).take (Lib.compact (ints ns)).length = (Lib.compact (ints ns)).map (Value.int .i64) := by
    rw [List.map_append, List.take_left' (by simp)]
   rw [e] at hP
   exact hP
theorem ContainsInts_any (v : Value) (ns : List Nat) (x : Int) (w : World) (h : RdInts w v (ints ns)) :
 Calls Tryz.prog 273 #[v, .int .i64 x] w fun e w' => e = .returned (.bool ((ints ns).contains x)) ∧ w = w' := by
 obtain ⟨a, c, rfl, hc, hcm, H0⟩ := h.open
 unfold maxLen at hcm
 by_cases h0 : ns.length = 0
 ·obtain rfl : ns = [] := List.eq_nil_of_length_eq_zero h0
  refine (Any.slices_Contains_int_empty Tryz.lays107 a c x w).mono ?_
  rintro e w' ⟨rfl, rfl⟩
  exact ⟨rfl, rfl⟩
 ·obtain ⟨b, off, rfl, hcell⟩ := H0 0 (by rw [ints_len]; omega)
  refine (Any.slices_Contains_int Tryz.lays107 b off (ints ns).length c (ints ns) x w (Nat.le_refl _) (by omega) (fun j hj => hcell j hj)).mono ?_
  rintro e w' ⟨rfl, rfl⟩
  rw [List.take_length]
  exact ⟨rfl, rfl⟩
theorem HasPrefix_any (s p : ByteArray) (w : World) : Calls Tryz.prog 140 #[.string s, .string p] w fun e w' => e = .returned (.bool (cov p s)) ∧ w = w' := by
 refine (Any.strings_HasPrefix Tryz.lays99 s p w).mono ?_
 rintro e w' ⟨rfl, rfl⟩
 exact ⟨rfl, rfl⟩
end Go.Proofs.YtjacdlekgdnndaaGreatDoor
set_option linter.unusedVariables false
namespace Go.Proofs.YtjacdlekgdnndaaGreatDoor
open Go.RowKit
theorem rowOk_words (r : List Int) : wordsOk r = rowOk r := by
 unfold wordsOk rowOk
 rw [Bool.and_comm]
 congr 1
theorem any_not {α : Type} {p : α → Bool} {l : List α} : (!l.any fun x => !p x) = l.all p := by simp [List.all_eq_not_any_not]
set_option maxHeartbeats 400000 in
theorem MemoryValid1_any (u : Value) (r : List Int) (w : World) (h : RdInts w u r) : Calls Tryz.prog 111 #[u] w fun e w' => e = .returned (.bool (!rowOk r)) ∧ Below w.heap.size w w' := by
 have C := Lib.hid (isWords_any u r w h); clear h
 go_enter Tryz.func111, Tryz.ntmps111
 go_wp2_with (refine (C.out).mono ?_; rintro e w' ⟨rfl, rfl⟩; rw [rowOk_words])
 go_ret
 exact ⟨rfl, Below.refl _ _⟩
set_option maxHeartbeats 400000 in
theorem MemoryValid_impl (v : Value) (m : List (List Int)) (w : World) (h : RdRows w v m) : Calls Tryz.prog 45 #[v] w fun e w' => e = .returned (.bool (memOk m)) ∧ Below w.heap.size w w' := by
 have C := Lib.hid (ContainsFuncRows_any 111 #[] (fun r => !rowOk r) v m w h (fun _ _ => by kernel_rfl) (fun u r _ W _ hr => MemoryValid1_any u r W hr))
 obtain ⟨a, c, rfl, hc, hcm, _⟩ := h.open
 clear h
 unfold maxLen at hcm
 by_cases h4 : m.length = 12
 ·have S := Lib.hid (show (!m.any fun r => !rowOk r) = memOk m by rw [any_not]; simp [memOk, h4])
  have hb : ((m.length : Int) == 12) = true := by simp [h4]
  clear h4
  go_enter Tryz.func45, Tryz.ntmps45
  go_wp2_with (refine (C.out).mono ?_; rintro e w' ⟨rfl, hb2⟩)
  go_ret
  exact ⟨ret_bool S.out, hb2⟩
 ·have S := Lib.hid (show memOk m = false by simp [memOk, h4])
  have hb : ((m.length : Int) == 12) = false := by simp; omega
  clear h4
  go_enter Tryz.func45, Tryz.ntmps45
  go_wp2_with fail
  go_ret
  exact ⟨ret_bool S.out.symm, Below.refl _ _⟩
def slotRow (r : List Int) : Bool := r.isEmpty || rowOk r
theorem slotRow_some {r : List Int} (h : 0 < r.length) : slotRow r = rowOk r := by cases r with | nil => simp at h | cons => simp [slotRow]
theorem slotRow_none {r : List Int} (h : ¬ 0 < r.length) : slotRow r = true := by cases r with | nil => simp [slotRow] | cons => simp at h
set_option maxHeartbeats 400000 in
theorem SwapValid1_any (u : Value) (r : List Int) (w : World) (h : RdInts w u r) : Calls Tryz.prog 136 #[u] w fun e w' => e = .returned (.bool (!slotRow r)) ∧ Below w.heap.size w w' := by
 have C := Lib.hid (isWords_any u r w h)
 obtain ⟨a, c, rfl, hc, hcm, _⟩ := h.open
 clear h
 unfold maxLen at hcm
 by_cases h0 : 0 < r.length
 ·have S := Lib.hid (show (!slotRow r) = !rowOk r by rw [slotRow_some h0])
  have hb : (0 : Int) < (r.length : Int) := by omega
  go_enter Tryz.func136, Tryz.ntmps136
  go_wp2_with (refine (C.out).mono ?_; rintro e w' ⟨rfl, rfl⟩; rw [rowOk_words])
  go_ret
  exact ⟨ret_bool S.out.symm, Below.refl _ _⟩
 ·have S := Lib.hid (show (!slotRow r) = false by rw [slotRow_none h0]; rfl)
  have hb : ¬ (0 : Int) < (r.length : Int) := by omega
  go_enter Tryz.func136, Tryz.ntmps136
  go_wp2_with fail
  go_ret
  exact ⟨ret_bool S.out.symm, Below.refl _ _⟩
set_option maxHeartbeats 400000 in
theorem SwapValid_impl (v : Value) (m : List (List Int)) (w : World) (h : RdRows w v m) : Calls Tryz.prog 68 #[v] w fun e w' => e = .returned (.bool (swapOk m)) ∧ Below w.heap.size w w' := by
 have C := Lib.hid (ContainsFuncRows_any 136 #[] (fun r => !slotRow r) v m w h (fun _ _ => by kernel_rfl) (fun u r _ W _ hr => SwapValid1_any u r W hr))
 obtain ⟨a, c, rfl, hc, hcm, _⟩ := h.open
 clear h
 unfold maxLen at hcm
 by_cases h4 : m.length = 16
 ·have S := Lib.hid (show (!m.any fun r => !slotRow r) = swapOk m by rw [any_not]; simp [swapOk, h4]; rfl)
  have hb : ((m.length : Int) == 16) = true := by simp [h4]
  clear h4
  go_enter Tryz.func68, Tryz.ntmps68
  go_wp2_with (refine (C.out).mono ?_; rintro e w' ⟨rfl, hb2⟩)
  go_ret
  exact ⟨ret_bool S.out, hb2⟩
 ·have S := Lib.hid (show swapOk m = false by simp [swapOk, h4])
  have hb : ((m.length : Int) == 16) = false := by simp; omega
  clear h4
  go_enter Tryz.func68, Tryz.ntmps68
  go_wp2_with fail
  go_ret
  exact ⟨ret_bool S.out.symm, Below.refl _ _⟩
def SmallI (xs : List InfoV) : Prop := ∀ x ∈ xs, x.g.size ≤ maxLen
def KGR (x : InfoV) : Bool := inB x.k 1 3 && rightOk x.g && inB x.r 0 50
theorem infoOk_zero : infoOk InfoV.zero = true := by simp [infoOk]
theorem infoOk_not {x : InfoV} (h : x ≠ InfoV.zero) : infoOk x = KGR x := by simp [infoOk, h, KGR]
set_option maxHeartbeats 1000000 in
theorem infoOk_any (x : InfoV) (w : World) (hs : x.g.size ≤ maxLen) : Calls Tryz.prog 115 #[x.val] w fun e w' => e = .returned (.bool (infoOk x)) ∧ Below w.heap.size w w' := by
 obtain ⟨k, g, r⟩ := x
 simp only [InfoV.val]
 simp only at hs
 have C := Lib.hid (fun W => RightValid_impl g W hs); clear hs
 have key : ∀ (b : Bool), b = false → infoOk ⟨k, g, r⟩ = infoOk ⟨k, g, r⟩ := fun _ _ => rfl
 clear key
 have CW := Lib.hid (fun n lo hi W => within_any n lo hi W)
 by_cases hk : k = 0
 ·subst hk
  by_cases hg : g.toList = []
  ·by_cases hr : r = 0
   ·have S := Lib.hid (show infoOk ⟨0, g, r⟩ = true by
     have : g = ⟨#[]⟩ := by rw [Lib.toList_data] at hg; cases g; simp at hg; rw [hg]
     rw [hr, this]; exact infoOk_zero)
    go_enter Tryz.func115, Tryz.ntmps115
    go_wp2_with fail
    go_ret
    exact ⟨ret_bool S.out.symm, below1 _ _⟩
   ·have S := Lib.hid (show infoOk ⟨0, g, r⟩ = false by rw [infoOk_not (by intro e; simp [InfoV.zero] at e; exact hr e.2)]; simp [KGR, inB])
    have H := Lib.hid (show inB 0 1 3 = false from rfl)
    go_enter Tryz.func115, Tryz.ntmps115
    go_wp2_with (refine (CW.out _ _ _ _).mono ?_; rintro e w' ⟨rfl, rfl⟩; rw [H.out])
    go_ret
    exact ⟨ret_bool S.out.symm, below1 _ _⟩
  ·have S := Lib.hid (show infoOk ⟨0, g, r⟩ = false by rw [infoOk_not (by intro e; simp [InfoV.zero] at e; exact hg (by rw [e.1, Lib.toList_data]))]; simp [KGR, inB])
   have H := Lib.hid (show inB 0 1 3 = false from rfl)
   go_enter Tryz.func115, Tryz.ntmps115
   go_wp2_with (refine (CW.out _ _ _ _).mono ?_; rintro e w' ⟨rfl, rfl⟩; rw [H.out])
   go_ret
   exact ⟨ret_bool S.out.symm, below1 _ _⟩
 ·have S := Lib.hid (show infoOk ⟨k, g, r⟩ = KGR ⟨k, g, r⟩ from infoOk_not (by intro e; simp [InfoV.zero] at e; exact hk e.1))
  cases h1 : inB k 1 3
  ·have T := Lib.hid (show KGR ⟨k, g, r⟩ = false by simp [KGR, h1])
   have H := Lib.hid h1; clear h1
   go_enter Tryz.func115, Tryz.ntmps115
   go_wp2_with (refine (CW.out _ _ _ _).mono ?_; rintro e w' ⟨rfl, rfl⟩; rw [H.out])
   go_ret
   exact ⟨ret_bool (S.out.trans T.out).symm, below1 _ _⟩
  ·cases h2 : rightOk g
   ·have T := Lib.hid (show KGR ⟨k, g, r⟩ = false by simp [KGR, h2])
    have H := Lib.hid h1; clear h1
    have H2 := Lib.hid h2; clear h2
    go_enter Tryz.func115, Tryz.ntmps115
    go_wp2_with (first | (refine (CW.out _ _ _ _).mono ?_; rintro e w' ⟨rfl, rfl⟩; rw [H.out]) | (refine (C.out _).mono ?_; rintro e w' ⟨rfl, hb⟩; rw [H2.out]))
    go_ret
    exact ⟨ret_bool (S.out.trans T.out).symm, (below1 _ _).trans (hb.mono (below1 _ _).size)⟩
   ·have T := Lib.hid (show KGR ⟨k, g, r⟩ = inB r 0 50 by simp [KGR, h1, h2])
    have H := Lib.hid h1; clear h1
    have H2 := Lib.hid h2; clear h2
    go_enter Tryz.func115, Tryz.ntmps115
    go_wp2_with fail
    refine (CW.out _ _ _ _).mono ?_; rintro e w' ⟨rfl, rfl⟩; rw [H.out]
    go_wp2_with fail
    refine (C.out _).mono ?_; rintro e w' ⟨rfl, hb⟩; rw [H2.out]
    have hz : w.heap.size < w'.heap.size := by have := hb.size; simp at this; omega
    obtain ⟨hc, hf⟩ := bcell hb
    go_wp2_with fail
    refine (CW.out _ _ _ _).mono ?_; rintro e w' ⟨rfl, rfl⟩
    go_wp2_with fail
    go_ret
    exact ⟨ret_bool (S.out.trans T.out).symm, (below1 _ _).trans (hb.mono (below1 _ _).size)⟩
set_option maxHeartbeats 400000 in
theorem InfosValid1_any (x : InfoV) (w : World) (hs : x.g.size ≤ maxLen) : Calls Tryz.prog 114 #[x.val] w fun e w' => e = .returned (.bool (!infoOk x)) ∧ Below w.heap.size w w' := by
 have C := Lib.hid (fun W => infoOk_any x W hs)
 obtain ⟨k, g, r⟩ := x
 simp only [InfoV.val] at C ⊢
 go_enter Tryz.func114, Tryz.ntmps114
 go_wp2_with (refine (C.out _).mono ?_; rintro e w' ⟨rfl, hb⟩)
 go_ret
 exact ⟨rfl, (below1 _ _).trans (hb.mono (below1 _ _).size)⟩
set_option maxHeartbeats 400000 in
theorem InfosValid_impl (v : Value) (xs : List InfoV) (w : World) (h : RdInfos w v xs) (hs : SmallI xs) : Calls Tryz.prog 46 #[v] w fun e w' => e = .returned (.bool (infosOk xs)) ∧ Below w.heap.size w w' := by
 have C := Lib.hid (ContainsFuncInfo_any 114 #[] (fun x => !infoOk x) v xs w h (fun _ _ => by kernel_rfl) (fun x hx W _ => InfosValid1_any x W (hs x hx)))
 obtain ⟨a, c, rfl, hc, hcm⟩ := h.shape
 clear h hs
 unfold maxLen at hcm
 by_cases h4 : xs.length = 12
 ·have S := Lib.hid (show (!xs.any fun x => !infoOk x) = infosOk xs by rw [any_not]; simp [infosOk, h4])
  have hb : ((xs.length : Int) == 12) = true := by simp [h4]
  clear h4
  go_enter Tryz.func46, Tryz.ntmps46
  go_wp2_with (refine (C.out).mono ?_; rintro e w' ⟨rfl, hb2⟩)
  go_ret
  exact ⟨ret_bool S.out, hb2⟩
 ·have S := Lib.hid (show infosOk xs = false by simp [infosOk, h4])
  have hb : ((xs.length : Int) == 12) = false := by simp; omega
  clear h4
  go_enter Tryz.func46, Tryz.ntmps46
  go_wp2_with fail
  go_ret
  exact ⟨ret_bool S.out.symm, Below.refl _ _⟩
set_option maxHeartbeats 400000 in
theorem firstFree1_any (x : InfoV) (w : World) : Calls Tryz.prog 310 #[x.val] w fun e w' => e = .returned (.bool (decide (x.k = 0))) ∧ Below w.heap.size w w' := by
 obtain ⟨k, g, r⟩ := x
 simp only [InfoV.val]
 have S := Lib.hid (show (k == 0) = decide (k = 0) by cases h : (k == 0) <;> simp_all)
 go_enter Tryz.func310, Tryz.ntmps310
 go_wp2_with fail
 go_ret
 exact ⟨ret_bool S.out, below1 _ _⟩
theorem firstFree_any (v : Value) (xs : List InfoV) (w : World) (h : RdInfos w v xs) : Calls Tryz.prog 257 #[v] w fun e w' => e = .returned (.int .i64 (freeP xs)) ∧ Below w.heap.size w w' := by
 have C := Lib.hid (IndexFuncInfo_any 310 #[] (fun x => decide (x.k = 0)) v xs w h (fun _ _ => by kernel_rfl) (fun x _ W _ => firstFree1_any x W))
 obtain ⟨a, c, rfl, hc, hcm⟩ := h.shape
 clear h
 go_enter Tryz.func257, Tryz.ntmps257
 go_wp2_with (refine (C.out).mono ?_; rintro e w' ⟨rfl, hb2⟩)
 go_ret
 exact ⟨rfl, hb2⟩
set_option maxHeartbeats 400000 in
theorem may1_any (s g : ByteArray) (b : Nat) (w : World) (h : w.cell? ⟨b, 0, none⟩ = some (.string g)) : Calls Tryz.prog 139 #[.string s, .pointer (some ⟨b, 0, none⟩)] w fun e w' => e = .returned (.bool (cov s g)) ∧ Below w.heap.size w w' := by
 go_enter Tryz.func139, Tryz.ntmps139
 go_wp2_with (refine (HasPrefix_any _ _ _).mono ?_; rintro e w' ⟨rfl, rfl⟩)
 go_ret
 exact ⟨rfl, Below.refl _ _⟩
set_option maxHeartbeats 400000 in
theorem may_any (v : Value) (ss : List ByteArray) (g : ByteArray) (w : World) (h : RdStrs w v ss) : Calls Tryz.prog 70 #[v, .string g] w fun e w' => e = .returned (.bool (mayP ss g)) ∧ Below w.heap.size w w' := by
 have b1 := below1 w (.cells #[.string g] 9)
 have cg : (w.alloc (.cells #[.string g] 9)).cell? ⟨w.heap.size, 0, none⟩ = some (.string g) := cell_of_row _ _ 0 _ _ _ (heap_alloc_new _ _)
 have C := Lib.hid (ContainsFuncString_any 139 #[.pointer (some ⟨w.heap.size, 0, none⟩)] (fun s => cov s g) v ss _ (RdF.below h b1) (fun _ _ => by kernel_rfl) (fun s _ W hW => may1_any s g _ W ((hW.cell (World.block_lt_of_cell? _ _ cg)).trans cg)))
 obtain ⟨a, c, rfl, hc, hcm⟩ := h.shape
 clear h cg
 go_enter Tryz.func70, Tryz.ntmps70
 go_wp2_with (refine (C.out).mono ?_; rintro e w' ⟨rfl, hb2⟩)
 go_ret
 exact ⟨rfl, b1.trans (hb2.mono b1.size)⟩
def takenInfos (xs : List InfoV) (g : ByteArray) : List InfoV := xs.set (freeP xs).toNat ⟨1, g, 0⟩
set_option maxHeartbeats 1000000 in
theorem InfosTake_none (v : Value) (xs : List InfoV) (g : ByteArray) (w : World) (h : RdInfos w v xs) (hs : SmallI xs) (hg : g.size ≤ maxLen) (hok : infosOk xs = true) (hr : rightOk g = true) (hf : freeP xs < 0) :
 Calls Tryz.prog 221 #[v, .string g] w fun e w' => e = .returned (.tuple #[.slice none 0 0, .int .i64 0, .bool false]) ∧ Below w.heap.size w w' := by
 have C1 := Lib.hid (fun W (hW : Below w.heap.size w W) => InfosValid_impl v xs W (RdF.below h hW) hs)
 have C2 := Lib.hid (fun W => RightValid_impl g W hg)
 have C3 := Lib.hid (fun W (hW : Below w.heap.size w W) => firstFree_any v xs W (RdF.below h hW))
 have Ok := Lib.hid hok
 have Hr := Lib.hid hr
 clear hok hr h hs hg
 go_enter Tryz.func221, Tryz.ntmps221
 go_wp2_with fail
 refine (C1.out _ (Below.refl _ _)).mono ?_; rintro e w1 ⟨rfl, hb1⟩; rw [Ok.out]
 go_wp2_with fail
 refine (C2.out _).mono ?_; rintro e w2 ⟨rfl, hb2⟩; rw [Hr.out]
 replace hb2 := hb1.trans (hb2.mono hb1.size); clear hb1
 go_wp2_with fail
 refine (C3.out _ hb2).mono ?_; rintro e w3 ⟨rfl, hb3⟩
 replace hb3 := hb2.trans (hb3.mono hb2.size); clear hb2
 go_wp2_with fail
 go_ret3
 exact ⟨rfl, hb3⟩
set_option maxHeartbeats 1000000 in
theorem InfosTake_some (v : Value) (xs : List InfoV) (g : ByteArray) (w : World) (h : RdInfos w v xs) (hs : SmallI xs) (hg : g.size ≤ maxLen) (hok : infosOk xs = true) (hr : rightOk g = true) (hf : 0 ≤ freeP xs) :
 Calls Tryz.prog 221 #[v, .string g] w fun e w' => ∃ v', e = .returned (.tuple #[v', .int .i64 (freeP xs), .bool true]) ∧ OwnF w.heap.size 89 3 infoCs w' v' (takenInfos xs g) ∧ Below w.heap.size w w' := by
 have C1 := Lib.hid (fun W (hW : Below w.heap.size w W) => InfosValid_impl v xs W (RdF.below h hW) hs)
 have C2 := Lib.hid (fun W => RightValid_impl g W hg)
 have C3 := Lib.hid (fun W (hW : Below w.heap.size w W) => firstFree_any v xs W (RdF.below h hW))
 have hl : xs.length = 12 := (infosOk_iff.1 hok).1
 have C4 := Lib.hid (fun W (hW : Below w.heap.size w W) => CloneInfo_any v xs W (RdF.below h hW) (by omega))
 have Ok := Lib.hid hok
 have Hr := Lib.hid hr
 have hfl : (freeP xs).toNat < xs.length := (freeP_some (by omega)).1
 have Hl := Lib.hid hl
 clear hok hr h hs hg hl
 go_enter Tryz.func221, Tryz.ntmps221
 go_wp2_with fail
 refine (C1.out _ (Below.refl _ _)).mono ?_; rintro e w1 ⟨rfl, hb1⟩; rw [Ok.out]
 go_wp2_with fail
 refine (C2.out _).mono ?_; rintro e w2 ⟨rfl, hb2⟩; rw [Hr.out]
 replace hb2 := hb1.trans (hb2.mono hb1.size); clear hb1
 go_wp2_with fail
 refine (C3.out _ hb2).mono ?_; rintro e w3 ⟨rfl, hb3⟩
 replace hb3 := hb2.trans (hb3.mono hb2.size); clear hb2
 go_wp2_with fail
 refine (C4.out _ hb3).mono ?_; rintro e w4 ⟨v', rfl, hO, hb4⟩
 obtain ⟨q, cap, rfl, c1, c2, q1, q2, hfz⟩ := hO.shapeOwn (by omega)
 unfold maxLen at c2
 have hS := Lib.hid (OwnF.stored infoCs_len hO hfl ⟨1, g, 0⟩)
 obtain ⟨d0, d1, d2⟩ := OwnF.infoCells hO hfl
 have hB := Lib.hid (below_grown (hb3.trans (hb4.mono hb3.size)) hS.out.2 (Nat.le_trans hb3.size q1) (hb3.trans (hb4.mono hb3.size)).size)
 have hlo := hb3.size
 clear hO hb4 hb3
 have hfi : freeP xs < xs.length := by omega
 go_wp2_with fail
 go_ret3
 exact ⟨_, rfl, hS.out.1.lower hlo, hB.out⟩
theorem beq_dec (a b : Int) : (a == b) = decide (a = b) := by cases h : (a == b) <;> simp_all
set_option maxHeartbeats 1000000 in
theorem isCached_any (x : CachedV) (w : World) : Calls Tryz.prog 116 #[x.val] w fun e w' => e = .returned (.bool (cachedOk x)) ∧ Below w.heap.size w w' := by
 obtain ⟨e, p, f, b⟩ := x
 simp only [CachedV.val]
 have C1 := Lib.hid (fun W => isEnv_any e W)
 have C2 := Lib.hid (fun W => isPage_any p W)
 have C3 := Lib.hid (fun W => isFrame_any f W)
 cases h1 : inB e 0 2
 ·have S := Lib.hid (show cachedOk ⟨e, p, f, b⟩ = false by simp [cachedOk, h1])
  have H1 := Lib.hid h1; clear h1
  go_enter Tryz.func116, Tryz.ntmps116
  go_wp2_with (refine (C1.out _).mono ?_; rintro e w' ⟨rfl, rfl⟩; rw [H1.out])
  go_ret
  exact ⟨ret_bool S.out.symm, below1 _ _⟩
 ·cases h2 : inB p 0 15
  ·have S := Lib.hid (show cachedOk ⟨e, p, f, b⟩ = false by simp [cachedOk, h2])
   have H1 := Lib.hid h1; clear h1
   have H2 := Lib.hid h2; clear h2
   go_enter Tryz.func116, Tryz.ntmps116
   go_wp2_with (first | (go_at_call 43; refine (C1.out _).mono ?_; rintro e w' ⟨rfl, rfl⟩; rw [H1.out]) | (go_at_call 184; refine (C2.out _).mono ?_; rintro e w' ⟨rfl, rfl⟩; rw [H2.out]))
   go_ret
   exact ⟨ret_bool S.out.symm, below1 _ _⟩
  ·have S := Lib.hid (show cachedOk ⟨e, p, f, b⟩ = inB f 0 11 by simp [cachedOk, h1, h2])
   have H1 := Lib.hid h1; clear h1
   have H2 := Lib.hid h2; clear h2
   go_enter Tryz.func116, Tryz.ntmps116
   go_wp2_with (first | (go_at_call 43; refine (C1.out _).mono ?_; rintro e w' ⟨rfl, rfl⟩; rw [H1.out]) | (go_at_call 184; refine (C2.out _).mono ?_; rintro e w' ⟨rfl, rfl⟩; rw [H2.out]) | (go_at_call 49; refine (C3.out _).mono ?_; rintro e w' ⟨rfl, rfl⟩))
   go_ret
   exact ⟨ret_bool S.out.symm, below1 _ _⟩
set_option maxHeartbeats 1000000 in
theorem cached1_any (x : CachedV) (e p : Int) (be bp : Nat) (w : World) (h1 : w.cell? ⟨be, 0, none⟩ = some (.int .i64 e)) (h2 : w.cell? ⟨bp, 0, none⟩ = some (.int .i64 p)) : Calls Tryz.prog 186 #[x.val, .pointer (some ⟨be, 0, none⟩), .pointer (some ⟨bp, 0, none⟩)] w fun r w' => r = .returned (.bool (sameCP e p x)) ∧ Below w.heap.size w w' := by
 obtain ⟨xe, xp, xf, xb⟩ := x
 simp only [CachedV.val]
 have b1 := World.block_lt_of_cell? w _ h1
 have b2 := World.block_lt_of_cell? w _ h2
 have n1 : ¬ be = w.heap.size := by have : be < w.heap.size := b1; omega
 have n2 : ¬ bp = w.heap.size := by have : bp < w.heap.size := b2; omega
 by_cases he : xe = e
 ·have S := Lib.hid (show sameCP e p ⟨xe, xp, xf, xb⟩ = (xp == p) by simp [sameCP, he, beq_dec])
  have t : (xe == e) = true := by simp [he]
  clear he
  go_enter Tryz.func186, Tryz.ntmps186
  go_wp2_with fail
  go_ret
  exact ⟨ret_bool S.out.symm, below1 _ _⟩
 ·have S := Lib.hid (show sameCP e p ⟨xe, xp, xf, xb⟩ = false by simp [sameCP, he])
  have t : (xe == e) = false := by simp [he]
  clear he
  go_enter Tryz.func186, Tryz.ntmps186
  go_wp2_with fail
  go_ret
  exact ⟨ret_bool S.out.symm, below1 _ _⟩
set_option maxHeartbeats 1000000 in
theorem cached_any (v : Value) (xs : List CachedV) (e p : Int) (w : World) (h : RdCache w v xs) : Calls Tryz.prog 117 #[v, .int .i64 e, .int .i64 p] w fun r w' => r = .returned (.int .i64 (findC xs e p)) ∧ Below w.heap.size w w' := by
 have b2 := below2 w (.cells #[.int .i64 e] 3) (.cells #[.int .i64 p] 3)
 have ce0 : (w.alloc (.cells #[.int .i64 e] 3)).cell? ⟨w.heap.size, 0, none⟩ = some (.int .i64 e) := cell_of_row _ _ 0 _ _ _ (heap_alloc_new _ _)
 have ce : ((w.alloc (.cells #[.int .i64 e] 3)).alloc (.cells #[.int .i64 p] 3)).cell? ⟨w.heap.size, 0, none⟩ = some (.int .i64 e) := ((below1 _ _).cell (World.block_lt_of_cell? _ _ ce0)).trans ce0
 have cp : ((w.alloc (.cells #[.int .i64 e] 3)).alloc (.cells #[.int .i64 p] 3)).cell? ⟨w.heap.size + 1, 0, none⟩ = some (.int .i64 p) := by
  have := cell_of_row _ _ 0 _ _ _ (heap_alloc_new (w.alloc (.cells #[.int .i64 e] 3)) (.cells #[.int .i64 p] 3))
  rwa [World.size_alloc] at this
 have C := Lib.hid (IndexFuncCached_any 186 #[.pointer (some ⟨w.heap.size, 0, none⟩), .pointer (some ⟨w.heap.size + 1, 0, none⟩)] (sameCP e p) v xs _ (RdF.below h b2) (fun _ _ => by kernel_rfl)
  (fun x _ W hW => cached1_any x e p _ _ W ((hW.cell (World.block_lt_of_cell? _ _ ce)).trans ce) ((hW.cell (World.block_lt_of_cell? _ _ cp)).trans cp)))
 obtain ⟨a, c, rfl, hc, hcm⟩ := h.shape
 clear h ce0 ce cp
 go_enter Tryz.func117, Tryz.ntmps117
 go_wp2_with (refine (C.out).mono ?_; rintro e w' ⟨rfl, hb2⟩)
 go_ret
 exact ⟨rfl, b2.trans (hb2.mono b2.size)⟩
theorem RdCache.take {w : World} {a : Option Addr} {c k : Nat} {xs : List CachedV} (h : RdCache w (.slice a xs.length c) xs) (hk : k ≤ xs.length) : RdCache w (.slice a k c) (xs.take k) := by
 obtain ⟨a', c', hv, hnc, hcm, hl, hnil, hc⟩ := h
 cases hv
 have hl' : (flat cachedCs (xs.take k)).length = k * 4 := by rw [flat_len cachedCs_len, List.length_take]; congr 1; omega
 have hk4 : k * 4 ≤ xs.length * 4 := Nat.mul_le_mul_right _ hk
 unfold RdCache RdF
 rw [show (xs.take k).length = k by rw [List.length_take]; omega]
 refine ⟨a, c, rfl, by omega, hcm, hl', hnil, fun hn => ?_⟩
 obtain ⟨b, off, rfl, hcell⟩ := hc (by omega)
 refine ⟨b, off, rfl, fun j hj => ?_⟩
 rw [hcell j (by omega)]
 have e : flat cachedCs xs = flat cachedCs (xs.take k) ++ flat cachedCs (xs.drop k) := by rw [← flat_append, List.take_append_drop]
 rw [e, List.getElem?_append_left (by omega)]
theorem findC_pos {xs : List CachedV} {e p : Int} : decide (0 ≤ findC xs e p) = xs.any (sameCP e p) := findIx_ge
theorem cacheOk_bad {xs : List CachedV} {k : Nat} (h : k < xs.length) (hc : stepCache xs k = false) : cacheOk xs = false := by
 have : (List.range xs.length).all (stepCache xs) = false := List.all_eq_false.2 ⟨k, List.mem_range.2 h, by simp [hc]⟩
 simp [cacheOk, this]
theorem cacheOk_good {xs : List CachedV} (h : ∀ k, k < xs.length → stepCache xs k = true) (hl : xs.length ≤ 4) : cacheOk xs = true := by
 have : (List.range xs.length).all (stepCache xs) = true := List.all_eq_true.2 fun k hk => h k (List.mem_range.1 hk)
 simp [cacheOk, this, hl]
set_option maxRecDepth 100000 in
set_option maxHeartbeats 2000000 in
theorem CacheValid_impl (v : Value) (xs : List CachedV) (w : World) (h : RdCache w v xs) : Calls Tryz.prog 47 #[v] w fun e w' => e = .returned (.bool (cacheOk xs)) ∧ Below w.heap.size w w' := by
 have H := Lib.hid h
 obtain ⟨a, c, rfl, hc, hcm, H0⟩ := RdF.open cachedCs_len (by decide) h
 clear h
 unfold maxLen at hcm
 by_cases h4 : xs.length ≤ 4
 ·have hb : ¬ (4 : Int) < xs.length := by omega
  go_enter Tryz.func47, Tryz.ntmps47
  go_wp2_with fail
  go_loopw [10] (fun i wr => ∃ k : Nat, k ≤ xs.length ∧ i = .int .i64 k ∧ (∀ j, j < k → stepCache xs j = true) ∧ Below w.heap.size w wr) (fun i _ => xs.length - (intOf i).toNat)
  case atStart => exact ⟨0, Nat.zero_le _, rfl, fun j hj => absurd hj (Nat.not_lt_zero _), Below.refl _ _⟩
  case round =>
   obtain ⟨k, hk, rfl, hpre, hbel⟩ := hrel
   have Hpre := Lib.hid hpre; clear hpre
   by_cases hlt : k < xs.length
   ·obtain ⟨b, off, rfl, hbl, D0, D1, D2, D3⟩ := H0.cachedCells hlt
    replace D0 := (hbel.cell (p := ⟨b, off + k * 4, none⟩) hbl).trans D0
    replace D1 := (hbel.cell (p := ⟨b, off + k * 4 + 1, none⟩) hbl).trans D1
    replace D2 := (hbel.cell (p := ⟨b, off + k * 4 + 2, none⟩) hbl).trans D2
    replace D3 := (hbel.cell (p := ⟨b, off + k * 4 + 3, none⟩) hbl).trans D3
    clear H0
    have N := heap_alloc_new wr (.cells #[.int .i64 (cacheAt xs k).e, .int .i64 (cacheAt xs k).p, .int .i64 (cacheAt xs k).f, .bool (cacheAt xs k).w] 94)
    have hba := hbel.trans ((below1 wr (.cells #[.int .i64 (cacheAt xs k).e, .int .i64 (cacheAt xs k).p, .int .i64 (cacheAt xs k).f, .bool (cacheAt xs k).w] 94)).mono hbel.size)
    have hk1 : (k : Int) ≤ xs.length := by omega
    have hk2 : (k : Int) ≤ c := by omega
    go_wp2_with fail
    generalize wr.alloc _ = wa at N hba
    clear D0 D1 D2 D3 hbel
    obtain ⟨n0, n1, n2, n3⟩ := blk_cells4 N
    have k0 := cell_regrown n0
    have k1 := cell_regrown n1
    have k2 := cell_regrown n2
    have k3 := cell_regrown n3
    clear n0 n1 n2 n3
    have HB := Lib.hid hba
    have cF := RegB (w1 := wa) (fun W hW => cached_any _ (xs.take k) (cacheAt xs k).e (cacheAt xs k).p W (RdCache.take (RdF.below H.out (hba.trans (hW.mono hba.size))) hk))
    cases h1 : cachedOk (cacheAt xs k)
    ·have S := Lib.hid (cacheOk_bad hlt (by simp [stepCache, h1]))
     have cC := RegB (w1 := wa) (fun W _ => by have := isCached_any (cacheAt xs k) W; rw [h1] at this; exact this)
     clear h1 N hba
     refine wp_region_quiet_below Tryz.mixed (by kernel_rfl) ?_
     repeat (go_big_quiet_step (first | exact cC _ _ | exact cF _ _))
     refine wpQuiet_nil ?_
     intro _ hw'
     obtain ⟨⟨dq, osq⟩, hw''⟩ := hw'
     subst hw''
     have bq := below_regrown wa dq osq
     generalize Sort.grow (redrawn wa dq) osq = wq at bq
     go_wp2_with fail
     go_ret
     exact ⟨ret_bool S.out.symm, HB.out.trans (bq.mono HB.out.size)⟩
    ·have cC := RegB (w1 := wa) (fun W _ => by have := isCached_any (cacheAt xs k) W; rw [h1] at this; exact this)
     have E := findC_pos (xs := xs.take k) (e := (cacheAt xs k).e) (p := (cacheAt xs k).p)
     cases h2 : (xs.take k).any (sameCP (cacheAt xs k).e (cacheAt xs k).p)
     ·have S := Lib.hid (show stepCache xs k = true by simp only [stepCache, h1, h2]; rfl)
      rw [h2] at E
      clear h1 h2 N hba
      refine wp_region_quiet_below Tryz.mixed (by kernel_rfl) ?_
      repeat (go_big_quiet_step (first | exact cC _ _ | exact cF _ _))
      refine wpQuiet_nil ?_
      intro _ hw'
      obtain ⟨⟨dq, osq⟩, hw''⟩ := hw'
      subst hw''
      have bq := below_regrown wa dq osq
      generalize Sort.grow (redrawn wa dq) osq = wq at bq
      go_wp2_with fail
      go_roundw
      case rel => exact ⟨k + 1, by omega, by go_num, forall_lt_succ Hpre.out S.out, HB.out.trans (bq.mono HB.out.size)⟩
      case measure => simp [intOf]; omega
     ·have S := Lib.hid (cacheOk_bad hlt (by simp only [stepCache, h1, h2]; rfl))
      rw [h2] at E
      clear h1 h2 N hba
      refine wp_region_quiet_below Tryz.mixed (by kernel_rfl) ?_
      repeat (go_big_quiet_step (first | exact cC _ _ | exact cF _ _))
      refine wpQuiet_nil ?_
      intro _ hw'
      obtain ⟨⟨dq, osq⟩, hw''⟩ := hw'
      subst hw''
      have bq := below_regrown wa dq osq
      generalize Sort.grow (redrawn wa dq) osq = wq at bq
      go_wp2_with fail
      go_ret
      exact ⟨ret_bool S.out.symm, HB.out.trans (bq.mono HB.out.size)⟩
   ·have S := Lib.hid (cacheOk_good (xs := xs) (fun j hj => Hpre.out j (by omega)) h4)
    go_wp2_with fail
    go_ret
    exact ⟨ret_bool S.out.symm, hbel⟩
 ·have S := Lib.hid (show cacheOk xs = false by simp [cacheOk, h4])
  have hb : (4 : Int) < xs.length := by omega
  go_enter Tryz.func47, Tryz.ntmps47
  go_wp2_with fail
  go_ret
  exact ⟨ret_bool S.out.symm, Below.refl _ _⟩
theorem dropC_eq {xs : List CachedV} {e : Int} : (xs.filter fun x => !decide (x.e = e)) = dropC xs e := by
 unfold dropC
 congr 1
 funext x
 simp
set_option maxHeartbeats 1000000 in
theorem CacheDrop1_any (x : CachedV) (e : Int) (be : Nat) (w : World) (h1 : w.cell? ⟨be, 0, none⟩ = some (.int .i64 e)) : Calls Tryz.prog 276 #[x.val, .pointer (some ⟨be, 0, none⟩)] w fun r w' => r = .returned (.bool (decide (x.e = e))) ∧ Below w.heap.size w w' := by
 obtain ⟨xe, xp, xf, xb⟩ := x
 simp only [CachedV.val]
 have b1 := World.block_lt_of_cell? w _ h1
 have n1 : ¬ be = w.heap.size := by have : be < w.heap.size := b1; omega
 have S := Lib.hid (beq_dec xe e)
 go_enter Tryz.func276, Tryz.ntmps276
 go_wp2_with fail
 go_ret
 exact ⟨ret_bool S.out, below1 _ _⟩
set_option maxHeartbeats 1000000 in
theorem CacheDrop_any (v : Value) (xs : List CachedV) (e : Int) (w : World) (h : RdCache w v xs) (hok : cacheOk xs = true) : Calls Tryz.prog 229 #[v, .int .i64 e] w fun r w' => ∃ v', r = .returned v' ∧ OwnF w.heap.size 94 4 cachedCs w' v' (dropC xs e) ∧ Below w.heap.size w w' := by
 have hl := (cacheOk_iff.1 hok).2.2
 have b1 := below1 w (.cells #[.int .i64 e] 3)
 have ce : (w.alloc (.cells #[.int .i64 e] 3)).cell? ⟨w.heap.size, 0, none⟩ = some (.int .i64 e) := cell_of_row _ _ 0 _ _ _ (heap_alloc_new _ _)
 have hlt : w.heap.size < (w.alloc (.cells #[.int .i64 e] 3)).heap.size := by simp
 have C1 := Lib.hid (by have := CacheValid_impl v xs _ (RdF.below h b1); rw [hok] at this; exact this)
 have C2 := Lib.hid (fun W (hW : Below w.heap.size w W) => CloneCached_any v xs W (RdF.below h hW) (by omega))
 obtain ⟨a, c, rfl, hc, hcm⟩ := h.shape
 clear h hok
 go_enter Tryz.func229, Tryz.ntmps229
 go_wp2_with fail
 refine (C1.out).mono ?_; rintro r w1 ⟨rfl, hb1⟩
 replace ce := (hb1.cell (World.block_lt_of_cell? _ _ ce)).trans ce
 have hb2 := b1.trans (hb1.mono b1.size)
 replace hlt : w.heap.size < w1.heap.size := Nat.lt_of_lt_of_le hlt hb1.size
 clear hb1 b1
 have CE := Lib.hid ce; clear ce
 go_wp2_with fail
 refine (C2.out _ hb2).mono ?_; rintro r w2 ⟨v', rfl, hO, hb3⟩
 have ce2 := (hb3.cell (p := ⟨w.heap.size, 0, none⟩) hlt).trans CE.out
 have C3 := Lib.hid (DeleteFuncCached_any 276 #[.pointer (some ⟨w.heap.size, 0, none⟩)] (fun x => decide (x.e = e)) v' xs w2 hO hb3.size (fun _ _ => by kernel_rfl)
  (fun x _ W hW => CacheDrop1_any x e _ W ((hW.cell (p := ⟨w.heap.size, 0, none⟩) hlt).trans ce2)))
 have hb4 := hb2.trans (hb3.mono hb2.size)
 have hs1 := hb2.size
 clear hO hb3 ce2
 go_wp2_with fail
 refine (C3.out).mono ?_; rintro r w3 ⟨v3, rfl, hO3, hb5⟩
 go_wp2_with fail
 go_ret
 refine ⟨_, rfl, ?_, hb4.trans (hb5.mono hs1)⟩
 rw [← dropC_eq]; exact hO3.lower hs1
set_option maxHeartbeats 1000000 in
theorem CachePut1_any (y x : CachedV) (b : Nat) (w : World) (h1 : w.heap[b]? = some (.cells #[.int .i64 x.e, .int .i64 x.p, .int .i64 x.f, .bool x.w] 94 (0, 0))) : Calls Tryz.prog 281 #[y.val, .pointer (some ⟨b, 0, none⟩)] w fun r w' => r = .returned (.bool (sameCP x.e x.p y)) ∧ Below w.heap.size w w' := by
 obtain ⟨d0, d1, d2, d3⟩ := blk_cells4 h1
 have b1 := blk_lt h1
 have n1 : ¬ b = w.heap.size := by omega
 obtain ⟨ye, yp, yf, yb⟩ := y
 simp only [CachedV.val]
 clear h1
 by_cases he : ye = x.e
 ·have S := Lib.hid (show sameCP x.e x.p ⟨ye, yp, yf, yb⟩ = (yp == x.p) by simp [sameCP, he, beq_dec])
  have t : (ye == x.e) = true := by simp [he]
  clear he
  go_enter Tryz.func281, Tryz.ntmps281
  go_wp2_with fail
  go_ret
  exact ⟨ret_bool S.out.symm, below1 _ _⟩
 ·have S := Lib.hid (show sameCP x.e x.p ⟨ye, yp, yf, yb⟩ = false by simp [sameCP, he])
  have t : (ye == x.e) = false := by simp [he]
  clear he
  go_enter Tryz.func281, Tryz.ntmps281
  go_wp2_with fail
  go_ret
  exact ⟨ret_bool S.out.symm, below1 _ _⟩
theorem putC_eq {xs : List CachedV} {x : CachedV} {ys : List CachedV} (h : ys = if (xs.filter fun y => !sameCP x.e x.p y).length = 4 then (xs.filter fun y => !sameCP x.e x.p y).drop 1 else xs.filter fun y => !sameCP x.e x.p y) : ys ++ [x] = putC xs x := by rw [h]; rfl
set_option maxRecDepth 100000 in
set_option maxHeartbeats 2000000 in
theorem CachePut_any (v : Value) (xs : List CachedV) (x : CachedV) (w : World) (h : RdCache w v xs) (hok : cacheOk xs = true) (hx : cachedOk x = true) : Calls Tryz.prog 232 #[v, x.val] w fun r w' => ∃ v', r = .returned (.tuple #[v', .bool true]) ∧ OwnF w.heap.size 94 4 cachedCs w' v' (putC xs x) ∧ Below w.heap.size w w' := by
 have hl := (cacheOk_iff.1 hok).2.2
 have b1 := below1 w (.cells #[.int .i64 x.e, .int .i64 x.p, .int .i64 x.f, .bool x.w] 94)
 have N := heap_alloc_new w (.cells #[.int .i64 x.e, .int .i64 x.p, .int .i64 x.f, .bool x.w] 94)
 have C1 := Lib.hid (by have := CacheValid_impl v xs _ (RdF.below h b1); rw [hok] at this; exact this)
 have CX := Lib.hid (fun W => by have := isCached_any x W; rw [hx] at this; exact this)
 have C2 := Lib.hid (fun W (hW : Below w.heap.size w W) => CloneCached_any v xs W (RdF.below h hW) (by omega))
 obtain ⟨a, c, rfl, hc, hcm⟩ := h.shape
 have hfl : (xs.filter fun y => !sameCP x.e x.p y).length ≤ 4 := Nat.le_trans (List.length_filter_le _ _) hl
 clear h hok hx
 simp only [CachedV.val] at CX ⊢
 go_enter Tryz.func232, Tryz.ntmps232
 go_wp2_with fail
 refine (C1.out).mono ?_; rintro r w1 ⟨rfl, hb1⟩
 replace N := blk_below N hb1
 have hb2 := b1.trans (hb1.mono b1.size)
 clear hb1 b1
 obtain ⟨d0, d1, d2, d3⟩ := blk_cells4 N
 have HN := Lib.hid N; clear N
 go_wp2_with fail
 refine (CX.out _).mono ?_; rintro r w2 ⟨rfl, hb3⟩
 have HN2 := Lib.hid (blk_below HN.out hb3)
 replace hb2 := hb2.trans (hb3.mono hb2.size)
 clear hb3 d0 d1 d2 d3 HN
 go_wp2_with fail
 refine (C2.out _ hb2).mono ?_; rintro r w3 ⟨v', rfl, hO, hb4⟩
 have N3 := blk_below HN2.out hb4
 have hlt : w.heap.size < w2.heap.size := blk_lt HN2.out
 have C3 := Lib.hid (DeleteFuncCached_any 281 #[.pointer (some ⟨w.heap.size, 0, none⟩)] (sameCP x.e x.p) v' xs w3 hO hb4.size (fun _ _ => by kernel_rfl)
  (fun y _ W hW => CachePut1_any y x _ W ((hW.block _ hlt).trans N3)))
 have hb5 := hb2.trans (hb4.mono hb2.size)
 have hs1 := hb2.size
 have hs3 := hb4.size
 have HN3 := Lib.hid N3
 clear hO hb4 N3 HN2
 go_wp2_with fail
 refine (C3.out).mono ?_; rintro r w4 ⟨v4, rfl, hO4, hb6⟩
 have N4 := (hb6.block _ hlt).trans HN3.out
 have hb7 := hb5.trans (hb6.mono hs1)
 have hs4 : w2.heap.size ≤ w4.heap.size := Nat.le_trans hs3 hb6.size
 obtain ⟨a4, c4, rfl, hc4, hcm4⟩ := hO4.rd.shape
 have HO4 := Lib.hid hO4
 have HN4 := Lib.hid N4
 clear hO4 hb6 hb5 N4 HN3
 by_cases hn : (xs.filter fun y => !sameCP x.e x.p y).length = 4
 ·have t : (((xs.filter fun y => !sameCP x.e x.p y).length : Int) == 4) = true := by simp [hn]
  have E := Lib.hid (putC_eq (xs := xs) (x := x) (ys := (xs.filter fun y => !sameCP x.e x.p y).drop 1) (by rw [if_pos hn]))
  have CD := Lib.hid (DeleteCached_any _ _ w4 HO4.out hs4 hn)
  have hl3 : ((xs.filter fun y => !sameCP x.e x.p y).drop 1).length ≤ 3 := by rw [List.length_drop]; omega
  generalize (xs.filter fun y => !sameCP x.e x.p y) = fs at *
  clear hn HO4 hfl
  go_wp2_with fail
  refine (CD.out).mono ?_; rintro r w5 ⟨v5, rfl, hO5, hb8⟩
  have N5 := (hb8.block _ hlt).trans HN4.out
  obtain ⟨d0, d1, d2, d3⟩ := blk_cells4 N5
  have hb9 := hb7.trans (hb8.mono hs1)
  have hs5 : w2.heap.size ≤ w5.heap.size := Nat.le_trans hs4 hb8.size
  have HO5 := Lib.hid hO5
  clear hO5 hb8 hb7 N5 HN4
  generalize hgs : fs.drop 1 = gs at *
  clear hgs
  go_wp2_with (at_builtin; go_must (refine wp_append (lo := w2.heap.size) (v := v5) (n := gs.length) (xs := flat cachedCs gs) (m := 1) (news := [.int .i64 x.e, .int .i64 x.p, .int .i64 x.f, .bool x.w]) rfl rfl 94 (.agg #[.int .i64 0, .int .i64 0, .int .i64 0, .bool false]) 4 32 Tryz.underlying31 Tryz.infoCachedK rfl (by decide) rfl (ownsRow_below HO5.out (below1 _ _)) rfl (Rd.newsAt _ #[.int .i64 x.e, .int .i64 x.p, .int .i64 x.f, .bool x.w] _ 4 1 _ rfl (by simp) (by simp [maxLen])) (by simp [Value.oneCell']) (by unfold maxLen; omega) (by omega) (by simp; omega) ?_; intro v6 w6 k1 k2 k3))
  have R : OwnF w2.heap.size 94 4 cachedCs w6 v6 (gs ++ [x]) := by unfold OwnF; rw [flat_append, flat_one, List.length_append]; exact k1
  rw [E.out] at R
  have RR := Lib.hid R
  clear k1 R
  go_wp2_with fail
  go_ret2
  exact ⟨_, rfl, RR.out.lower hs1, (hb9.trans ((below1 _ _).mono hb9.size)).trans (k3.mono hs1)⟩
 ·have t : (((xs.filter fun y => !sameCP x.e x.p y).length : Int) == 4) = false := by rw [beq_eq_false_iff_ne]; omega
  have E := Lib.hid (putC_eq (xs := xs) (x := x) (ys := xs.filter fun y => !sameCP x.e x.p y) (by rw [if_neg hn]))
  have hl3 : (xs.filter fun y => !sameCP x.e x.p y).length ≤ 3 := by omega
  generalize (xs.filter fun y => !sameCP x.e x.p y) = gs at *
  clear hn hfl
  obtain ⟨d0, d1, d2, d3⟩ := blk_cells4 HN4.out
  go_wp2_with (at_builtin; go_must (refine wp_append (lo := w2.heap.size) (v := .slice a4 gs.length c4) (n := gs.length) (xs := flat cachedCs gs) (m := 1) (news := [.int .i64 x.e, .int .i64 x.p, .int .i64 x.f, .bool x.w]) rfl rfl 94 (.agg #[.int .i64 0, .int .i64 0, .int .i64 0, .bool false]) 4 32 Tryz.underlying31 Tryz.infoCachedK rfl (by decide) rfl (ownsRow_below HO4.out (below1 _ _)) rfl (Rd.newsAt _ #[.int .i64 x.e, .int .i64 x.p, .int .i64 x.f, .bool x.w] _ 4 1 _ rfl (by simp) (by simp [maxLen])) (by simp [Value.oneCell']) (by unfold maxLen; omega) (by omega) (by simp; omega) ?_; intro v6 w6 k1 k2 k3))
  have R : OwnF w2.heap.size 94 4 cachedCs w6 v6 (gs ++ [x]) := by unfold OwnF; rw [flat_append, flat_one, List.length_append]; exact k1
  rw [E.out] at R
  have RR := Lib.hid R
  clear k1 R
  go_wp2_with fail
  go_ret2
  exact ⟨_, rfl, RR.out.lower hs1, (hb7.trans ((below1 _ _).mono hb7.size)).trans (k3.mono hs1)⟩
set_option maxRecDepth 100000 in
set_option maxHeartbeats 2000000 in
theorem RightsValid_impl (v : Value) (ss : List ByteArray) (w : World) (h : RdStrs w v ss) (hs : SmallS ss) : Calls Tryz.prog 40 #[v] w fun e w' => e = .returned (.bool (rightsOk ss)) ∧ Below w.heap.size w w' := by
 obtain ⟨a, c, rfl, hc, hcm, H0⟩ := RdF.open strCs_len (by decide) h
 unfold maxLen at hcm
 have Hs := Lib.hid hs; clear hs h
 go_enter Tryz.func40, Tryz.ntmps40
 go_wp2_with fail
 go_loopw [7] (fun i wr => ∃ k : Nat, k ≤ ss.length ∧ i = .int .i64 k ∧ (∀ j, j < k → stepRight ss j = true) ∧ Below w.heap.size w wr) (fun i _ => ss.length - (intOf i).toNat)
 case atStart => exact ⟨0, Nat.zero_le _, rfl, fun j hj => absurd hj (Nat.not_lt_zero _), Below.refl _ _⟩
 case round =>
  obtain ⟨k, hk, rfl, hpre, hbel⟩ := hrel
  have Hpre := Lib.hid hpre; clear hpre
  by_cases hlt : k < ss.length
  ·obtain ⟨b, off, rfl, D0⟩ := H0.str hlt
   have hbl := World.block_lt_of_cell? w _ D0
   have D := (hbel.cell (p := ⟨b, off + k, none⟩) hbl).trans D0
   have C := Lib.hid (fun W => RightValid_impl (nthS ss k) W (Hs.out.nth hlt))
   cases hok : rightOk (nthS ss k)
   ·have S := Lib.hid (rightsOk_bad hlt (by simp [stepRight, hok]))
    have Hok := Lib.hid hok
    clear hok D0
    go_wp2_with fail
    refine (C.out _).mono ?_; rintro e w2 ⟨rfl, hb⟩; rw [Hok.out]
    go_wp2_with fail
    go_ret
    exact ⟨ret_bool S.out.symm, hbel.trans (hb.mono hbel.size)⟩
   ·by_cases hk0 : k = 0
    ·have Ok := Lib.hid (show stepRight ss k = true by simp [stepRight, hok]; exact .inl hk0)
     have Hok := Lib.hid hok
     have t0 : ¬ (0 : Int) < k := by omega
     clear hok D0 hk0
     go_wp2_with fail
     refine (C.out _).mono ?_; rintro e w2 ⟨rfl, hb⟩; rw [Hok.out]
     go_wp2_with fail
     go_roundw
     case rel => exact ⟨k + 1, by omega, by go_num, forall_lt_succ Hpre.out Ok.out, hbel.trans (hb.mono hbel.size)⟩
     case measure => simp [intOf]; omega
    ·obtain ⟨b', off', hbb, E0⟩ := H0.str (show k - 1 < ss.length by omega)
     obtain ⟨rfl, rfl⟩ : b = b' ∧ off = off' := by simpa using hbb
     have E := (hbel.cell (p := ⟨b, off + (k - 1), none⟩) hbl).trans E0
     have t0 : (0 : Int) < k := by omega
     have s1 : ((k : Int) - 1).toNat = k - 1 := by omega
     have s3 : (1 : Int) ≤ k := by omega
     have Hok := Lib.hid hok
     clear D0 E0 hbb
     cases hge : geB (nthS ss (k - 1)) (nthS ss k)
     ·have Ok := Lib.hid (show stepRight ss k = true by simp [stepRight, hok, hge])
      have hL : Op.bytesLess (nthS ss (k - 1)).toList (nthS ss k).toList = true := by simpa [geB] using hge
      have EE := Lib.hid E
      clear hok hge
      go_wp2_with fail
      refine (C.out _).mono ?_; rintro e w2 ⟨rfl, hb⟩; rw [Hok.out]
      have E2 := (hb.cell (World.block_lt_of_cell? _ _ EE.out)).trans EE.out
      clear E
      go_wp2_with fail
      go_roundw
      case rel => exact ⟨k + 1, by omega, by go_num, forall_lt_succ Hpre.out Ok.out, hbel.trans (hb.mono hbel.size)⟩
      case measure => simp [intOf]; omega
     ·have S := Lib.hid (rightsOk_bad hlt (by simp [stepRight, hok, hge, hk0]))
      have hL : Op.bytesLess (nthS ss (k - 1)).toList (nthS ss k).toList = false := by simpa [geB] using hge
      have EE := Lib.hid E
      clear hok hge
      go_wp2_with fail
      refine (C.out _).mono ?_; rintro e w2 ⟨rfl, hb⟩; rw [Hok.out]
      have E2 := (hb.cell (World.block_lt_of_cell? _ _ EE.out)).trans EE.out
      clear E
      go_wp2_with fail
      go_ret
      exact ⟨ret_bool S.out.symm, hbel.trans (hb.mono hbel.size)⟩
  ·have S := Lib.hid (rightsOk_good (ss := ss) (fun j hj => Hpre.out j (by omega)))
   go_wp2_with fail
   go_ret
   exact ⟨ret_bool S.out.symm, hbel⟩
theorem RightsDrop1_any (s g : ByteArray) (b : Nat) (w : World) (h : w.cell? ⟨b, 0, none⟩ = some (.string g)) : Calls Tryz.prog 280 #[.string s, .pointer (some ⟨b, 0, none⟩)] w fun e w' => e = .returned (.bool (cov g s)) ∧ Below w.heap.size w w' := by
 go_enter Tryz.func280, Tryz.ntmps280
 go_wp2_with (refine (HasPrefix_any _ _ _).mono ?_; rintro e w' ⟨rfl, rfl⟩)
 go_ret
 exact ⟨rfl, Below.refl _ _⟩
set_option maxHeartbeats 1000000 in
theorem RightsDrop_any (v : Value) (ss : List ByteArray) (g : ByteArray) (w : World) (h : RdStrs w v ss) (hs : SmallS ss) (hg : g.size ≤ maxLen) (hok : rightsOk ss = true) (hr : rightOk g = true) : Calls Tryz.prog 231 #[v, .string g] w fun r w' => ∃ v', r = .returned v' ∧ OwnF w.heap.size 9 1 strCs w' v' (rightsDropP ss g) ∧ Below w.heap.size w w' := by
 have hl := (rightsOk_iff.1 hok).2.2
 have b1 := below1 w (.cells #[.string g] 9)
 have ce : (w.alloc (.cells #[.string g] 9)).cell? ⟨w.heap.size, 0, none⟩ = some (.string g) := cell_of_row _ _ 0 _ _ _ (heap_alloc_new _ _)
 have hlt : w.heap.size < (w.alloc (.cells #[.string g] 9)).heap.size := by simp
 have C1 := Lib.hid (by have := RightsValid_impl v ss _ (RdF.below h b1) hs; rw [hok] at this; exact this)
 have CX := Lib.hid (fun W => by have := RightValid_impl g W hg; rw [hr] at this; exact this)
 have C2 := Lib.hid (fun W (hW : Below w.heap.size w W) => CloneString_any v ss W (RdF.below h hW) (by omega))
 obtain ⟨a, c, rfl, hc, hcm⟩ := h.shape
 clear h hok hs hg hr
 go_enter Tryz.func231, Tryz.ntmps231
 go_wp2_with fail
 refine (C1.out).mono ?_; rintro r w1 ⟨rfl, hb1⟩
 replace ce := (hb1.cell (World.block_lt_of_cell? _ _ ce)).trans ce
 have hb2 := b1.trans (hb1.mono b1.size)
 replace hlt : w.heap.size < w1.heap.size := Nat.lt_of_lt_of_le hlt hb1.size
 clear hb1 b1
 have CE := Lib.hid ce
 go_wp2_with fail
 refine (CX.out _).mono ?_; rintro r w2 ⟨rfl, hb3⟩
 have CE2 := Lib.hid ((hb3.cell (p := ⟨w.heap.size, 0, none⟩) hlt).trans CE.out)
 replace hlt : w.heap.size < w2.heap.size := Nat.lt_of_lt_of_le hlt hb3.size
 replace hb2 := hb2.trans (hb3.mono hb2.size)
 clear hb3 ce CE
 go_wp2_with fail
 refine (C2.out _ hb2).mono ?_; rintro r w3 ⟨v', rfl, hO, hb4⟩
 have ce3 := (hb4.cell (p := ⟨w.heap.size, 0, none⟩) hlt).trans CE2.out
 have C3 := Lib.hid (DeleteFuncString_any 280 #[.pointer (some ⟨w.heap.size, 0, none⟩)] (fun s => cov g s) v' ss w3 hO hb4.size (fun _ _ => by kernel_rfl)
  (fun x _ W hW => RightsDrop1_any x g _ W ((hW.cell (p := ⟨w.heap.size, 0, none⟩) hlt).trans ce3)))
 have hb5 := hb2.trans (hb4.mono hb2.size)
 have hs1 := hb2.size
 clear hO hb4 ce3
 go_wp2_with fail
 refine (C3.out).mono ?_; rintro r w4 ⟨v4, rfl, hO4, hb6⟩
 go_wp2_with fail
 go_ret
 exact ⟨_, rfl, hO4.lower hs1, hb5.trans (hb6.mono hs1)⟩
end Go.Proofs.YtjacdlekgdnndaaGreatDoor
set_option linter.unusedVariables false
namespace Go.Proofs.YtjacdlekgdnndaaGreatDoor
open Go.RowKit Go.Shelf
theorem own_cells {lo e n g cap : Nat} {w : World} {cs : List Value} (h : w.ownsRow lo e 1 (.slice (some ⟨g, 0, none⟩) n cap) n cs) : ∀ (j : Nat) v, cs[j]? = some v → w.cell? ⟨g, 0 + j, none⟩ = some v := by
 intro j v hj
 have hl := h.1
 have := (List.getElem?_eq_some_iff.1 hj).1
 rw [Nat.zero_add, World.ownsRow.cellAt h j (by omega), hj]
theorem own_block {lo e n g cap : Nat} {w : World} {cs : List Value} (h : w.ownsRow lo e 1 (.slice (some ⟨g, 0, none⟩) n cap) n cs) : ∃ cur, w.heap[g]? = some (.cells cur e (0, 0)) ∧ n ≤ cap ∧ cap ≤ maxLen ∧ cur.size = cap := by
 rcases h.2 with ⟨h0, _⟩ | ⟨g', cap', cur, hv, hb, hg, hnc, hcm, hcs, htake⟩
 ·cases h0
 ·cases hv
  exact ⟨cur, hg, hnc, hcm, by omega⟩
theorem setList_app (A B us : List Value) (h : us.length ≤ B.length) : setList (A ++ B) A.length 0 us = A ++ us ++ B.drop us.length := by
 have e : A ++ B = A ++ B.take us.length ++ B.drop us.length := by rw [List.append_assoc, List.take_append_drop]
 rw [e, setList_mid A (B.take us.length) (B.drop us.length) us 0 (by rw [List.length_take]; omega) A.length (by omega)]
theorem ones_strs (ss : List ByteArray) : ∀ u ∈ ss.map Value.string, u.oneCell' = true := by
 intro u hu
 obtain ⟨s, _, rfl⟩ := List.mem_map.1 hu
 rfl
theorem flat_strs (ss : List ByteArray) : flat strCs ss = ss.map Value.string := by
 induction ss with
 | nil => rfl
 | cons s ss ih => rw [flat_cons, ih]; rfl
def insertAt (ss : List ByteArray) (k : Nat) (x : ByteArray) : List ByteArray := ss.take k ++ x :: ss.drop k
theorem insertAt_len {ss : List ByteArray} {k : Nat} {x : ByteArray} (hk : k ≤ ss.length) : (insertAt ss k x).length = ss.length + 1 := by
 simp [insertAt]; omega
theorem ins_list1 {zs cs : List Value} {k n : Nat} {x : Value} (hz : zs.length = n + 1) (hc : cs.length = n) (hk : k ≤ n) (ht : zs.take k = cs.take k) : setList (setList zs k 0 [x]) (k + 1) 0 (cs.drop k) = cs.take k ++ x :: cs.drop k := by
 have hA : (cs.take k).length = k := by rw [List.length_take]; omega
 have e : zs = cs.take k ++ zs.drop k := by rw [← ht, List.take_append_drop]
 have h1 : setList zs k 0 [x] = cs.take k ++ [x] ++ (zs.drop k).drop 1 := by
  have := setList_app (cs.take k) (zs.drop k) [x] (by simp; omega)
  rw [← e, hA] at this
  exact this
 rw [h1]
 have := setList_app (cs.take k ++ [x]) ((zs.drop k).drop 1) (cs.drop k) (by simp; omega)
 rw [List.length_append, hA] at this
 rw [show [x].length = 1 from rfl] at this
 rw [this]
 have h2 : ((zs.drop k).drop 1).drop (cs.drop k).length = [] := List.eq_nil_of_length_eq_zero (by simp; omega)
 rw [h2]
 simp
theorem ins_list2 {zs cs : List Value} {k n : Nat} {x : Value} (hz : zs.length = n + 1) (hc : cs.length = n) (hk : k ≤ n) (ht : zs.take k = cs.take k) : setList (setList zs (k + 1) 0 (cs.drop k)) k 0 [x] = cs.take k ++ x :: cs.drop k := by
 have hA : (cs.take k).length = k := by rw [List.length_take]; omega
 have hB : (zs.take (k + 1)).length = k + 1 := by rw [List.length_take]; omega
 have h1 : setList zs (k + 1) 0 (cs.drop k) = zs.take (k + 1) ++ cs.drop k := by
  have := setList_app (zs.take (k + 1)) (zs.drop (k + 1)) (cs.drop k) (by simp; omega)
  rw [List.take_append_drop, hB] at this
  rw [this]
  have h2 : (zs.drop (k + 1)).drop (cs.drop k).length = [] := List.eq_nil_of_length_eq_zero (by simp; omega)
  rw [h2, List.append_nil]
 rw [h1]
 obtain ⟨b, hb⟩ : ∃ b, zs.take (k + 1) = cs.take k ++ [b] := ⟨zs[k], by rw [← ht]; exact List.take_succ_eq_append_getElem (by omega)⟩
 rw [hb]
 have := setList_mid (cs.take k) [b] (cs.drop k) [x] 0 rfl k (by omega)
 rw [this]
 simp
theorem own_new {lo e n C : Nat} {w : World} {arr : Array Value} (hs : arr.size = C) (hn : n ≤ C) (hm : C ≤ maxLen) (hlo : lo ≤ w.heap.size) : (w.alloc (.cells arr e)).ownsRow lo e 1 (.slice (some ⟨w.heap.size, 0, none⟩) n C) n (arr.toList.take n) :=
 ⟨by rw [List.length_take, Array.length_toList]; omega, .inr ⟨w.heap.size, C, arr, rfl, hlo, heap_alloc_new _ _, hn, hm, by omega, by rw [Nat.mul_one]⟩⟩
theorem setC (w : World) (g o : Nat) (us : List Value) : w.setCells g o us = setMany w g o 0 us := by rw [← setCells_many, Nat.add_zero]
set_option maxHeartbeats 1000000 in
theorem InsertString_any {lo vb k : Nat} (v : Value) (ss : List ByteArray) (x : ByteArray) (w : World) (h : OwnF lo 9 1 strCs w v ss) (hlo : lo ≤ w.heap.size) (hk : k ≤ ss.length) (hl : ss.length ≤ 1000)
 (hN : w.heap[vb]? = some (.cells #[.string x] 9 (0, 0))) (hne : ∀ g, v.ownBlock = some g → vb ≠ g) :
 Calls Tryz.prog 278 #[v, .int .i64 k, .slice (some ⟨vb, 0, none⟩) 1 1] w fun e w' => ∃ v', e = .returned v' ∧ OwnF lo 9 1 strCs w' v' (insertAt ss k x) ∧ Below lo w w' := by
 have hvs : ∀ (j : Nat) v, [Value.string x][j]? = some v → w.cell? ⟨vb, 0 + j, none⟩ = some v := by
  intro j v hj
  match j, hj with
  | 0, hj => simp at hj; subst hj; exact cell_of_row w vb 0 _ _ _ hN
 have h1v : ∀ v ∈ [Value.string x], v.oneCell' = true := by simp [Value.oneCell']
 obtain ⟨a, c, hv, hc, hcm⟩ := h.rd.shape
 by_cases hroom : ss.length + 1 ≤ c
 ·
  have hx : ∃ g, v = .slice (some ⟨g, 0, none⟩) ss.length c ∧ lo ≤ g := by
   rcases h.2 with ⟨h0, _⟩ | ⟨g, cap, cur, h0, hb, _⟩
   ·rw [hv] at h0; simp only [Value.slice.injEq] at h0; omega
   ·rw [hv] at h0; cases h0; exact ⟨g, hv, hb⟩
  obtain ⟨g, rfl, hg⟩ := hx
  have hO : w.ownsRow lo 9 1 (.slice (some ⟨g, 0, none⟩) ss.length c) ss.length (ss.map Value.string) := by have := h; unfold OwnF at this; rwa [flat_strs] at this
  obtain ⟨ys, hys, hO2⟩ := own_extend hO (show ss.length ≤ ss.length + 1 by omega) hroom
  have hyl := hO2.1
  rw [Nat.mul_one] at hys hyl
  obtain ⟨cur, hcur, _, _, hcs⟩ := own_block hO
  have hvb : vb ≠ g := hne g rfl
  have hsp : ∀ j, j < ss.length + 1 → (w.cell? ⟨g, 0 + j, none⟩).isSome = true := by
   intro j hj
   rw [own_cells hO2 j _ (List.getElem?_eq_getElem (show j < ys.length by omega))]
   rfl
  have hfz : ∀ j, w.frozen? ⟨g, 0 + j, none⟩ = false := fun j => World.ownsRow.frozenAt hO _
  by_cases hkn : k = ss.length
  ·subst hkn
   refine (Any2.slices_Insert_string_end_room Tryz.lays2n22 g 0 ss.length c vb 0 1 1 [.string x] w (by decide) hroom (by unfold maxLen at hcm; omega) rfl (fun j hj => by have := hsp (ss.length + j) (by omega); simpa [Nat.add_assoc] using this) (fun j _ => by have := hfz (ss.length + j); simpa [Nat.add_assoc] using this) hvs h1v).mono ?_
   rintro e w' ⟨rfl, rfl⟩
   obtain ⟨r1, r2⟩ := setMany_own hO2 ss.length 0 [.string x]
   rw [show w.setCells g (0 + ss.length) [.string x] = setMany w g ss.length 0 [.string x] by rw [Nat.zero_add, ← setCells_many, Nat.add_zero]]
   refine ⟨_, rfl, ?_, below_grown (Below.refl _ _) r2 hg hlo⟩
   have e1 : setList ys ss.length 0 [.string x] = (insertAt ss ss.length x).map Value.string := by
    have e2 : ys = ss.map Value.string ++ ys.drop ss.length := by rw [← hys, List.take_append_drop]
    have := setList_app (ss.map Value.string) (ys.drop ss.length) [.string x] (by simp; omega)
    rw [← e2, List.length_map] at this
    rw [this]
    have : (ys.drop ss.length).drop 1 = [] := List.eq_nil_of_length_eq_zero (by simp; omega)
    simp [insertAt, this]
   unfold OwnF
   rw [insertAt_len (Nat.le_refl _), flat_strs, ← e1]
   exact r1
  ·have hkl : k < ss.length := by omega
   refine (Any2.slices_Insert_string_shift Tryz.lays2n22 g 0 ss.length c k vb 0 1 1 (ss.map Value.string) [.string x] w hkl (by decide) hroom (by unfold maxLen at hcm; omega) hvb (by simp) rfl (own_cells hO) hsp (fun j _ => hfz j) hvs (ones_strs ss) h1v
    9 9 1 c (by simp [World.shape?, hN]) (by simp [World.shape?, hcur, hcs]) (by omega) (blk_frozen hN 0) (blk_frozen hN 1)).mono ?_
   rintro e w' ⟨rfl, rfl⟩
   have hbd : Below w.heap.size w w.drew := below_drewN (Below.refl _ _) 1
   have hO3 := ownsRow_below hO2 hbd
   obtain ⟨r1, r2⟩ := setMany_own hO3 (k + 1) 0 ((ss.map Value.string).drop k)
   obtain ⟨r3, r4⟩ := setMany_own r1 k 0 [.string x]
   rw [setC, setC, Nat.zero_add, Nat.zero_add]
   refine ⟨_, rfl, ?_, below_grown (below_grown (hbd.mono hlo) r2 hg (Nat.le_trans hlo hbd.size)) r4 hg (Nat.le_trans (Nat.le_trans hlo hbd.size) r2.size)⟩
   rw [ins_list2 (n := ss.length) hyl (by simp) hk (by rw [← hys, List.take_take, Nat.min_eq_left hk])] at r3
   unfold OwnF
   rw [insertAt_len hk, flat_strs]
   simpa [insertAt, List.map_take, List.map_drop] using r3
 ·have hcl : ∀ a', a = some a' → ∀ (j : Nat) v, (ss.map Value.string)[j]? = some v → w.cell? (a'.add j) = some v := by
   rintro a' rfl j v hj
   rcases h.2 with ⟨h0, _⟩ | ⟨g, cap, cur, h0, hb, _⟩
   ·rw [hv] at h0; cases h0
   ·rw [hv] at h0
    cases h0
    have hO := h
    unfold OwnF at hO
    rw [hv, flat_strs] at hO
    have := own_cells hO j v hj
    rw [Nat.zero_add] at this
    rw [← this]
    unfold Addr.add
    split <;> simp_all
  have hC1 := grownCap_ge w (ss.length + 1) c 9
  have hC2 := grownCap_le_maxLen w (ss.length + 1) c 9 (by unfold maxLen; omega)
  rw [hv]
  by_cases hkn : k = ss.length
  ·subst hkn
   refine (Any2.slices_Insert_string_end_grow Tryz.lays2n22 a ss.length c vb 0 1 1 (ss.map Value.string) [.string x] w (by decide) hc (by omega) (by omega) (by simp) rfl (by
    rintro rfl
    obtain ⟨a', c', hv', _, _, _, hnil, _⟩ := h.rd
    rw [hv] at hv'
    cases hv'
    have := hnil rfl
    omega) hcl hvs h1v).mono ?_
   rintro e w' ⟨rfl, rfl⟩
   refine ⟨_, rfl, ?_, ((below_drewN (Below.refl _ _) 1 : Below lo w (w.drewN 1))).alloc hlo _⟩
   have := own_new (lo := lo) (e := 9) (n := ss.length + 1) (C := grownCap w (ss.length + 1) c 9) (w := w.drew) (arr := (ss.map Value.string ++ [Value.string x]).toArray ++ Builtin.zeroCells (Value.string ⟨#[]⟩).cells (grownCap w (ss.length + 1) c 9 - (ss.length + 1))) (by simp [Builtin.zeroCells, Value.cells]; omega) hC1 hC2 hlo
   have e1 : ((ss.map Value.string ++ [Value.string x]).toArray ++ Builtin.zeroCells (Value.string ⟨#[]⟩).cells (grownCap w (ss.length + 1) c 9 - (ss.length + 1))).toList.take (ss.length + 1) = (insertAt ss ss.length x).map Value.string := by
    rw [Array.toList_append, List.take_left' (by simp)]
    simp [insertAt]
   rw [e1] at this
   unfold OwnF
   rw [insertAt_len (Nat.le_refl _), flat_strs]
   exact this
  ·have hkl : k < ss.length := by omega
   obtain ⟨g, rfl, hcg⟩ : ∃ g, a = some ⟨g, 0, none⟩ ∧ True := by
    rcases h.2 with ⟨h0, _⟩ | ⟨g, cap, cur, h0, hb, _⟩
    ·rw [hv] at h0; simp only [Value.slice.injEq] at h0; omega
    ·rw [hv] at h0; cases h0; exact ⟨g, rfl, trivial⟩
   have hO : w.ownsRow lo 9 1 (.slice (some ⟨g, 0, none⟩) ss.length c) ss.length (ss.map Value.string) := by have := h; unfold OwnF at this; rw [hv, flat_strs] at this; exact this
   have hcon := Any2.slices_Insert_string_grow Tryz.lays2n22 g 0 ss.length c k vb 0 1 1 (ss.map Value.string) [.string x] w hkl (by decide) hc (by omega) (by omega) (by simp) rfl (own_cells hO) hvs (ones_strs ss) h1v
   change Calls Tryz.prog 278 _ _ (fun e w' => e = .returned (.slice (some ⟨w.heap.size, 0, none⟩) (ss.length + 1) (grownCap w (ss.length + 1) c 9)) ∧ w' = (((w.alloc (.cells (((ss.map Value.string).take k).toArray ++ Builtin.zeroCells (Value.string ⟨#[]⟩).cells (ss.length + 1 - k) ++ Builtin.zeroCells (Value.string ⟨#[]⟩).cells (grownCap w (ss.length + 1) c 9 - (ss.length + 1))) 9)).drew.setCells w.heap.size k [Value.string x]).drew).setCells w.heap.size (k + 1) ((ss.map Value.string).drop k)) at hcon
   refine hcon.mono ?_
   rintro e w' ⟨rfl, rfl⟩
   have hN0 := own_new (lo := lo) (e := 9) (n := ss.length + 1) (C := grownCap w (ss.length + 1) c 9) (w := w) (arr := ((ss.map Value.string).take k).toArray ++ Builtin.zeroCells (Value.string ⟨#[]⟩).cells (ss.length + 1 - k) ++ Builtin.zeroCells (Value.string ⟨#[]⟩).cells (grownCap w (ss.length + 1) c 9 - (ss.length + 1))) (by simp [Builtin.zeroCells, Value.cells]; omega) hC1 hC2 hlo
   have hB0 : Below lo w (w.alloc (.cells (((ss.map Value.string).take k).toArray ++ Builtin.zeroCells (Value.string ⟨#[]⟩).cells (ss.length + 1 - k) ++ Builtin.zeroCells (Value.string ⟨#[]⟩).cells (grownCap w (ss.length + 1) c 9 - (ss.length + 1))) 9)) := (Below.refl lo w).alloc hlo _
   have hT : (((ss.map Value.string).take k).toArray ++ Builtin.zeroCells (Value.string ⟨#[]⟩).cells (ss.length + 1 - k) ++ Builtin.zeroCells (Value.string ⟨#[]⟩).cells (grownCap w (ss.length + 1) c 9 - (ss.length + 1))).toList.take k = (ss.map Value.string).take k := by
    rw [Array.toList_append, Array.toList_append, List.append_assoc, List.take_left' (by simp; omega)]
   generalize (((ss.map Value.string).take k).toArray ++ Builtin.zeroCells (Value.string ⟨#[]⟩).cells (ss.length + 1 - k) ++ Builtin.zeroCells (Value.string ⟨#[]⟩).cells (grownCap w (ss.length + 1) c 9 - (ss.length + 1))) = arr at hN0 hB0 hT ⊢
   generalize hwa : w.alloc (.cells arr 9) = wa at hN0 hB0 ⊢
   have hd1 : Below wa.heap.size wa wa.drew := below_drewN (Below.refl _ _) 1
   obtain ⟨r1, r2⟩ := setMany_own (ownsRow_below hN0 hd1) k 0 [.string x]
   have hd2 : Below (setMany wa.drew w.heap.size k 0 [.string x]).heap.size (setMany wa.drew w.heap.size k 0 [.string x]) (setMany wa.drew w.heap.size k 0 [.string x]).drew := below_drewN (Below.refl _ _) 1
   obtain ⟨r3, r4⟩ := setMany_own (ownsRow_below r1 hd2) (k + 1) 0 ((ss.map Value.string).drop k)
   rw [setC, setC]
   have s0 : lo ≤ wa.heap.size := Nat.le_trans hlo hB0.size
   have b1 := below_grown (hB0.trans (hd1.mono s0)) r2 hlo (Nat.le_trans s0 hd1.size)
   have s1 : lo ≤ (setMany wa.drew w.heap.size k 0 [.string x]).heap.size := Nat.le_trans hlo b1.size
   refine ⟨_, rfl, ?_, below_grown (b1.trans (hd2.mono s1)) r4 hlo (Nat.le_trans s1 hd2.size)⟩
   have hzl := hN0.1
   rw [ins_list1 (n := ss.length) (by simpa using hzl) (by simp) hk (by rw [List.take_take, Nat.min_eq_left (by omega)]; exact hT)] at r3
   unfold OwnF
   rw [insertAt_len hk, flat_strs]
   simpa [insertAt, List.map_take, List.map_drop] using r3
def atX (ss : List ByteArray) (x : ByteArray) (t : Nat) : ByteArray := if t < ss.length then nthS ss t else x
theorem get_nthS {ss : List ByteArray} {k : Nat} (h : k < ss.length) : ss[k] = nthS ss k := by simp [nthS, h]
def placeOf (ss : List ByteArray) (x : ByteArray) : Nat := (ss.takeWhile fun y => !geB y x).length
theorem placeOf_le {ss : List ByteArray} {x : ByteArray} : placeOf ss x ≤ ss.length := (List.takeWhile_prefix _).length_le
theorem ltB_irrefl (x : ByteArray) : ltB x x = false := by
 cases h : ltB x x
 ·rfl
 ·have := ltB_iff.1 h
  exact absurd this (List.lt_irrefl _)
theorem place_before {ss : List ByteArray} {x : ByteArray} {t : Nat} (h : t < placeOf ss x) : ltB (nthS ss t) x = true := by
 have hm : nthS ss t ∈ ss.takeWhile fun y => !geB y x := by
  have h1 : (ss.takeWhile fun y => !geB y x)[t]? = ss[t]? := by
   rw [← List.takeWhile_append_dropWhile (p := fun y => !geB y x) (l := ss)]
   rw [List.takeWhile_append_dropWhile]
   conv => rhs; rw [← List.takeWhile_append_dropWhile (p := fun y => !geB y x) (l := ss)]
   rw [List.getElem?_append_left h]
  have hl : t < ss.length := Nat.lt_of_lt_of_le h placeOf_le
  rw [nthS_lt hl] at h1
  exact List.mem_of_getElem? h1
 simpa [geB_eq] using mem_takeWhile' hm
theorem place_behind {ss : List ByteArray} {x : ByteArray} (hs : ss.Pairwise (fun a b => ltB a b = true)) {t : Nat} (h : placeOf ss x ≤ t) (ht : t < ss.length) : ltB (nthS ss t) x = false := by
 have hp : ltB (nthS ss (placeOf ss x)) x = false := by
  have hlt : placeOf ss x < ss.length := by omega
  have h1 : (ss.dropWhile fun y => !geB y x).head? = some (nthS ss (placeOf ss x)) := by
   have e := List.takeWhile_append_dropWhile (p := fun y => !geB y x) (l := ss)
   have h2 : (List.takeWhile (fun y => !geB y x) ss ++ List.dropWhile (fun y => !geB y x) ss)[(List.takeWhile (fun y => !geB y x) ss).length]? = some (nthS ss (placeOf ss x)) := by rw [e]; exact nthS_lt hlt
   rw [List.getElem?_append_right (Nat.le_refl _)] at h2
   simp only [Nat.sub_self] at h2
   rw [List.head?_eq_getElem?]
   exact h2
  have h3 := List.head?_dropWhile_not (fun y => !geB y x) ss
  rw [h1] at h3
  simpa [geB_eq] using h3
 by_cases e : t = placeOf ss x
 ·rw [e]; exact hp
 ·cases hx : ltB (nthS ss t) x
  ·rfl
  ·exfalso
   rw [List.pairwise_iff_getElem] at hs
   have h4 := hs (placeOf ss x) t (by omega) ht (by omega)
   have e1 : ss[placeOf ss x]'(by omega) = nthS ss (placeOf ss x) := get_nthS _
   have e2 : ss[t] = nthS ss t := by simp [nthS, ht]
   rw [e1, e2] at h4
   rw [ltB_trans h4 hx] at hp
   cases hp
theorem search_place {ss : List ByteArray} {x : ByteArray} (hs : ss.Pairwise (fun a b => ltB a b = true)) : Lib.bsGo (fun t => Op.bytesLess (atX ss x t).toList x.toList) ss.length 0 ss.length = placeOf ss x := by
 refine Lib.bsGo_spec _ (placeOf ss x) (fun t ht => ?_) (fun t ht => ?_) _ _ _ (by omega) (by omega) placeOf_le
 ·have hl : t < ss.length := Nat.lt_of_lt_of_le ht placeOf_le
  simp only [atX, hl, if_true]
  exact place_before ht
 ·by_cases hl : t < ss.length
  ·simp only [atX, hl, if_true]
   exact place_behind hs ht hl
  ·simp only [atX, hl, if_false]
   exact ltB_irrefl x
theorem search_has {ss : List ByteArray} {x : ByteArray} (hs : ss.Pairwise (fun a b => ltB a b = true)) : (decide (placeOf ss x < ss.length ∧ atX ss x (placeOf ss x) = x)) = ss.any (fun y => decide (y = x)) := by
 rw [Bool.eq_iff_iff, decide_eq_true_eq, any_mem]
 constructor
 ·rintro ⟨h1, h2⟩
  simp only [atX, h1, if_true] at h2
  exact ⟨_, List.mem_of_getElem? (nthS_lt h1), by simp [h2]⟩
 ·rintro ⟨y, hy, he⟩
  obtain rfl : y = x := by simpa using he
  obtain ⟨j, hj, rfl⟩ := mem_getD (d := ⟨#[]⟩) hy
  have e : placeOf ss (ss.getD j ⟨#[]⟩) = j := by
   rcases Nat.lt_trichotomy (placeOf ss (ss.getD j ⟨#[]⟩)) j with h | h | h
   ·exfalso
    have h1 := place_behind hs (Nat.le_refl _) (x := ss.getD j ⟨#[]⟩) (by omega)
    rw [List.pairwise_iff_getElem] at hs
    have h4 := hs _ j (by omega) hj h
    have e1 : ss[placeOf ss (ss.getD j ⟨#[]⟩)]'(by omega) = nthS ss (placeOf ss (ss.getD j ⟨#[]⟩)) := get_nthS _
    have e2 : ss[j] = ss.getD j ⟨#[]⟩ := by simp [hj]
    rw [e1, e2, h1] at h4
    cases h4
   ·exact h
   ·exfalso
    have := place_before h
    rw [show nthS ss j = ss.getD j ⟨#[]⟩ from rfl, ltB_irrefl] at this
    cases this
  rw [e]
  exact ⟨hj, by simp [atX, hj, nthS]⟩
theorem insert_addS {ss : List ByteArray} {x : ByteArray} : insertAt ss (placeOf ss x) x = addS ss x := by
 have key : ∀ A B : List ByteArray, A ++ B = ss → ss.take A.length = A ∧ ss.drop A.length = B := by rintro A B rfl; simp
 obtain ⟨k1, k2⟩ := key _ _ (List.takeWhile_append_dropWhile (p := fun y => !geB y x) (l := ss))
 unfold insertAt addS placeOf
 rw [k1, k2]
theorem BinarySearch_any (v : Value) (ss : List ByteArray) (x : ByteArray) (w : World) (h : RdStrs w v ss) (hs : rightsOk ss = true) :
 Calls Tryz.prog 277 #[v, .string x] w fun e w' => e = .returned (.tuple #[.int .i64 ((placeOf ss x : Nat) : Int), .bool (ss.any fun y => decide (y = x))]) ∧ Below w.heap.size w w' := by
 obtain ⟨h1, h2, h3⟩ := rightsOk_iff.1 hs
 obtain ⟨a, c, rfl, hc, hcm, H0⟩ := RdF.open strCs_len (by decide) h
 by_cases h0 : ss.length = 0
 ·obtain rfl : ss = [] := List.eq_nil_of_length_eq_zero h0
  refine (Any2.slices_BinarySearch_string_empty Tryz.lays2n26 a c x w).mono ?_
  rintro e w' ⟨rfl, rfl⟩
  exact ⟨rfl, Below.refl _ _⟩
 ·obtain ⟨b, off, rfl, _⟩ := H0.str (show 0 < ss.length by omega)
  have hcell : ∀ j, j < ss.length → w.cell? ⟨b, off + j, none⟩ = some (.string (atX ss x j)) := by
   intro j hj
   obtain ⟨b', off', e, D⟩ := H0.str hj
   cases e
   simp only [atX, hj, if_true]
   exact D
  have hcon := Any2.slices_BinarySearch_string Tryz.lays2n26 b off ss.length c (atX ss x) x w (by omega) hcell
  rw [search_place h2, search_has h2] at hcon
  exact quiet_below' (hcon.mono fun e w' ⟨he, hq⟩ => ⟨he, hq⟩)
def AddRes (w : World) (ss : List ByteArray) (x : ByteArray) (e : Ending) (w' : World) : Prop := ∃ v', e = .returned (.tuple #[v', .bool (rightsAddP ss x).2]) ∧ OwnF w.heap.size 9 1 strCs w' v' (rightsAddP ss x).1 ∧ Below w.heap.size w w'
set_option maxHeartbeats 2000000 in
theorem RightsAdd_any (v : Value) (ss : List ByteArray) (x : ByteArray) (w : World) (h : RdStrs w v ss) (hs : SmallS ss) (hx : x.size ≤ maxLen) (hok : rightsOk ss = true) (hr : rightOk x = true) :
 Calls Tryz.prog 230 #[v, .string x] w (AddRes w ss x) := by
 have hl := (rightsOk_iff.1 hok).2.2
 have C1 := Lib.hid (by have := RightsValid_impl v ss w h hs; rw [hok] at this; exact this)
 have CX := Lib.hid (fun W => by have := RightValid_impl x W hx; rw [hr] at this; exact this)
 have CB := Lib.hid (fun W (hW : Below w.heap.size w W) => BinarySearch_any v ss x W (RdF.below h hW) hok)
 have C2 := Lib.hid (fun W (hW : Below w.heap.size w W) => CloneString_any v ss W (RdF.below h hW) (by omega))
 obtain ⟨a, c, rfl, hc, hcm⟩ := h.shape
 have hin : ss.any (fun y => decide (y = x)) = true → rightsAddP ss x = (ss, true) := fun h => by unfold rightsAddP; rw [if_pos h]
 have hfu : ss.any (fun y => decide (y = x)) = false → ss.length = 6 → rightsAddP ss x = (ss, false) := fun h h6 => by unfold rightsAddP; rw [if_neg (by simp [h]), if_pos h6]
 have hno : ss.any (fun y => decide (y = x)) = false → ss.length ≠ 6 → rightsAddP ss x = (insertAt ss (placeOf ss x) x, true) := fun h h6 => by unfold rightsAddP; rw [if_neg (by simp [h]), if_neg h6, insert_addS]
 have HIN := Lib.hid hin
 have HFU := Lib.hid hfu
 have HNO := Lib.hid hno
 have hpl := placeOf_le (ss := ss) (x := x)
 clear h hok hs hx hr hin hfu hno
 go_enter Tryz.func230, Tryz.ntmps230
 go_wp2_with fail
 refine (C1.out).mono ?_; rintro r w1 ⟨rfl, hb1⟩
 go_wp2_with fail
 refine (CX.out _).mono ?_; rintro r w2 ⟨rfl, hb2⟩
 replace hb2 := hb1.trans (hb2.mono hb1.size); clear hb1
 go_wp2_with fail
 refine (CB.out _ hb2).mono ?_; rintro r w3 ⟨rfl, hb3⟩
 replace hb3 := hb2.trans (hb3.mono hb2.size); clear hb2
 have C3 := Lib.hid (C2.out _ hb3)
 have s3 := hb3.size
 cases hany : ss.any (fun y => decide (y = x))
 ·by_cases h6 : ss.length = 6
  ·have E := Lib.hid (HFU.out hany h6)
   have t6 : ((ss.length : Int) == 6) = true := by simp [h6]
   clear hany h6
   go_wp2_with fail
   refine (C3.out).mono ?_; rintro r w4 ⟨v4, rfl, hO, hb4⟩
   go_wp2_with fail
   go_ret2
   exact ⟨_, by rw [E.out]; rfl, by rw [E.out]; exact hO.lower s3, hb3.trans (hb4.mono s3)⟩
  ·have E := Lib.hid (HNO.out hany h6)
   have t6 : ((ss.length : Int) == 6) = false := by rw [beq_eq_false_iff_ne]; omega
   clear hany h6
   go_wp2_with fail
   refine (C3.out).mono ?_; rintro r w4 ⟨v4, rfl, hO, hb4⟩
   have hO5 := hO.below (below1 w4 (.cells #[.string x] 9))
   have CI := Lib.hid (InsertString_any v4 ss x (w4.alloc (.cells #[.string x] 9)) hO5 (Nat.le_trans hb4.size (below1 _ _).size) hpl (by omega) (heap_alloc_new _ _) (fun g hg => by have := (World.ownsRow.lt hO g hg).2; omega))
   have hb5 := hb4.trans ((below1 w4 (.cells #[.string x] 9)).mono hb4.size)
   clear hO hO5 hb4
   go_wp2_with fail
   refine (CI.out).mono ?_; rintro r w6 ⟨v6, rfl, hO6, hb6⟩
   go_wp2_with fail
   go_ret2
   exact ⟨_, by rw [E.out]; rfl, by rw [E.out]; exact hO6.lower s3, hb3.trans ((hb5.trans hb6).mono s3)⟩
 ·have E := Lib.hid (HIN.out hany)
  clear hany
  go_wp2_with fail
  refine (C3.out).mono ?_; rintro r w4 ⟨v4, rfl, hO, hb4⟩
  go_wp2_with fail
  go_ret2
  exact ⟨_, by rw [E.out]; rfl, by rw [E.out]; exact hO.lower s3, hb3.trans (hb4.mono s3)⟩
end Go.Proofs.YtjacdlekgdnndaaGreatDoor
set_option linter.unusedVariables false
namespace Go.Proofs.YtjacdlekgdnndaaGreatDoor
open Go.RowKit
theorem AtRows.word {w : World} {a : Option Addr} {m : List (List Int)} (h : AtRows w a m) (hok : memOk m = true) {f i : Nat} (hf : f < 12) (hi : i < 4) :
 ∃ b off b2 off2 c2, a = some ⟨b, off, none⟩ ∧ b < w.heap.size ∧ w.cell? ⟨b, off + f, none⟩ = some (.slice (some ⟨b2, off2, none⟩) 4 c2) ∧ b2 < w.heap.size ∧ w.cell? ⟨b2, off2 + i, none⟩ = some (.int .i64 (wdAt m f i)) := by
 obtain ⟨hl, hr⟩ := memOk_iff.1 hok
 obtain ⟨b, off, u, rfl, hlt, hc, hri⟩ := h f (by omega)
 have h4 := (rowOk_iff.1 (hr f hf)).1
 obtain ⟨a2, c2, rfl, _, _, H⟩ := hri.open
 obtain ⟨b2, off2, rfl, hlt2, hc2⟩ := H.cellAt (show i < (rowAt m f).length by omega)
 rw [h4] at hc
 exact ⟨b, off, b2, off2, c2, rfl, hlt, hc, hlt2, hc2⟩
theorem word_bounds {m : List (List Int)} (hok : memOk m = true) {f i : Nat} (hf : f < 12) (hi : i < 4) : 0 ≤ wdAt m f i ∧ wdAt m f i ≤ 9999 := by
 obtain ⟨hl, hr⟩ := memOk_iff.1 hok
 obtain ⟨h4, hw⟩ := rowOk_iff.1 (hr f hf)
 exact hw _ (getD_mem (by omega))
def placeV (f a : Nat) (b : Bool) : Value := .agg #[.int .i64 (f : Int), .int .i64 ((a % 4 : Nat) : Int), .bool b]
def noPlace : Value := .agg #[.int .i64 0, .int .i64 0, .bool false]
def walkV (m : List (List Int)) (root a : Nat) : Value := .tuple #[if (walkP m root a).1 = 0 then placeV (walkP m root a).2.1 a (walkP m root a).2.2 else noPlace, .int .i64 (walkP m root a).1]
set_option maxHeartbeats 2000000 in
theorem walk_any (v : Value) (m : List (List Int)) (root a : Nat) (w : World) (h : RdRows w v m) (hok : memOk m = true) (hr : root < 12) (ha : a < 64) :
 Calls Tryz.prog 54 #[v, .int .i64 (root : Int), .int .i64 (a : Int)] w fun e w' => e = .returned (walkV m root a) ∧ Below w.heap.size w w' := by
 obtain ⟨q, c, rfl, hc, hcm, H0⟩ := h.open
 have hl := (memOk_iff.1 hok).1
 unfold maxLen at hcm
 rw [hl] at hc ⊢
 have hA := Lib.hid (fun W => AddressCut_yes a W ha)
 obtain ⟨b, off, b2, off2, c2, rfl, hb, D, hb2, D2⟩ := H0.word hok hr (show a / 16 < 4 by omega)
 have D' := ((below1 w (.cells #[.int .i64 0, .int .i64 0, .bool false] 96)).cell (p := ⟨b, off + root, none⟩) hb).trans D
 have D2' := ((below1 w (.cells #[.int .i64 0, .int .i64 0, .bool false] 96)).cell (p := ⟨b2, off2 + a / 16, none⟩) hb2).trans D2
 have hw1 := word_bounds hok hr (show a / 16 < 4 by omega)
 have E1 := Lib.hid (fun W => EntryGet_any (wdAt m root (a / 16)) W (by omega))
 have hB := below1 w (.cells #[.int .i64 0, .int .i64 0, .bool false] 96)
 cases hg1 : entG (wdAt m root (a / 16))
 ·have S := Lib.hid (show walkV m root a = .tuple #[noPlace, .int .i64 1] by simp [walkV, walkP, hg1])
  have V1 := Lib.hid (entV_no hg1)
  clear H0 D D2 hg1 hw1 hb hb2
  go_enter Tryz.func54, Tryz.ntmps54
  go_wp2_with (first | (go_at_call 126; refine (hA.out _).mono ?_; rintro e w' ⟨rfl, rfl⟩) | (go_at_call 118; refine (E1.out _).mono ?_; rintro e w' ⟨rfl, rfl⟩; rw [V1.out]))
  exact bodyPost_ret (v := .tuple #[noPlace, .int .i64 1]) (by simp [results, Tryz.results54, go_sem, noPlace]) rfl ⟨by rw [S.out], hB⟩
 ·have ht : entF (wdAt m root (a / 16)) < 12 := entF_lt hg1
  have V1 := Lib.hid (entV_yes hg1)
  obtain ⟨b', off', b3, off3, c3, e, hb', D3, hb3, D4⟩ := H0.word hok ht (show a / 4 % 4 < 4 by omega)
  cases e
  have D3' := ((below1 w (.cells #[.int .i64 0, .int .i64 0, .bool false] 96)).cell (p := ⟨b, off + entF (wdAt m root (a / 16)), none⟩) hb).trans D3
  have D4' := ((below1 w (.cells #[.int .i64 0, .int .i64 0, .bool false] 96)).cell (p := ⟨b3, off3 + a / 4 % 4, none⟩) hb3).trans D4
  have hw2 := word_bounds hok ht (show a / 4 % 4 < 4 by omega)
  have E2 := Lib.hid (fun W => EntryGet_any (wdAt m (entF (wdAt m root (a / 16))) (a / 4 % 4)) W (by omega))
  cases hg2 : entG (wdAt m (entF (wdAt m root (a / 16))) (a / 4 % 4))
  ·have S := Lib.hid (show walkV m root a = .tuple #[noPlace, .int .i64 2] by simp [walkV, walkP, hg1, hg2])
   have V2 := Lib.hid (entV_no hg2)
   clear H0 D D2 D3 D4 hg1 hg2 hw1 hw2 hb hb2 hb3 hb'
   go_enter Tryz.func54, Tryz.ntmps54
   go_wp2_with fail
   refine (hA.out _).mono ?_; rintro e w' ⟨rfl, rfl⟩
   go_wp2_with fail
   refine (E1.out _).mono ?_; rintro e w' ⟨rfl, rfl⟩; rw [V1.out]
   go_wp2_with fail
   refine (E2.out _).mono ?_; rintro e w' ⟨rfl, rfl⟩; rw [V2.out]
   go_wp2_with fail
   exact bodyPost_ret (v := .tuple #[noPlace, .int .i64 2]) (by simp [results, Tryz.results54, go_sem, noPlace]) rfl ⟨by rw [S.out], hB⟩
  ·have S := Lib.hid (show walkV m root a = .tuple #[.agg #[.int .i64 ((entF (wdAt m (entF (wdAt m root (a / 16))) (a / 4 % 4)) : Nat) : Int), .int .i64 ((a % 4 : Nat) : Int), .bool (entW (wdAt m root (a / 16)) && entW (wdAt m (entF (wdAt m root (a / 16))) (a / 4 % 4)))], .int .i64 0] by simp [walkV, walkP, hg1, hg2, placeV])
   have V2 := Lib.hid (entV_yes hg2)
   cases hx : entW (wdAt m root (a / 16))
   all_goals
    rw [hx] at V1 S
    clear H0 D D2 D3 D4 hg1 hg2 hw1 hw2 hb hb2 hb3 hb' hx
    go_enter Tryz.func54, Tryz.ntmps54
    go_wp2_with fail
    refine (hA.out _).mono ?_; rintro e w' ⟨rfl, rfl⟩
    go_wp2_with fail
    refine (E1.out _).mono ?_; rintro e w' ⟨rfl, rfl⟩; rw [V1.out]
    go_wp2_with fail
    refine (E2.out _).mono ?_; rintro e w' ⟨rfl, rfl⟩; rw [V2.out]
    go_wp2_with fail
   ·exact bodyPost_ret (v := .tuple #[.agg #[.int .i64 ((entF (wdAt m (entF (wdAt m root (a / 16))) (a / 4 % 4)) : Nat) : Int), .int .i64 ((a % 4 : Nat) : Int), .bool false], .int .i64 0]) (by simp [results, Tryz.results54, go_sem]) rfl ⟨by rw [S.out, Bool.false_and], (Below.refl _ _).alloc (Nat.le_refl _) _⟩
   ·exact bodyPost_ret (v := .tuple #[.agg #[.int .i64 ((entF (wdAt m (entF (wdAt m root (a / 16))) (a / 4 % 4)) : Nat) : Int), .int .i64 ((a % 4 : Nat) : Int), .bool (entW (wdAt m (entF (wdAt m root (a / 16))) (a / 4 % 4)))], .int .i64 0]) (by simp [results, Tryz.results54, go_sem]) rfl ⟨by rw [S.out, Bool.true_and], (Below.refl _ _).alloc (Nat.le_refl _) _⟩
theorem AtRows.row4 {w : World} {a : Option Addr} {m : List (List Int)} (h : AtRows w a m) (hok : memOk m = true) {f : Nat} (hf : f < 12) :
 ∃ b off b2 off2 c2, a = some ⟨b, off, none⟩ ∧ b < w.heap.size ∧ w.cell? ⟨b, off + f, none⟩ = some (.slice (some ⟨b2, off2, none⟩) 4 c2) ∧ b2 < w.heap.size ∧ 4 ≤ c2 ∧ ∀ i, i < 4 → w.cell? ⟨b2, off2 + i, none⟩ = some (.int .i64 (wdAt m f i)) := by
 obtain ⟨hl, hr⟩ := memOk_iff.1 hok
 obtain ⟨b, off, u, rfl, hlt, hc, hri⟩ := h f (by omega)
 have h4 := (rowOk_iff.1 (hr f hf)).1
 obtain ⟨a2, c2, rfl, hc2, _, H⟩ := hri.open
 obtain ⟨b2, off2, rfl, hlt2, _⟩ := H.cellAt (show 0 < (rowAt m f).length by omega)
 rw [h4] at hc hc2
 refine ⟨b, off, b2, off2, c2, rfl, hlt, hc, hlt2, hc2, fun i hi => ?_⟩
 obtain ⟨b', off', e, _, hcell⟩ := H.cellAt (show i < (rowAt m f).length by omega)
 cases e
 exact hcell
def accN (m : List (List Int)) (ns : List Nat) : List Nat := ns.flatMap fun n => named (rowAt m n)
theorem accN_succ {m : List (List Int)} {ns : List Nat} {k : Nat} (h : k < ns.length) : accN m (ns.take (k + 1)) = accN m (ns.take k) ++ named (rowAt m (ns.getD k 0)) := by
 rw [take_one (getD_lt (d := 0) h)]
 simp [accN]
theorem named_take {r : List Int} {j : Nat} (h : j < r.length) : named (r.take (j + 1)) = named (r.take j) ++ (if entG (r.getD j 0) then [entF (r.getD j 0)] else []) := by
 rw [take_one (getD_lt (d := 0) h)]
 unfold named
 rw [List.filter_append, List.map_append]
 congr 1
 rw [List.filter_cons, List.filter_nil]
 split <;> simp_all
theorem accN_len {m : List (List Int)} (hok : memOk m = true) {ns : List Nat} (hn : ∀ n ∈ ns, n < 12) : (accN m ns).length ≤ 4 * ns.length := by
 induction ns with
 | nil => simp [accN]
 | cons n ns ih =>
  have h1 := ih (fun x hx => hn x (List.mem_cons_of_mem _ hx))
  have h2 := named_len (r := rowAt m n)
  have h3 := (rowOk_iff.1 ((memOk_iff.1 hok).2 n (hn n (List.mem_cons_self ..)))).1
  simp only [accN, List.flatMap_cons, List.length_append, List.length_cons] at h1 ⊢
  omega
theorem accN_mem {m : List (List Int)} {ns : List Nat} {g : Nat} : g ∈ accN m ns ↔ ∃ n ∈ ns, g ∈ named (rowAt m n) := by simp [accN]
theorem getD_mem' {ns : List Nat} {k : Nat} (h : k < ns.length) : ns.getD k 0 ∈ ns := getD_mem h
theorem below_own {lo e sz n : Nat} {w w' : World} {v : Value} {xs : List Value} (h : w'.ownsRow lo e sz v n xs) (hg : w.grownBy w' v.ownBlock) (hlo : lo ≤ w.heap.size) : Below lo w w' := (Below.refl lo w).grown hg hlo (fun k hk => (World.ownsRow.lt h k hk).1)
theorem below_ownb {lo e sz n : Nat} {w w' : World} {v u : Value} {xs : List Value} (h : w'.ownsRow lo e sz v n xs) (hv : v.ownBlock = u.ownBlock) (hg : w.grownBy w' u.ownBlock) (hlo : lo ≤ w.heap.size) : Below lo w w' := below_own h (hv ▸ hg) hlo
def NamedRes (m : List (List Int)) (ns : List Nat) (w : World) (e : Ending) (w' : World) : Prop := ∃ v' ts, e = .returned v' ∧ OwnInts w.heap.size w' v' (ints ts) ∧ (∀ g, g ∈ ts ↔ g ∈ accN m ns) ∧ ts.length ≤ (accN m ns).length ∧ Below w.heap.size w w'
set_option maxRecDepth 100000 in
set_option maxHeartbeats 4000000 in
theorem named_any (v v2 : Value) (m : List (List Int)) (ns : List Nat) (w : World) (h : RdRows w v m) (hok : memOk m = true) (h2 : RdInts w v2 (ints ns)) (hn : ∀ n ∈ ns, n < 12) (hl : ns.length ≤ 1000) :
 Calls Tryz.prog 121 #[v, v2] w (NamedRes m ns w) := by
 obtain ⟨q, c, rfl, hc, hcm, H0⟩ := h.open
 obtain ⟨q2, c2, rfl, hc2, hcm2, H2⟩ := h2.open
 have hml := (memOk_iff.1 hok).1
 have hal := accN_len hok hn
 unfold maxLen at hcm hcm2
 rw [hml] at hc ⊢
 rw [ints_len] at hc2 ⊢
 have Hn := Lib.hid hn
 have Hok := Lib.hid hok
 have HR := Lib.hid H0
 have HI := Lib.hid H2
 clear h h2 hn hok H0 H2 hml
 go_enter Tryz.func121, Tryz.ntmps121
 go_wp2_with fail
 go_loopw [5, 15] (fun o i wr => ∃ k : Nat, k ≤ ns.length ∧ i = .int .i64 k ∧ OwnInts w.heap.size wr o (ints (accN m (ns.take k))) ∧ Below w.heap.size w wr) (fun _ i _ => ns.length - (intOf i).toNat)
 case atStart => exact ⟨0, Nat.zero_le _, rfl, World.ownsRow_nil _ _ _ _, Below.refl _ _⟩
 case round =>
  obtain ⟨k, hk, rfl, hO, hbel⟩ := hrel
  by_cases hlt : k < ns.length
  ·obtain ⟨b, off, rfl, hb, D0⟩ := HI.out.cellAt (show k < (ints ns).length by rw [ints_len]; exact hlt)
   rw [nth_ints hlt] at D0
   have D := (hbel.cell (p := ⟨b, off + k, none⟩) hb).trans D0
   have hn12 := Hn.out _ (getD_mem' hlt)
   obtain ⟨bm, offm, br, offr, cr, rfl, hbm, M0, hbr, hcr, W0⟩ := HR.out.row4 Hok.out hn12
   have M := (hbel.cell (p := ⟨bm, offm + ns.getD k 0, none⟩) hbm).trans M0
   have HW := Lib.hid W0
   have hrl := Lib.hid (rowOk_iff.1 ((memOk_iff.1 Hok.out).2 _ hn12)).1
   have AS := Lib.hid (accN_succ (m := m) hlt)
   generalize hnk : ns.getD k 0 = nk at *
   have Hnk := Lib.hid hnk
   have hk4 : (accN m (ns.take k)).length ≤ 4 * k := by
    have := accN_len Hok.out (ns := ns.take k) (fun n hn => Hn.out n (List.mem_of_mem_take hn))
    rw [List.length_take] at this
    omega
   clear D0 M0 W0 hnk
   have HO := Lib.hid hO
   have HB := Lib.hid hbel
   clear hO
   go_wp2_with fail
   clear D M hbel
   obtain ⟨wo, rfl⟩ : ∃ wo : World, wo = wr := ⟨_, rfl⟩
   go_loopw [5, 24] (fun o i wi => ∃ j : Nat, j ≤ 4 ∧ i = .int .i64 j ∧ OwnInts w.heap.size wi o (ints (accN m (ns.take k) ++ named ((rowAt m nk).take j))) ∧ Below w.heap.size w wi) (fun _ i _ => 4 - (intOf i).toNat)
   case atStart => exact ⟨0, by omega, rfl, by simpa [named] using HO.out, HB.out⟩
   case round =>
    obtain ⟨j, hj, rfl, hOi, hbi⟩ := hrel
    by_cases hjl : j < 4
    ·have W := (hbi.cell (p := ⟨br, offr + j, none⟩) hbr).trans (HW.out j hjl)
     have NT := Lib.hid (named_take (r := rowAt m nk) (j := j) (by rw [hrl.out]; exact hjl))
     have wb := word_bounds Hok.out hn12 hjl
     have CE := Lib.hid (fun W => EntryGet_any (wdAt m nk j) W (by omega))
     have HOi := Lib.hid hOi
     have hlen : (accN m (ns.take k) ++ named ((rowAt m nk).take j)).length ≤ 4 * k + 4 := by
      have := named_len (r := (rowAt m nk).take j)
      rw [List.length_take] at this
      rw [List.length_append]
      omega
     have hsz := hbi.size
     clear hOi
     cases hg : entG (wdAt m nk j)
     ·have V := Lib.hid (entV_no hg)
      have E := Lib.hid (show accN m (ns.take k) ++ named ((rowAt m nk).take (j + 1)) = accN m (ns.take k) ++ named ((rowAt m nk).take j) by rw [NT.out, show (rowAt m nk).getD j 0 = wdAt m nk j from rfl, hg]; simp)
      clear hg
      go_wp2_with (go_at_call 118; refine (CE.out _).mono ?_; rintro e w' ⟨rfl, rfl⟩; rw [V.out])
      go_roundw
      case rel => exact ⟨j + 1, by omega, by go_num, by rw [E.out]; exact HOi.out, hbi⟩
      case measure => simp [intOf]; omega
     ·have V := Lib.hid (entV_yes hg)
      have E := Lib.hid (show accN m (ns.take k) ++ named ((rowAt m nk).take (j + 1)) = (accN m (ns.take k) ++ named ((rowAt m nk).take j)) ++ [entF (wdAt m nk j)] by rw [NT.out, show (rowAt m nk).getD j 0 = wdAt m nk j from rfl, hg]; simp)
      clear hg
      generalize accN m (ns.take k) ++ named ((rowAt m nk).take j) = acc at *
      have HO2 := Lib.hid (fun ob => (by have := ownsRow_below HOi.out (below1 wr ob); rwa [ints_len] at this : (wr.alloc ob).ownsRow w.heap.size 3 1 u5 acc.length ((ints acc).map (Value.int .i64))))
      go_wp2_with (first | (go_at_call 118; refine (CE.out _).mono ?_; rintro e w' ⟨rfl, rfl⟩; rw [V.out]) | (at_builtin; go_must (refine wp_append (lo := w.heap.size) (v := u5) (n := acc.length) (xs := (ints acc).map (Value.int .i64)) (m := 1) (news := [.int .i64 ((entF (wdAt m nk j) : Nat) : Int)]) rfl rfl 3 (.int .i64 0) 1 8 Tryz.underlying38 Tryz.infoInt rfl (by decide) rfl (HO2.out _) rfl (Rd.newsAt _ #[_] _ 1 1 _ rfl (by simp) (by simp [maxLen])) (by simp [Value.oneCell']) (by unfold maxLen; omega) (by omega) (by simp; omega) ?_; intro o' w3 k1 k2 k3)))
      have R : OwnInts w.heap.size w3 o' (ints (acc ++ [entF (wdAt m nk j)])) := by
       unfold OwnInts
       rw [ints_len, List.length_append]
       simpa [ints] using k1
      rw [← E.out] at R
      have RR := Lib.hid R
      clear k1 k2 R
      go_roundw
      case rel => exact ⟨j + 1, by omega, by go_num, RR.out, (hbi.trans ((below1 _ _).mono hbi.size)).trans k3⟩
      case measure => simp [intOf]; omega
    ·obtain rfl : j = 4 := by omega
     have E : accN m (ns.take k) ++ named ((rowAt m nk).take 4) = accN m (ns.take (k + 1)) := by rw [AS.out, List.take_of_length_le (l := rowAt m nk) (i := 4) (Nat.le_of_eq hrl.out)]
     rw [E] at hOi
     clear E
     go_wp2_with fail
     go_roundw
     case rel => exact ⟨k + 1, by omega, by go_num, hOi, hbi⟩
     case measure => simp [intOf]; omega
  ·obtain rfl : k = ns.length := by omega
   rw [List.take_length] at hO
   have CS := Lib.hid (SortInts_any u5 (accN m ns) wr hO (by omega))
   clear hO
   go_wp2_with fail
   refine (CS.out).mono ?_; rintro e w1 ⟨rfl, ts, t1, t2, hO1, hg1⟩
   have hb1 := hbel.trans (below_own hO1 hg1 hbel.size)
   have hs1 := hb1.size
   have CC := Lib.hid (CompactInts_any u5 ts w1 hO1 (by omega))
   clear hO1 hg1 hbel
   go_wp2_with fail
   refine (CC.out).mono ?_; rintro e w2 ⟨v', rfl, hvb, ts2, s1, s2, hO2, hg2⟩
   go_wp2_with fail
   go_ret
   exact ⟨_, ts2, rfl, hO2, fun g => (s2 g).trans (t2 g), by omega, hb1.trans (below_ownb hO2 hvb hg2 hs1)⟩
def ReachedRes (m : List (List Int)) (root : Int) (w : World) (e : Ending) (w' : World) : Prop := ∃ v' ts, e = .returned v' ∧ OwnInts w.heap.size w' v' (ints ts) ∧ (∀ g, g ∈ ts ↔ g ∈ reachL m root) ∧ ts.length ≤ 100 ∧ Below w.heap.size w w'
theorem reach_acc {m : List (List Int)} {n g : Nat} : g ∈ reachL m (n : Int) ↔ g = n ∨ g ∈ accN m [n] ∨ g ∈ accN m (accN m [n]) := by
 rw [reach_mem]
 simp only [Int.toNat_natCast, accN_mem, List.mem_singleton, exists_eq_left]
 constructor
 ·rintro ⟨_, h⟩; exact h
 ·intro h; exact ⟨by omega, h⟩
theorem accN_congr {m : List (List Int)} {a b : List Nat} (h : ∀ g, g ∈ a ↔ g ∈ b) (g : Nat) : g ∈ accN m a ↔ g ∈ accN m b := by
 rw [accN_mem, accN_mem]
 exact exists_congr fun n => and_congr_left fun _ => h n
theorem own_lit1 (w : World) (x : Int) : OwnInts w.heap.size (w.alloc (.cells #[.int .i64 x] 3)) (.slice (some ⟨w.heap.size, 0, none⟩) 1 1) [x] := World.ownsRow_lit (base := w.heap.size) w #[.int .i64 x] 1 (Nat.le_refl _) (by simp [maxLen]) (by simp)
theorem ints_one (n : Nat) : ints [n] = [(n : Int)] := rfl
theorem ints_app (a b : List Nat) : ints (a ++ b) = ints a ++ ints b := by simp [ints]
theorem app_ints {lo : Nat} {w : World} {v : Value} {a b : List Nat} (h : w.ownsRow lo 3 1 v (a.length + b.length) ((ints a).map (Value.int .i64) ++ (ints b).map (Value.int .i64))) : OwnInts lo w v (ints (a ++ b)) := by
 unfold OwnInts
 rw [ints_len, List.length_append, ints_app, List.map_append]
 exact h
set_option maxRecDepth 100000 in
set_option maxHeartbeats 4000000 in
theorem reached_any (v : Value) (m : List (List Int)) (n : Nat) (w : World) (h : RdRows w v m) (hok : memOk m = true) (hn : n < 12) :
 Calls Tryz.prog 51 #[v, .int .i64 (n : Int)] w (ReachedRes m (n : Int) w) := by
 have hlen1 := accN_len hok (ns := [n]) (by simpa using hn)
 have C1 := Lib.hid (fun W v2 ns (hW : Below w.heap.size w W) (h2 : RdInts W v2 (ints ns)) (hns : ∀ n ∈ ns, n < 12) (hl : ns.length ≤ 1000) => named_any v v2 m ns W (by obtain ⟨vs, a, b⟩ := h; exact RdRows.below ⟨vs, a, b⟩ hW) hok h2 hns hl)
 have hlt12 : ∀ ns : List Nat, ∀ g ∈ accN m ns, g < 12 := by
  intro ns g hg
  obtain ⟨_, _, hg⟩ := accN_mem.1 hg
  exact named_lt hg
 have hal : ∀ ns : List Nat, (∀ g ∈ ns, g < 12) → (accN m ns).length ≤ 4 * ns.length := fun ns h => accN_len hok h
 obtain ⟨q, c, rfl, hc, hcm, _⟩ := h.open
 have HLT := Lib.hid hlt12
 have HAL := Lib.hid hal
 have i0 : (0 : Int) ≤ (n : Int) := by omega
 clear h hok hc hcm hlt12 hal
 go_enter Tryz.func51, Tryz.ntmps51
 go_wp2_with fail
 have b1 := below1 w (.cells #[.int .i64 (n : Int)] 3)
 have b2 := below2 w (.cells #[.int .i64 (n : Int)] 3) (.cells #[.int .i64 (n : Int)] 3)
 have O1 := Lib.hid ((own_lit1 w (n : Int)).below (below1 _ (.cells #[.int .i64 (n : Int)] 3)))
 have O2 := own_lit1 (w.alloc (.cells #[.int .i64 (n : Int)] 3)) (n : Int)
 rw [World.size_alloc] at O2
 refine (C1.out _ _ [n] b2 (by rw [ints_one]; exact OwnInts.rd O2) (by simpa using hn) (by simp)).mono ?_
 rintro e w1 ⟨v1, t1, rfl, P1, m1, l1, hb1⟩
 have Q1 := Lib.hid (O1.out.below hb1)
 have B1 := b2.trans (hb1.mono b2.size)
 have s1 := B1.size
 obtain ⟨a1, c1, rfl, _, _, _⟩ := P1.rd.open
 have P1r := Lib.hid (OwnInts.rd P1)
 rw [ints_len] at P1r ⊢
 clear hb1 b1 b2 O2 P1 O1
 have R1 := Lib.hid (show Rd w1 (.slice a1 t1.length c1) 1 t1.length ((ints t1).map (Value.int .i64)) by have := P1r.out; unfold RdInts at this; rwa [ints_len] at this)
 have h1 : t1.length ≤ 4 := by simp at hlen1; omega
 go_wp2_with (at_builtin; go_must (refine wp_append (lo := w.heap.size) (v := .slice (some ⟨w.heap.size, 0, none⟩) 1 1) (n := 1) (xs := [.int .i64 (n : Int)]) (m := t1.length) (news := (ints t1).map (Value.int .i64)) rfl rfl 3 (.int .i64 0) 1 8 Tryz.underlying38 Tryz.infoInt rfl (by decide) rfl Q1.out rfl R1.out mem_ints (by unfold maxLen; omega) (by omega) (by omega) ?_; intro o2 w2 k1 k2 k3))
 have O3 := Lib.hid (app_ints (a := [n]) k1)
 have B2 := B1.trans k3
 have s2 := B2.size
 clear k1 k2 k3 Q1 R1 P1r B1
 have b3 := B2.trans ((below1 w2 (.cells #[.int .i64 (n : Int)] 3)).mono s2)
 have O4 := Lib.hid (O3.out.below (below1 w2 (.cells #[.int .i64 (n : Int)] 3)))
 have CN := Lib.hid (C1.out _ _ [n] b3 (by rw [ints_one]; exact OwnInts.rd (own_lit1 w2 (n : Int))) (by simpa using hn) (by simp))
 clear O3
 go_wp2_with fail
 refine (CN.out).mono ?_
 rintro e w3 ⟨v3, t3, rfl, P3, m3, l3, hb3⟩
 have O5 := Lib.hid (O4.out.below hb3)
 have B3 := b3.trans (hb3.mono b3.size)
 have s3 := B3.size
 have h3 : t3.length ≤ 4 := by simp at hlen1; omega
 have t3lt : ∀ g ∈ t3, g < 12 := fun g hg => HLT.out _ g ((m3 g).1 hg)
 have CM := Lib.hid (C1.out _ v3 t3 B3 (OwnInts.rd P3) t3lt (by omega))
 have h4 := HAL.out t3 t3lt
 have M3 := Lib.hid m3
 have M1 := Lib.hid m1
 clear hb3 b3 P3 O4 CN m3 m1
 go_wp2_with fail
 refine (CM.out).mono ?_
 rintro e w4 ⟨v4, t4, rfl, P4, m4, l4, hb4⟩
 have O6 := Lib.hid (O5.out.below hb4)
 have O6' := Lib.hid (show w4.ownsRow w.heap.size 3 1 o2 ([n] ++ t1).length ((ints ([n] ++ t1)).map (Value.int .i64)) by have := O6.out; unfold OwnInts at this; rwa [ints_len] at this)
 have B4 := B3.trans (hb4.mono s3)
 have s4 := B4.size
 have R4 := Lib.hid (show Rd w4 v4 1 t4.length ((ints t4).map (Value.int .i64)) by have := OwnInts.rd P4; unfold RdInts at this; rwa [ints_len] at this)
 have M4 := Lib.hid m4
 have hl1 : ([n] ++ t1).length ≤ 5 := by simp; omega
 clear hb4 P4 m4 O5
 have hmem := Lib.hid (show ∀ g, g ∈ (([n] ++ t1) ++ t4) ↔ g ∈ reachL m (n : Int) by
  intro g
  rw [reach_acc, List.mem_append, List.mem_append, List.mem_singleton, M1.out, M4.out, accN_congr M3.out, or_assoc])
 generalize [n] ++ t1 = acc at *
 go_wp2_with (at_builtin; go_must (refine wp_append (lo := w.heap.size) (v := o2) (n := acc.length) (xs := (ints acc).map (Value.int .i64)) (m := t4.length) (news := (ints t4).map (Value.int .i64)) rfl rfl 3 (.int .i64 0) 1 8 Tryz.underlying38 Tryz.infoInt rfl (by decide) rfl O6'.out rfl R4.out mem_ints (by unfold maxLen; omega) (by omega) (by omega) ?_; intro o5 w5 k1 k2 k3))
 have O7 := app_ints k1
 have B5 := B4.trans k3
 have s5 := B5.size
 have hl5 : (acc ++ t4).length ≤ 21 := by rw [List.length_append]; omega
 have CS := Lib.hid (SortInts_any o5 (acc ++ t4) w5 O7 (by omega))
 generalize acc ++ t4 = fin at *
 clear k1 k2 k3 O7 O6 O6' R4 B4
 go_wp2_with fail
 refine (CS.out).mono ?_; rintro e w6 ⟨rfl, ts, u1, u2, hO1, hg1⟩
 have B6 := B5.trans (below_own hO1 hg1 s5)
 have s6 := B6.size
 have CC := Lib.hid (CompactInts_any o5 ts w6 hO1 (by omega))
 clear hO1 hg1 B5
 go_wp2_with fail
 refine (CC.out).mono ?_; rintro e w7 ⟨v', rfl, hvb, ts2, y1, y2, hO2, hg2⟩
 go_wp2_with fail
 go_ret
 exact ⟨_, ts2, rfl, hO2, fun g => ((y2 g).trans (u2 g)).trans (hmem.out g), by omega, B6.trans (below_ownb hO2 hvb hg2 s6)⟩
theorem reached_neg (v : Value) (m : List (List Int)) (r : Int) (w : World) (h : RdRows w v m) (hr : r < 0) : Calls Tryz.prog 51 #[v, .int .i64 r] w (ReachedRes m r w) := by
 obtain ⟨q, c, rfl, _, _, _⟩ := h.open
 have S := Lib.hid (show ∀ g, g ∈ ([] : List Nat) ↔ g ∈ reachL m r from fun g => ⟨(fun h => by cases h), (fun h => by have := (reach_mem.1 h).1; omega)⟩)
 clear h
 go_enter Tryz.func51, Tryz.ntmps51
 go_wp2_with fail
 go_ret
 exact ⟨_, [], rfl, World.ownsRow_nil _ _ _ _, S.out, by decide, Below.refl _ _⟩
set_option maxHeartbeats 1000000 in
theorem IndexFuncB_any (F : Nat) (caps : Array Value) (p : Int → Bool) (v : Value) (xs : List Int) (w : World) (h : RdInts w v xs)
 (hF : ∀ args w, (callFunc F args).run Tryz.prog w = .ok (.enter F args) w) (hf : ∀ x, x ∈ xs → ∀ W, Below w.heap.size w W → Calls Tryz.prog F (#[.int .i64 x] ++ caps) W fun e W' => e = .returned (.bool (p x)) ∧ Below W.heap.size W W') :
 Calls Tryz.prog 187 #[v, .func (.func F) #[] caps] w fun e w' => e = .returned (.int .i64 (findIx p xs)) ∧ Below w.heap.size w w' := by
 obtain ⟨a, c, rfl, hc, hcm, H0⟩ := h.open
 clear h
 unfold maxLen at hcm
 have Hf := Lib.hid hf; clear hf
 go_enter Tryz.func187, Tryz.ntmps187
 go_wp2
 go_loopw [8] (fun i wr => ∃ k : Nat, k ≤ xs.length ∧ i = .int .i64 k ∧ (∀ (j : Nat) x, j < k → xs[j]? = some x → p x = false) ∧ Below w.heap.size w wr) (fun i _ => xs.length - (intOf i).toNat)
 case atStart => exact ⟨0, Nat.zero_le _, rfl, fun j x hj => absurd hj (Nat.not_lt_zero _), Below.refl _ _⟩
 case round =>
  obtain ⟨k, hk, rfl, hpre, hbel⟩ := hrel
  have Hpre := Lib.hid hpre; clear hpre
  by_cases hlt : k < xs.length
  ·have hx : xs[k]? = some (nth xs k) := nth_lt hlt
   obtain ⟨b, off, rfl, hbl, D0'⟩ := H0.cellAt hlt
   have D0 := (hbel.cell (p := ⟨b, off + k, none⟩) hbl).trans D0'
   clear D0'
   have Hx := Lib.hid hx
   have Hc := Lib.hid (Hf.out _ (List.mem_of_getElem? hx) wr hbel)
   clear hx
   cases hp : p (nth xs k)
   ·have Hp := Lib.hid hp; clear hp
    go_wp2_with (refine (Hc.out).mono ?_; rintro e w' ⟨rfl, hb2⟩; rw [Hp.out])
    go_roundw
    case rel => exact ⟨k + 1, by omega, by go_num, before_next Hpre.out Hx.out Hp.out, hbel.trans (hb2.mono hbel.size)⟩
    case measure => simp [intOf]; omega
   ·have Hp := Lib.hid hp; clear hp
    have hres := Lib.hid (findIx_at Hx.out Hpre.out Hp.out)
    go_wp2_with (refine (Hc.out).mono ?_; rintro e w' ⟨rfl, hb2⟩; rw [Hp.out])
    go_ret
    exact ⟨ret_int hres.out.symm, hbel.trans (hb2.mono hbel.size)⟩
  ·have hres := Lib.hid (findIx_none (p := p) (xs := xs) (fun j x hx => Hpre.out j x (by have := (List.getElem?_eq_some_iff.1 hx).1; omega) hx))
   go_wp2
   go_ret
   exact ⟨ret_int hres.out.symm, hbel⟩
set_option maxHeartbeats 400000 in
theorem ContainsFuncB_any (F : Nat) (caps : Array Value) (p : Int → Bool) (v : Value) (xs : List Int) (w : World) (h : RdInts w v xs)
 (hF : ∀ args w, (callFunc F args).run Tryz.prog w = .ok (.enter F args) w) (hf : ∀ x, x ∈ xs → ∀ W, Below w.heap.size w W → Calls Tryz.prog F (#[.int .i64 x] ++ caps) W fun e W' => e = .returned (.bool (p x)) ∧ Below W.heap.size W W') :
 Calls Tryz.prog 119 #[v, .func (.func F) #[] caps] w fun e w' => e = .returned (.bool (xs.any p)) ∧ Below w.heap.size w w' := by
 have E := Lib.hid (findIx_ge (p := p) (xs := xs))
 have C := Lib.hid (IndexFuncB_any F caps p v xs w h hF hf)
 clear h hf
 go_enter Tryz.func119, Tryz.ntmps119
 go_wp2_with (refine (C.out).mono ?_; rintro e w' ⟨rfl, hb2⟩)
 go_ret
 exact ⟨ret_bool E.out, hb2⟩
set_option maxRecDepth 100000 in
set_option maxHeartbeats 2000000 in
theorem allowed1_any (f : Nat) (v : Value) (ss : List ByteArray) (iv : Value) (infos : List InfoV) (br bk gk : Nat) (w : World) (hr : w.cell? ⟨br, 0, none⟩ = some v) (hk : w.cell? ⟨bk, 0, none⟩ = some (.pointer (some ⟨gk, 0, none⟩)))
 (hi : w.cell? ⟨gk, 1, none⟩ = some iv) (hv : RdStrs w v ss) (hI : RdInfos w iv infos) (hf : f < infos.length) :
 Calls Tryz.prog 120 #[.int .i64 (f : Int), .pointer (some ⟨br, 0, none⟩), .pointer (some ⟨bk, 0, none⟩)] w fun e w' => e = .returned (.bool (!mayP ss (infoAt infos f).g)) ∧ Below w.heap.size w w' := by
 obtain ⟨a, c, rfl, hc, hcm, H0⟩ := RdF.open infoCs_len (by decide) hI
 obtain ⟨b, off, rfl, hb, D0, D1, D2⟩ := H0.infoCells hf
 have M := RegB (w1 := w) (fun W hW => may_any v ss (infoAt infos f).g W (RdF.below hv hW))
 obtain ⟨av, cv, rfl, _, _⟩ := hv.shape
 have k0 := cell_regrown hr
 have k1 := cell_regrown hk
 have k2 := cell_regrown hi
 have k3 := cell_regrown D1
 have f0 : (f : Int) < infos.length := by omega
 clear H0 hI hv D0 D1 D2
 go_enter Tryz.func120, Tryz.ntmps120
 go_wp2_with fail
 refine wp_region_quiet_below Tryz.mixed (by kernel_rfl) ?_
 repeat (go_big_quiet_step (exact M _ _))
 refine wpQuiet_nil ?_
 intro _ hw'
 obtain ⟨⟨dq, osq⟩, hw''⟩ := hw'
 subst hw''
 have bq := below_regrown w dq osq
 generalize Sort.grow (redrawn w dq) osq = wq at bq
 go_wp2_with fail
 go_ret
 exact ⟨rfl, bq⟩
set_option maxHeartbeats 1000000 in
theorem allowed_any (gk : Nat) (v v2 iv : Value) (ss : List ByteArray) (fs : List Nat) (infos : List InfoV) (w : World) (hi : w.cell? ⟨gk, 1, none⟩ = some iv) (hv : RdStrs w v ss) (hI : RdInfos w iv infos) (h2 : RdInts w v2 (ints fs)) (hfs : ∀ f ∈ fs, f < infos.length) :
 Calls Tryz.prog 50 #[.pointer (some ⟨gk, 0, none⟩), v, v2] w fun e w' => e = .returned (.bool (allowedP infos fs ss)) ∧ Below w.heap.size w w' := by
 have b2 := below2 w (.cells #[.pointer (some ⟨gk, 0, none⟩)] 148) (.cells #[v] 36)
 have ck0 : (w.alloc (.cells #[.pointer (some ⟨gk, 0, none⟩)] 148)).cell? ⟨w.heap.size, 0, none⟩ = some (.pointer (some ⟨gk, 0, none⟩)) := cell_of_row _ _ 0 _ _ _ (heap_alloc_new _ _)
 have ck : ((w.alloc (.cells #[.pointer (some ⟨gk, 0, none⟩)] 148)).alloc (.cells #[v] 36)).cell? ⟨w.heap.size, 0, none⟩ = some (.pointer (some ⟨gk, 0, none⟩)) := ((below1 _ _).cell (World.block_lt_of_cell? _ _ ck0)).trans ck0
 have cv : ((w.alloc (.cells #[.pointer (some ⟨gk, 0, none⟩)] 148)).alloc (.cells #[v] 36)).cell? ⟨w.heap.size + 1, 0, none⟩ = some v := by
  have := cell_of_row _ _ 0 _ _ _ (heap_alloc_new (w.alloc (.cells #[.pointer (some ⟨gk, 0, none⟩)] 148)) (.cells #[v] 36))
  rwa [World.size_alloc] at this
 have hgl := World.block_lt_of_cell? w _ hi
 have S := Lib.hid (show (!(ints fs).any (fun x => !mayP ss (infoAt infos x.toNat).g)) = allowedP infos fs ss by rw [any_not]; unfold ints allowedP; rw [List.all_map]; rfl)
 have C := Lib.hid (ContainsFuncB_any 120 #[.pointer (some ⟨w.heap.size + 1, 0, none⟩), .pointer (some ⟨w.heap.size, 0, none⟩)] (fun x => !mayP ss (infoAt infos x.toNat).g) v2 (ints fs) _ (RdInts.below h2 b2) (fun _ _ => by kernel_rfl) (by
  intro x hx W hW
  obtain ⟨n, hn, rfl⟩ := List.mem_map.1 hx
  have hb := b2.trans (hW.mono b2.size)
  exact allowed1_any n v ss iv infos _ _ gk W ((hW.cell (World.block_lt_of_cell? _ _ cv)).trans cv) ((hW.cell (World.block_lt_of_cell? _ _ ck)).trans ck) ((hb.cell hgl).trans hi) (RdF.below hv hb) (RdF.below hI hb) (hfs n hn)))
 obtain ⟨a, c, rfl, _, _, _⟩ := h2.open
 obtain ⟨a', c', rfl, _, _⟩ := hv.shape
 clear hv hI h2 hi ck0 ck cv hfs
 go_enter Tryz.func50, Tryz.ntmps50
 go_wp2_with (refine (C.out).mono ?_; rintro e w' ⟨rfl, hb2⟩)
 go_ret
 exact ⟨ret_bool S.out, b2.trans (hb2.mono b2.size)⟩
theorem needs_tab {k : Int} (h : tabK k = true) : needs k = k - 1 := by unfold needs; rw [if_pos h]
theorem goodW_zero {infos : List InfoV} {f : Nat} {kind : Int} {ss : List ByteArray} : goodW infos f kind ss 0 = true := goodW_iff.2 (.inr ⟨rfl, rfl⟩)
theorem goodW_bad {infos : List InfoV} {f : Nat} {kind x : Int} {ss : List ByteArray} (h0 : x ≠ 0) (h : entG x = false) : goodW infos f kind ss x = false := by simp [goodW, h, h0]
theorem goodW_ent {infos : List InfoV} {f : Nat} {kind x : Int} {ss : List ByteArray} (h : entG x = true) : goodW infos f kind ss x = (decide (entF x ≠ f) && decide ((infoAt infos (entF x)).k = kind - 1) && mayP ss (infoAt infos (entF x)).g) := by simp [goodW, h]
set_option maxRecDepth 100000 in
set_option maxHeartbeats 4000000 in
theorem good1_any (x : Int) (f : Nat) (kind : Int) (v iv : Value) (ss : List ByteArray) (infos : List InfoV) (bf bi bk br : Nat) (w : World) (hx : x ≤ 9223372036854775807) (h1 : w.cell? ⟨bf, 0, none⟩ = some (.int .i64 (f : Int))) (h2 : w.cell? ⟨bi, 0, none⟩ = some iv) (h3 : w.cell? ⟨bk, 0, none⟩ = some (.int .i64 kind)) (h4 : w.cell? ⟨br, 0, none⟩ = some v)
 (hv : RdStrs w v ss) (hI : RdInfos w iv infos) (hl : infos.length = 12) (hk : tabK kind = true) :
 Calls Tryz.prog 124 #[.int .i64 x, .pointer (some ⟨bf, 0, none⟩), .pointer (some ⟨bi, 0, none⟩), .pointer (some ⟨bk, 0, none⟩), .pointer (some ⟨br, 0, none⟩)] w fun e w' => e = .returned (.bool (!goodW infos f kind ss x)) ∧ Below w.heap.size w w' := by
 obtain ⟨a, c, rfl, hc, hcm, H0⟩ := RdF.open infoCs_len (by decide) hI
 have CE := Lib.hid (fun W => EntryGet_any x W hx)
 have k1 := cell_regrown h1
 have k2 := cell_regrown h2
 have k3 := cell_regrown h3
 have k4 := cell_regrown h4
 have cT := RegS (w1 := w) (fun W => TableNeeds_any kind W)
 rw [needs_tab hk] at cT
 by_cases hx0 : x = 0
 ·subst hx0
  have V := Lib.hid (entV_no (x := 0) rfl)
  have S := Lib.hid (show (!goodW infos f kind ss 0) = false by rw [goodW_zero]; rfl)
  clear H0 hI hv h1 h2 h3 h4 hk hc hcm
  go_enter Tryz.func124, Tryz.ntmps124
  go_wp2_with (go_at_call 118; refine (CE.out _).mono ?_; rintro e w' ⟨rfl, rfl⟩; rw [V.out])
  refine wp_region_quiet_below Tryz.mixed (by kernel_rfl) ?_
  repeat (go_big_quiet_step (exact cT _ _))
  refine wpQuiet_nil ?_
  intro _ hw'
  obtain ⟨⟨dq, osq⟩, hw''⟩ := hw'
  subst hw''
  have bq := below_regrown w dq osq
  generalize Sort.grow (redrawn w dq) osq = wq at bq
  go_wp2_with fail
  go_ret
  exact ⟨ret_bool S.out.symm, bq⟩
 ·have t0 : (x != 0) = true := by simp [hx0]
  cases hg : entG x
  ·have V := Lib.hid (entV_no hg)
   have S := Lib.hid (show (!goodW infos f kind ss x) = true by rw [goodW_bad hx0 hg]; rfl)
   clear H0 hI hv h1 h2 h3 h4 hk hc hcm hg hx0
   go_enter Tryz.func124, Tryz.ntmps124
   go_wp2_with (go_at_call 118; refine (CE.out _).mono ?_; rintro e w' ⟨rfl, rfl⟩; rw [V.out])
   refine wp_region_quiet_below Tryz.mixed (by kernel_rfl) ?_
   repeat (go_big_quiet_step (exact cT _ _))
   refine wpQuiet_nil ?_
   intro _ hw'
   obtain ⟨⟨dq, osq⟩, hw''⟩ := hw'
   subst hw''
   have bq := below_regrown w dq osq
   generalize Sort.grow (redrawn w dq) osq = wq at bq
   go_wp2_with fail
   go_ret
   exact ⟨ret_bool S.out.symm, bq⟩
  ·have hF := entF_lt hg
   have V := Lib.hid (entV_yes hg)
   have G := Lib.hid (goodW_ent (infos := infos) (f := f) (kind := kind) (ss := ss) hg)
   obtain ⟨b, off, rfl, hb, D0, D1, D2⟩ := H0.infoCells (show entF x < infos.length by omega)
   have d0 := cell_regrown D0
   have d1 := cell_regrown D1
   have M := RegB (w1 := w) (fun W hW => may_any v ss (infoAt infos (entF x)).g W (RdF.below hv hW))
   obtain ⟨av, cv, rfl, _, _⟩ := hv.shape
   have i1 : ((entF x : Nat) : Int) < infos.length := by omega
   clear H0 hI hv h1 h2 h3 h4 hk hc hcm D0 D1 D2 hx0 hg
   generalize entF x = o at *
   by_cases e1 : o = f
   ·have t1 : ((o : Int) == (f : Int)) = true := by simp [e1]
    have S := Lib.hid (show (!goodW infos f kind ss x) = true by rw [G.out]; simp [e1])
    clear e1
    go_enter Tryz.func124, Tryz.ntmps124
    go_wp2_with (go_at_call 118; refine (CE.out _).mono ?_; rintro e w' ⟨rfl, rfl⟩; rw [V.out])
    refine wp_region_quiet_below Tryz.mixed (by kernel_rfl) ?_
    repeat (go_big_quiet_step (first | exact cT _ _ | exact M _ _))
    refine wpQuiet_nil ?_
    intro _ hw'
    obtain ⟨⟨dq, osq⟩, hw''⟩ := hw'
    subst hw''
    have bq := below_regrown w dq osq
    generalize Sort.grow (redrawn w dq) osq = wq at bq
    go_wp2_with fail
    go_ret
    exact ⟨ret_bool S.out.symm, bq⟩
   ·have t1 : ((o : Int) == (f : Int)) = false := by simp; omega
    by_cases e2 : (infoAt infos o).k = kind - 1
    ·have t2 : ((infoAt infos o).k != kind - 1) = false := by simp [e2]
     have S := Lib.hid (show (!goodW infos f kind ss x) = !mayP ss (infoAt infos o).g by rw [G.out]; simp [e1, e2])
     clear e1 e2
     go_enter Tryz.func124, Tryz.ntmps124
     go_wp2_with (go_at_call 118; refine (CE.out _).mono ?_; rintro e w' ⟨rfl, rfl⟩; rw [V.out])
     refine wp_region_quiet_below Tryz.mixed (by kernel_rfl) ?_
     repeat (go_big_quiet_step (first | exact cT _ _ | exact M _ _))
     refine wpQuiet_nil ?_
     intro _ hw'
     obtain ⟨⟨dq, osq⟩, hw''⟩ := hw'
     subst hw''
     have bq := below_regrown w dq osq
     generalize Sort.grow (redrawn w dq) osq = wq at bq
     go_wp2_with fail
     go_ret
     exact ⟨ret_bool S.out.symm, bq⟩
    ·have t2 : ((infoAt infos o).k != kind - 1) = true := by simp [e2]
     have S := Lib.hid (show (!goodW infos f kind ss x) = true by rw [G.out]; simp [e2])
     clear e1 e2
     go_enter Tryz.func124, Tryz.ntmps124
     go_wp2_with (go_at_call 118; refine (CE.out _).mono ?_; rintro e w' ⟨rfl, rfl⟩; rw [V.out])
     refine wp_region_quiet_below Tryz.mixed (by kernel_rfl) ?_
     repeat (go_big_quiet_step (first | exact cT _ _ | exact M _ _))
     refine wpQuiet_nil ?_
     intro _ hw'
     obtain ⟨⟨dq, osq⟩, hw''⟩ := hw'
     subst hw''
     have bq := below_regrown w dq osq
     generalize Sort.grow (redrawn w dq) osq = wq at bq
     go_wp2_with fail
     go_ret
     exact ⟨ret_bool S.out.symm, bq⟩
set_option maxRecDepth 100000 in
set_option maxHeartbeats 2000000 in
theorem good_any (v iv rv : Value) (m : List (List Int)) (infos : List InfoV) (f : Nat) (kind : Int) (ss : List ByteArray) (w : World) (h : RdRows w v m) (hok : memOk m = true) (hI : RdInfos w iv infos) (hl : infos.length = 12) (hf : f < 12) (hk : tabK kind = true) (hv : RdStrs w rv ss) :
 Calls Tryz.prog 53 #[v, iv, .int .i64 (f : Int), .int .i64 kind, rv] w fun e w' => e = .returned (.bool (goodP m infos f kind ss)) ∧ Below w.heap.size w w' := by
 obtain ⟨ai, ci, rfl, _, _⟩ := hI.shape
 obtain ⟨av, cv, rfl, _, _⟩ := hv.shape
 have b4 := below4 w (.cells #[.slice ai infos.length ci] 29) (.cells #[.int .i64 (f : Int)] 3) (.cells #[.int .i64 kind] 3) (.cells #[.slice av ss.length cv] 36)
 have N0 := heap_alloc_new w (.cells #[.slice ai infos.length ci] 29)
 have N1 := heap_alloc_new (w.alloc (.cells #[.slice ai infos.length ci] 29)) (.cells #[.int .i64 (f : Int)] 3)
 have N2 := heap_alloc_new ((w.alloc (.cells #[.slice ai infos.length ci] 29)).alloc (.cells #[.int .i64 (f : Int)] 3)) (.cells #[.int .i64 kind] 3)
 have N3 := heap_alloc_new (((w.alloc (.cells #[.slice ai infos.length ci] 29)).alloc (.cells #[.int .i64 (f : Int)] 3)).alloc (.cells #[.int .i64 kind] 3)) (.cells #[.slice av ss.length cv] 36)
 simp only [World.size_alloc] at N1 N2 N3
 have M2 := blk_below N2 (below1 _ (.cells #[.slice av ss.length cv] 36))
 have M1 := blk_below N1 (below2 _ (.cells #[.int .i64 kind] 3) (.cells #[.slice av ss.length cv] 36))
 have M0 := blk_below N0 (below3 _ (.cells #[.int .i64 (f : Int)] 3) (.cells #[.int .i64 kind] 3) (.cells #[.slice av ss.length cv] 36))
 obtain ⟨q, c, rfl, hc, hcm, H0⟩ := h.open
 have hml := (memOk_iff.1 hok).1
 obtain ⟨bm, offm, br, offr, cr, rfl, hbm, D, hbr, hcr, W0⟩ := H0.row4 hok hf
 have D' := (b4.cell (p := ⟨bm, offm + f, none⟩) hbm).trans D
 have rd := (RdRows.open (RdRows.below h b4))
 have hrow : RdInts ((((w.alloc (.cells #[.slice ai infos.length ci] 29)).alloc (.cells #[.int .i64 (f : Int)] 3)).alloc (.cells #[.int .i64 kind] 3)).alloc (.cells #[.slice av ss.length cv] 36)) (.slice (some ⟨br, offr, none⟩) 4 cr) (rowAt m f) := by
  obtain ⟨b', off', u, e, _, hcu, hr⟩ := H0 f (by omega)
  cases e
  rw [D] at hcu
  cases hcu
  exact RdInts.below hr b4
 have S := Lib.hid (show (!(rowAt m f).any fun x => !goodW infos f kind ss x) = goodP m infos f kind ss by rw [any_not]; rfl)
 have hw : ∀ x, x ∈ rowAt m f → x ≤ 9999 := fun x hx => ((rowOk_iff.1 ((memOk_iff.1 hok).2 f hf)).2 x hx).2
 have C := Lib.hid (ContainsFuncB_any 124 #[.pointer (some ⟨w.heap.size + 1, 0, none⟩), .pointer (some ⟨w.heap.size, 0, none⟩), .pointer (some ⟨w.heap.size + 1 + 1, 0, none⟩), .pointer (some ⟨w.heap.size + 1 + 1 + 1, 0, none⟩)] (fun x => !goodW infos f kind ss x) _ (rowAt m f) _ hrow (fun _ _ => by kernel_rfl) (by
  intro x hx W hW
  have hb := b4.trans (hW.mono b4.size)
  exact good1_any x f kind _ _ ss infos _ _ _ _ W (by have := hw x hx; omega) (cell_of_row _ _ 0 _ _ _ (blk_below M1 hW)) (cell_of_row _ _ 0 _ _ _ (blk_below M0 hW)) (cell_of_row _ _ 0 _ _ _ (blk_below M2 hW)) (cell_of_row _ _ 0 _ _ _ (blk_below N3 hW)) (RdF.below hv hb) (RdF.below hI hb) hl hk))
 have fm : (f : Int) < m.length := by omega
 clear hv hI h hrow hw N0 N1 N2 N3 M0 M1 M2 W0 rd H0 D hl hml hok
 go_enter Tryz.func53, Tryz.ntmps53
 go_wp2_with (refine (C.out).mono ?_; rintro e w' ⟨rfl, hb2⟩)
 go_ret
 exact ⟨ret_bool S.out, b4.trans (hb2.mono b4.size)⟩
def cntTo (m : List (List Int)) (infos : List InfoV) (t j g : Nat) : Nat :=
 ((List.range t).map fun u => if tabK (infoAt infos u).k then (named (rowAt m u)).count g else 0).sum + (named ((rowAt m t).take j)).count g
def cntL (m : List (List Int)) (infos : List InfoV) (t j : Nat) : List Int := (List.range 12).map fun g => (cntTo m infos t j g : Int)
section
variable {m : List (List Int)} {infos : List InfoV} {t j g : Nat}
theorem cntL_len : (cntL m infos t j).length = 12 := by simp [cntL]
theorem cntL_nth (h : g < 12) : nth (cntL m infos t j) g = cntTo m infos t j g := by
 unfold cntL nth
 rw [List.getD_eq_getElem?_getD, List.getElem?_map, List.getElem?_range h]
 rfl
theorem cntL_zero : cntL m infos 0 0 = List.replicate 12 0 := by simp [cntL, cntTo, named, List.range, List.range.loop, List.replicate]
theorem cntL_no (hj : j < (rowAt m t).length) (h : entG ((rowAt m t).getD j 0) = false) : cntL m infos t (j + 1) = cntL m infos t j := by
 unfold cntL cntTo
 rw [named_take hj, h]
 simp
theorem cntL_yes (hj : j < (rowAt m t).length) (h : entG ((rowAt m t).getD j 0) = true) :
 cntL m infos t (j + 1) = (cntL m infos t j).set (entF ((rowAt m t).getD j 0)) (cntTo m infos t j (entF ((rowAt m t).getD j 0)) + 1) := by
 refine eq_of_nth (by simp [cntL]) fun g hg => ?_
 rw [cntL_len] at hg
 have hf := entF_lt h
 rw [nth_set (by rw [cntL_len]; exact hf), cntL_nth hg, cntL_nth hg]
 unfold cntTo
 rw [named_take hj, h, if_pos rfl, List.count_append]
 by_cases e : g = entF ((rowAt m t).getD j 0)
 ·subst e; simp; omega
 ·rw [if_neg e, List.count_singleton]
  have : (entF ((rowAt m t).getD j 0) == g) = false := by simp; exact fun h => e h.symm
  rw [this]
  simp
theorem cntL_row (hk : tabK (infoAt infos t).k = true) (hl : (rowAt m t).length = 4) : cntL m infos t 4 = cntL m infos (t + 1) 0 := by
 unfold cntL cntTo
 rw [List.range_succ (n := t), List.take_of_length_le (Nat.le_of_eq hl)]
 simp [hk, named]
theorem cntL_skip (hk : tabK (infoAt infos t).k = false) : cntL m infos t 0 = cntL m infos (t + 1) 0 := by
 unfold cntL cntTo
 rw [List.range_succ (n := t)]
 simp [hk, named]
theorem cntL_end : cntL m infos 12 0 = (List.range 12).map fun g => (countP m infos g : Int) := by
 unfold cntL cntTo countP
 simp [named]
theorem cntTo_le (hm : memOk m = true) (ht : t ≤ 12) (hj : j ≤ 4) : cntTo m infos t j g ≤ 100 := by
 have h1 : ((List.range t).map fun u => if tabK (infoAt infos u).k then (named (rowAt m u)).count g else 0).sum ≤ 4 * t := by
  clear hj
  induction t with
  | zero => simp
  | succ t ih =>
   have := ih (by omega)
   rw [List.range_succ, List.map_append, List.sum_append]
   have h2 : (if tabK (infoAt infos t).k then (named (rowAt m t)).count g else 0) ≤ 4 := by
    split
    ·have h3 := List.count_le_length (a := g) (l := named (rowAt m t))
     have h4 := named_len (r := rowAt m t)
     have h5 := (rowOk_iff.1 ((memOk_iff.1 hm).2 t (by omega))).1
     omega
    ·omega
   simp only [List.map_cons, List.map_nil, List.sum_cons, List.sum_nil]
   omega
 have h3 := List.count_le_length (a := g) (l := named ((rowAt m t).take j))
 have h4 := named_len (r := (rowAt m t).take j)
 rw [List.length_take] at h4
 unfold cntTo
 omega
end
set_option maxRecDepth 100000 in
set_option maxHeartbeats 4000000 in
theorem counted_any (v iv : Value) (m : List (List Int)) (infos : List InfoV) (w : World) (h : RdRows w v m) (hok : memOk m = true) (hI : RdInfos w iv infos) (hl : infos.length = 12) :
 Calls Tryz.prog 48 #[v, iv] w fun e w' => ∃ v', e = .returned v' ∧ OwnInts w.heap.size w' v' ((List.range 12).map fun g => (countP m infos g : Int)) ∧ Below w.heap.size w w' := by
 obtain ⟨q, c, rfl, hc, hcm, H0⟩ := h.open
 obtain ⟨a2, c2, rfl, hc2, hcm2, H2⟩ := RdF.open infoCs_len (by decide) hI
 have hml := (memOk_iff.1 hok).1
 unfold maxLen at hcm hcm2
 rw [hml] at hc ⊢
 rw [hl] at hc2 ⊢
 have Hok := Lib.hid hok
 have HR := Lib.hid H0
 have HI := Lib.hid H2
 have Hl := Lib.hid hl
 clear h hok H0 H2 hml hI hl
 go_enter Tryz.func48, Tryz.ntmps48
 go_wp2_with (at_make; go_must (refine wp_make (n := 12) rfl rfl 3 (.int .i64 0) 8 Tryz.underlying38 Tryz.infoInt rfl rfl (by omega) (by unfold maxLen; omega) ?_; intro w1 hown hbel hsz))
 have hO0 : OwnInts w.heap.size w1 (.slice (some ⟨w.heap.size, 0, none⟩) 12 12) (cntL m infos 0 0) := by unfold OwnInts; rw [cntL_len, cntL_zero]; exact hown
 have hg1 : w.heap.size ≤ w.heap.size := Nat.le_refl _
 have HB1 := Lib.hid hbel
 clear hown hbel
 go_loopw [16] (fun i wr => ∃ t : Nat, t ≤ 12 ∧ i = .int .i64 t ∧ OwnInts w.heap.size wr (.slice (some ⟨w.heap.size, 0, none⟩) 12 12) (cntL m infos t 0) ∧ Below w.heap.size w wr) (fun i _ => 12 - (intOf i).toNat)
 case atStart => exact ⟨0, Nat.zero_le _, rfl, hO0, HB1.out⟩
 case round =>
  obtain ⟨t, ht, rfl, hO, hbel⟩ := hrel
  clear hO0
  by_cases hlt : t < 12
  ·obtain ⟨b, off, rfl, hbl, D0, D1, D2⟩ := HI.out.infoCells (show t < infos.length by rw [Hl.out]; exact hlt)
   replace D0 := (hbel.cell (p := ⟨b, off + t * 3, none⟩) hbl).trans D0
   replace D1 := (hbel.cell (p := ⟨b, off + t * 3 + 1, none⟩) hbl).trans D1
   replace D2 := (hbel.cell (p := ⟨b, off + t * 3 + 2, none⟩) hbl).trans D2
   have N := heap_alloc_new wr (.cells #[.int .i64 (infoAt infos t).k, .string (infoAt infos t).g, .int .i64 (infoAt infos t).r] 89)
   have hba := hbel.trans ((below1 wr (.cells #[.int .i64 (infoAt infos t).k, .string (infoAt infos t).g, .int .i64 (infoAt infos t).r] 89)).mono hbel.size)
   have HO := Lib.hid (OwnInts.below hO (below1 wr (.cells #[.int .i64 (infoAt infos t).k, .string (infoAt infos t).g, .int .i64 (infoAt infos t).r] 89)))
   have CT := Lib.hid (fun W => isTable_any (infoAt infos t).k W)
   clear hO
   obtain ⟨bm, offm, br, offr, cr, rfl, hbm, M0, hbr, hcr, W0⟩ := HR.out.row4 Hok.out hlt
   have HW := Lib.hid W0
   have M := (hba.cell (p := ⟨bm, offm + t, none⟩) hbm).trans M0
   have hrl := Lib.hid (rowOk_iff.1 ((memOk_iff.1 Hok.out).2 _ hlt)).1
   clear W0 M0
   cases hk : tabK (infoAt infos t).k
   ·have S := Lib.hid (cntL_skip (m := m) hk)
    have HK := Lib.hid hk
    clear hk
    go_wp2_with (go_at_call 52; refine (CT.out _).mono ?_; rintro e w' ⟨rfl, rfl⟩; rw [HK.out])
    go_roundw
    case rel => exact ⟨t + 1, by omega, by go_num, by rw [← S.out]; exact HO.out, hba⟩
    case measure => simp [intOf]; omega
   ·have S := Lib.hid (cntL_row (m := m) hk hrl.out)
    have HK := Lib.hid hk
    clear hk
    go_wp2_with (go_at_call 52; refine (CT.out _).mono ?_; rintro e w' ⟨rfl, rfl⟩; rw [HK.out])
    generalize wr.alloc _ = wa at *
    clear D0 D1 D2 M N hbel
    have HB := Lib.hid hba
    clear hba
    go_loopw [30] (fun i wi => ∃ j : Nat, j ≤ 4 ∧ i = .int .i64 j ∧ OwnInts w.heap.size wi (.slice (some ⟨w.heap.size, 0, none⟩) 12 12) (cntL m infos t j) ∧ Below w.heap.size w wi) (fun i _ => 4 - (intOf i).toNat)
    case atStart => exact ⟨0, by omega, rfl, HO.out, HB.out⟩
    case round =>
     obtain ⟨j, hj, rfl, hOi, hbi⟩ := hrel
     by_cases hjl : j < 4
     ·have W := (hbi.cell (p := ⟨br, offr + j, none⟩) hbr).trans (HW.out j hjl)
      have wb := word_bounds Hok.out hlt hjl
      have CE := Lib.hid (fun W => EntryGet_any (wdAt m t j) W (by omega))
      cases hg : entG (wdAt m t j)
      ·have V := Lib.hid (entV_no hg)
       have E := Lib.hid (cntL_no (infos := infos) (show j < (rowAt m t).length by rw [hrl.out]; exact hjl) hg)
       clear hg
       go_wp2_with (go_at_call 118; refine (CE.out _).mono ?_; rintro e w' ⟨rfl, rfl⟩; rw [V.out])
       go_roundw
       case rel => exact ⟨j + 1, by omega, by go_num, by rw [E.out]; exact hOi, hbi⟩
       case measure => simp [intOf]; omega
      ·have V := Lib.hid (entV_yes hg)
       have hF := entF_lt hg
       have E := Lib.hid (cntL_yes (infos := infos) (show j < (rowAt m t).length by rw [hrl.out]; exact hjl) hg)
       have hcl := cntTo_le (infos := infos) (g := entF (wdAt m t j)) Hok.out (Nat.le_of_lt hlt) hj
       have own1 : wr.ownsRow w.heap.size 3 1 (.slice (some ⟨w.heap.size, 0, none⟩) 12 12) 12 ((cntL m infos t j).map (Value.int .i64)) := by have := hOi; unfold OwnInts at this; rwa [cntL_len] at this
       have C := (own1.cellAt (entF (wdAt m t j)) (by omega)).trans (getElem_ints (xs := cntL m infos t j) (by rw [cntL_len]; exact hF))
       rw [cntL_nth hF] at C
       have Fr := own1.frozenAt (entF (wdAt m t j))
       have S2 := Lib.hid (own1.stored (entF (wdAt m t j)) (.int .i64 ((cntTo m infos t j (entF (wdAt m t j)) : Int) + 1)))
       have e0 : (rowAt m t).getD j 0 = wdAt m t j := rfl
       rw [e0] at E
       clear hg e0 own1 hOi
       generalize entF (wdAt m t j) = f at *
       generalize cntTo m infos t j f = n at *
       go_wp2_with (go_at_call 118; refine (CE.out _).mono ?_; rintro e w' ⟨rfl, rfl⟩; rw [V.out])
       go_roundw
       case rel =>
        refine ⟨j + 1, by omega, by go_num, ?_, below_grown hbi S2.out.2 hg1 hbi.size⟩
        rw [E.out]
        unfold OwnInts
        rw [List.length_set, cntL_len, List.map_set]
        exact S2.out.1
       case measure => simp [intOf]; omega
     ·obtain rfl : j = 4 := by omega
      go_wp2_with fail
      go_roundw
      case rel => exact ⟨t + 1, by omega, by go_num, by rw [← S.out]; exact hOi, hbi⟩
      case measure => simp [intOf]; omega
  ·obtain rfl : t = 12 := by omega
   rw [cntL_end] at hO
   go_wp2_with fail
   go_ret
   exact ⟨_, rfl, hO, hbel⟩
theorem flat_set1 {α : Type} {cs : α → List Value} {sz : Nat} (hs : ∀ x, (cs x).length = sz) {xs : List α} {k j : Nat} {x y : α} {u : Value} (hk : xs[k]? = some x) (hj : j < sz) (hy : cs y = (cs x).set j u) :
 (flat cs xs).set (k * sz + j) u = flat cs (xs.set k y) := by
 have h1 := flat_set hs (List.getElem?_eq_some_iff.1 hk).1 y
 rw [← h1]
 refine List.ext_getElem? fun i => ?_
 obtain ⟨hlt, hx⟩ := List.getElem?_eq_some_iff.1 hk
 have hb : k * sz + sz ≤ xs.length * sz := by rw [← Nat.succ_mul]; exact Nat.mul_le_mul_right _ hlt
 rw [h1, List.getElem?_set, flat_len hs]
 by_cases hi : i < xs.length * sz
 ·have hz : 0 < sz := by omega
  have hkd : i / sz < xs.length := Nat.div_lt_of_lt_mul (by rw [Nat.mul_comm]; exact hi)
  have hmod := Nat.mod_lt i hz
  have hdm : i / sz * sz + i % sz = i := by rw [Nat.mul_comm]; exact Nat.div_add_mod i sz
  have ha : (flat cs xs)[i]? = (cs xs[i / sz])[i % sz]? := by
   have := flat_at hs (List.getElem?_eq_getElem hkd) hmod
   rw [hdm] at this; exact this
  have hb' : (flat cs (xs.set k y))[i]? = (cs ((xs.set k y)[i / sz]'(by rw [List.length_set]; exact hkd)))[i % sz]? := by
   have := flat_at hs (List.getElem?_eq_getElem (l := xs.set k y) (i := i / sz) (by rw [List.length_set]; exact hkd)) hmod
   rw [hdm] at this; exact this
  rw [ha, hb', List.getElem_set]
  by_cases e : k = i / sz
  ·subst e
   rw [if_pos rfl, hy, List.getElem?_set, hx, hs]
   by_cases e2 : j = i % sz
   ·subst e2; rw [if_pos hdm, if_pos (by omega), if_pos rfl, if_pos hmod]
   ·rw [if_neg (by omega), if_neg e2]
  ·rw [if_neg e]
   have : ¬ k * sz + j = i := by
    intro h
    apply e
    rw [← h, Nat.mul_comm, Nat.mul_add_div hz, Nat.div_eq_of_lt hj, Nat.add_zero]
   rw [if_neg this]
 ·rw [List.getElem?_eq_none (by rw [flat_len hs]; omega), List.getElem?_eq_none (by rw [flat_len hs, List.length_set]; omega), if_neg (by omega)]
section
variable {α : Type} {lo e sz : Nat} {cs : α → List Value} {w : World} {g cap k j : Nat} {xs : List α}
theorem OwnF.stored1 (hs : ∀ x, (cs x).length = sz) (h : OwnF lo e sz cs w (.slice (some ⟨g, 0, none⟩) xs.length cap) xs) {x y : α} {u : Value} (hk : xs[k]? = some x) (hj : j < sz) (hy : cs y = (cs x).set j u) :
 OwnF lo e sz cs (w.setCell ⟨g, k * sz + j, none⟩ u) (.slice (some ⟨g, 0, none⟩) xs.length cap) (xs.set k y) ∧ w.grownBy (w.setCell ⟨g, k * sz + j, none⟩ u) (some g) := by
 obtain ⟨h1, h2⟩ := World.ownsRow.stored h (k * sz + j) u
 rw [flat_set1 hs hk hj hy] at h1
 refine ⟨?_, h2⟩
 unfold OwnF
 rw [List.length_set]
 exact h1
end
theorem infoAt_get {l : List InfoV} {k : Nat} (h : k < l.length) : l[k]? = some (infoAt l k) := by simp [infoAt, h]
theorem modAt_info {l : List InfoV} {k : Nat} {f : InfoV → InfoV} : modAt l k f = l.set k (f (infoAt l k)) := modAt_set
theorem refer_take {infos : List InfoV} {r : List Int} {n : Int} {j : Nat} (hj : j < r.length) :
 referP infos (named (r.take (j + 1))) n = if entG (r.getD j 0) then modAt (referP infos (named (r.take j)) n) (entF (r.getD j 0)) (addR n) else referP infos (named (r.take j)) n := by
 rw [named_take hj]
 unfold referP
 rw [List.foldl_append]
 split <;> simp
theorem rightOk_small {s : ByteArray} (h : rightOk s = true) : s.size ≤ 4 := by
 unfold rightOk at h; simp only [Bool.and_eq_true, decide_eq_true_eq] at h; exact h.2
theorem infoOk_small {x : InfoV} (h : infoOk x = true) : x.g.size ≤ maxLen ∧ 0 ≤ x.r ∧ x.r ≤ 50 := by
 unfold infoOk at h
 simp only [Bool.or_eq_true, decide_eq_true_eq, Bool.and_eq_true, inB_iff] at h
 rcases h with rfl | ⟨⟨_, h1⟩, h2⟩
 ·exact ⟨by simp [InfoV.zero, ByteArray.size], by simp [InfoV.zero], by simp [InfoV.zero]⟩
 ·exact ⟨Nat.le_trans (rightOk_small h1) (by decide), h2.1, h2.2⟩
theorem smallI_at {l : List InfoV} (h : ∀ f, f < l.length → (infoAt l f).g.size ≤ maxLen) : SmallI l := by
 intro x hx
 obtain ⟨i, hi, rfl⟩ := List.getElem_of_mem hx
 have := h i hi
 simpa [infoAt, hi] using this
theorem small_infos {l : List InfoV} (h : infosOk l = true) : SmallI l := smallI_at fun f hf => (infoOk_small ((infosOk_iff.1 h).2 f (by have := (infosOk_iff.1 h).1; omega))).1
theorem refer_small {infos : List InfoV} (h : infosOk infos = true) {fs : List Nat} (hfs : fs.length ≤ 4) {n : Int} (hn : n = 1 ∨ n = -1) {g : Nat} (hg : g < 12) :
 -4 ≤ (infoAt (referP infos fs n) g).r ∧ (infoAt (referP infos fs n) g).r ≤ 54 ∧ (infoAt (referP infos fs n) g).g.size ≤ maxLen := by
 obtain ⟨hl, h2⟩ := infosOk_iff.1 h
 obtain ⟨a, b, c⟩ := infoOk_small (h2 g hg)
 rw [refer_at (by omega)]
 have := List.count_le_length (a := g) (l := fs)
 refine ⟨?_, ?_, a⟩
 ·show -4 ≤ _ + n * _
  rcases hn with rfl | rfl <;> omega
 ·show _ + n * _ ≤ 54
  rcases hn with rfl | rfl <;> omega
set_option maxRecDepth 100000 in
set_option maxHeartbeats 4000000 in
theorem refer_any (v iv : Value) (m : List (List Int)) (infos : List InfoV) (f : Nat) (n : Int) (w : World) (h : RdRows w v m) (hok : memOk m = true) (hI : RdInfos w iv infos) (hio : infosOk infos = true) (hf : f < 12) (hn : n = 1 ∨ n = -1) :
 Calls Tryz.prog 272 #[v, iv, .int .i64 (f : Int), .int .i64 n] w fun e w' => ∃ v', e = .returned v' ∧ OwnF w.heap.size 89 3 infoCs w' v' (referP infos (named (rowAt m f)) n) ∧ Below w.heap.size w w' := by
 obtain ⟨q, c, rfl, hc, hcm, H0⟩ := h.open
 have hl := (infosOk_iff.1 hio).1
 have hml := (memOk_iff.1 hok).1
 have CC := Lib.hid (CloneInfo_any iv infos w hI (by omega))
 obtain ⟨ai, ci, rfl, _, _⟩ := hI.shape
 have Hok := Lib.hid hok
 have Hio := Lib.hid hio
 have Hn := Lib.hid hn
 have hnb : -1 ≤ n ∧ n ≤ 1 := by omega
 obtain ⟨bm, offm, br, offr, cr, rfl, hbm, M0, hbr, hcr, W0⟩ := H0.row4 hok hf
 have HW := Lib.hid W0
 have hrl := Lib.hid (rowOk_iff.1 ((memOk_iff.1 hok).2 _ hf)).1
 have fm : (f : Int) < m.length := by omega
 have Hl := Lib.hid hl
 clear h hok H0 W0 hI hio hn hml hl
 go_enter Tryz.func272, Tryz.ntmps272
 go_wp2_with fail
 refine (CC.out).mono ?_; rintro e w1 ⟨v', rfl, hO, hb1⟩
 obtain ⟨g, cap, rfl, c1, c2, q1, q2, hfz⟩ := hO.shapeOwn (by have := Hl.out; omega)
 unfold maxLen at c2
 have M := (hb1.cell (p := ⟨bm, offm + f, none⟩) hbm).trans M0
 have HB1 := Lib.hid hb1
 have HO := Lib.hid hO
 clear hO hb1 M0 hfz
 go_wp2_with fail
 clear M
 go_loopw [22] (fun i wr => ∃ j : Nat, j ≤ 4 ∧ i = .int .i64 j ∧ OwnF w.heap.size 89 3 infoCs wr (.slice (some ⟨g, 0, none⟩) infos.length cap) (referP infos (named ((rowAt m f).take j)) n) ∧ Below w.heap.size w wr) (fun i _ => 4 - (intOf i).toNat)
 case atStart => exact ⟨0, Nat.zero_le _, rfl, by simpa [named, referP] using HO.out, HB1.out⟩
 case round =>
  obtain ⟨j, hj, rfl, hO, hbi⟩ := hrel
  by_cases hjl : j < 4
  ·have W := (hbi.cell (p := ⟨br, offr + j, none⟩) hbr).trans (HW.out j hjl)
   have wb := word_bounds Hok.out hf hjl
   have CE := Lib.hid (fun W => EntryGet_any (wdAt m f j) W (by omega))
   have RT := refer_take (infos := infos) (n := n) (r := rowAt m f) (j := j) (by rw [hrl.out]; exact hjl)
   rw [show (rowAt m f).getD j 0 = wdAt m f j from rfl] at RT
   cases hg : entG (wdAt m f j)
   ·have V := Lib.hid (entV_no hg)
    rw [hg] at RT
    have E := Lib.hid RT
    have HOi := Lib.hid hO
    clear hg RT hO
    go_wp2_with (go_at_call 118; refine (CE.out _).mono ?_; rintro e w' ⟨rfl, rfl⟩; rw [V.out])
    go_roundw
    case rel => exact ⟨j + 1, by omega, by go_num, by rw [E.out]; exact HOi.out, hbi⟩
    case measure => simp [intOf]; omega
   ·have V := Lib.hid (entV_yes hg)
    have hF := entF_lt hg
    rw [hg, if_pos rfl] at RT
    have hfs : (named ((rowAt m f).take j)).length ≤ 4 := by
     have := named_len (r := (rowAt m f).take j)
     rw [List.length_take] at this
     omega
    obtain ⟨r1, r2, _⟩ := refer_small Hio.out hfs Hn.out hF
    have hlr : (referP infos (named ((rowAt m f).take j)) n).length = infos.length := refer_len
    rw [← hlr] at hO
    generalize hX : referP infos (named ((rowAt m f).take j)) n = X at *
    generalize entF (wdAt m f j) = o at *
    have hoX : o < X.length := by rw [hlr, Hl.out]; exact hF
    have hoi : (o : Int) < infos.length := by rw [Hl.out]; omega
    have hoi2 : ((o : Nat) : Int) ≤ infos.length := by omega
    rw [modAt_info] at RT
    obtain ⟨_, _, d2⟩ := OwnF.infoCells hO hoX
    have d2 := d2
    have Fr := World.ownsRow.frozenAt hO (o * 3 + 2)
    have S2 := Lib.hid (OwnF.stored1 infoCs_len hO (infoAt_get hoX) (j := 2) (by decide) (y := addR n (infoAt X o)) (u := .int .i64 ((infoAt X o).r + n)) rfl)
    rw [hlr] at S2
    have E := Lib.hid RT
    have Hlr := Lib.hid hlr
    clear hg RT hO hlr hX
    go_wp2_with (go_at_call 118; refine (CE.out _).mono ?_; rintro e w' ⟨rfl, rfl⟩; rw [V.out])
    go_roundw
    case rel => exact ⟨j + 1, by omega, by go_num, by rw [E.out]; exact S2.out.1, below_grown hbi S2.out.2 q1 hbi.size⟩
    case measure => simp [intOf]; omega
  ·obtain rfl : j = 4 := by omega
   rw [List.take_of_length_le (Nat.le_of_eq hrl.out)] at hO
   go_wp2_with fail
   go_ret
   exact ⟨_, rfl, hO, hbi⟩
end Go.Proofs.YtjacdlekgdnndaaGreatDoor
