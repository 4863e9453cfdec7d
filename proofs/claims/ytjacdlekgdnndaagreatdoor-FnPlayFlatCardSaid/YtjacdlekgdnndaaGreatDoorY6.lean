/-
  Packed: 6 texts.
-/
import Derived.Test.YtjacdlekgdnndaaGreatDoorY2
import Derived.Test.YtjacdlekgdnndaaGreatDoorY5
import Derived.Test.YtjacdlekgdnndaaGreatDoorY3
set_option linter.unusedVariables false
namespace Go.Proofs.YtjacdlekgdnndaaGreatDoor
open Go.RowKit
def slotOf (l : List Oper) (i : Nat) : Option Nat := (l[i]?).bind (·.dst)
def fillSome (l : List Oper) (is : List Nat) (vs : Nat → Value) (b : Array Value) : Array Value := is.foldl (fun b i => match slotOf l i with | some d => b.setIfInBounds d (vs i) | none => b) b
def freeB (l : List Oper) (N : Nat) : Bool :=
 ((List.range l.length).all fun i => (List.range l.length).all fun j => i == j || (slotOf l i).isNone || slotOf l i != slotOf l j) &&
 ((List.range l.length).all fun j => match l[j]? with | some o => o.after.all fun e => !Region.binds .any e || decide (e.on < j) | none => false) &&
 ((List.range l.length).all fun i => match slotOf l i with | some d => decide (d < N) | none => true)
def valAt (l : List Oper) (tmps : Array Value) (i : Nat) : Value := match slotOf l i with | some d => tmps[d]?.getD undef | none => undef
structure FreeInv (l : List Oper) (a0 : Act) (R : (Nat → Bool) → Nat → Value → World → Prop) (G : (Nat → Bool) → World → Prop) (listed : Array Bool) (a : Act) (w : World) : Prop where
 size' : listed.size = l.length
 closed : ∀ j oj, l[j]? = some oj → listed.getD j false = true → ∀ e ∈ oj.after, Region.binds .any e = true → listed.getD e.on false = true
 defers : a.defers = a0.defers
 size : a.tmps.size = a0.tmps.size
 base : ∀ t, (∀ i, i < l.length → slotOf l i ≠ some t) → a.tmps[t]? = a0.tmps[t]?
 post : ∀ i, i < l.length → listed.getD i false = true → R (fun j => listed.getD j false) i (valAt l a.tmps i) w
 glob : G (fun j => listed.getD j false) w
section
variable {P : Program}
theorem valAt_put {l : List Oper} {a : Act} {i j : Nat} {o : Oper} {v : Value} (ho : l[i]? = some o) (hne : slotOf l i = none ∨ slotOf l i ≠ slotOf l j) : valAt l (a.put o.dst v).tmps j = valAt l a.tmps j := by
 have e : slotOf l i = o.dst := by simp [slotOf, ho]
 rw [e] at hne
 unfold valAt
 cases hj : slotOf l j with
 | none => rfl
 | some d =>
  cases hd : o.dst with
  | none => rfl
  | some d' =>
   have : d' ≠ d := by
    rintro rfl
    rcases hne with h | h
    ·rw [hd] at h; cases h
    ·exact h (by rw [hd, hj])
   simp only [Act.put]
   rw [Array.getElem?_setIfInBounds_ne this]
theorem valAt_own {l : List Oper} {a : Act} {i : Nat} {o : Oper} {v : Value} (ho : l[i]? = some o) (hN : ∀ d, slotOf l i = some d → d < a.tmps.size) : valAt l (a.put o.dst v).tmps i = match o.dst with | some _ => v | none => undef := by
 have e : slotOf l i = o.dst := by simp [slotOf, ho]
 unfold valAt
 rw [e]
 cases hd : o.dst with
 | none => rfl
 | some d =>
  have := hN d (by rw [e, hd])
  simp [Act.put, this]
theorem fillSome_eq (l : List Oper) : ∀ (is : List Nat) (b c : Array Value), c.size = b.size → (∀ t, (∀ i, i ∈ is → slotOf l i ≠ some t) → c[t]? = b[t]?) → c = fillSome l is (fun i => valAt l c i) b := by
 intro is
 induction is with
 | nil =>
  intro b c hs h
  exact Array.ext_getElem? fun t => h t (fun i hi => by cases hi)
 | cons i is ih =>
  intro b c hs h
  show c = fillSome l is _ (match slotOf l i with | some d => b.setIfInBounds d (valAt l c i) | none => b)
  cases hd : slotOf l i with
  | none =>
   exact ih b c hs fun t ht => h t fun j hj => by
    rcases List.mem_cons.1 hj with rfl | hj
    ·rw [hd]; exact (fun e => by cases e)
    ·exact ht j hj
  | some d =>
   refine ih _ c (by simpa using hs) fun t ht => ?_
   by_cases hti : d = t
   ·subst hti
    have hv : valAt l c i = c[d]?.getD undef := by unfold valAt; rw [hd]
    show c[d]? = (b.setIfInBounds d (valAt l c i))[d]?
    rw [hv]
    rcases Nat.lt_or_ge d c.size with h' | h'
    ·have : d < b.size := by omega
     simp [h', this]
    ·have : b.size ≤ d := by omega
     simp [h', this]
   ·show c[t]? = (b.setIfInBounds d (valAt l c i))[t]?
    rw [Array.getElem?_setIfInBounds_ne hti]
    exact h t fun j hj => by
     rcases List.mem_cons.1 hj with rfl | hj
     ·rw [hd]; exact fun e => hti (Option.some.inj e)
     ·exact ht j hj
theorem FreeInv.wpAny {l : List Oper} {a0 : Act} {R : (Nat → Bool) → Nat → Value → World → Prop} {G : (Nat → Bool) → World → Prop} {Q : Exit → Act → World → Prop}
 (hB : freeB l a0.tmps.size = true)
 (hstep : ∀ i, i < l.length → ∀ o, l[i]? = some o → ∀ a w, a.defers = a0.defers → a.tmps.size = a0.tmps.size → (∀ t, (∀ i, i < l.length → slotOf l i ≠ some t) → a.tmps[t]? = a0.tmps[t]?) →
  ∀ L : Nat → Bool, (∀ j, j < l.length → L j = true → R L j (valAt l a.tmps j) w) → L i = false → (∀ j, Region.waitsFor .any l.toArray i j = true → L j = true) → (∀ j j', L j = true → Region.waitsFor .any l.toArray j j' = true → L j' = true) → G L w →
  ∀ K : Act → World → Prop, (∀ v w', R (upd L i) i (match o.dst with | some _ => v | none => undef) w' → G (upd L i) w' → (∀ j, j ≠ i → j < l.length → L j = true → R L j (valAt l a.tmps j) w → R (upd L i) j (valAt l a.tmps j) w') → K (a.put o.dst v) w') → Does P l o a w K Q)
 (htail : ∀ a w, a.defers = a0.defers → a.tmps.size = a0.tmps.size → (∀ t, (∀ i, i < l.length → slotOf l i ≠ some t) → a.tmps[t]? = a0.tmps[t]?) →
  ∀ L : Nat → Bool, (∀ i, i < l.length → L i = true) → (∀ i, i < l.length → R L i (valAt l a.tmps i) w) → G L w → Q .normal a w) :
 ∀ (f : Nat) (listed : Array Bool) (a : Act) (w : World), f = ((List.range l.length).filter fun i => !listed.getD i false).length → FreeInv l a0 R G listed a w → Go.wpAny P .any l.toArray Q f listed a w := by
 simp only [freeB, Bool.and_eq_true] at hB
 obtain ⟨⟨hdis, hback⟩, hin⟩ := hB
 have hne : ∀ i j, i < l.length → j < l.length → i ≠ j → slotOf l i = none ∨ slotOf l i ≠ slotOf l j := by
  intro i j hi hj hij
  have := List.all_eq_true.1 (List.all_eq_true.1 hdis i (List.mem_range.2 hi)) j (List.mem_range.2 hj)
  simp only [Bool.or_eq_true, beq_iff_eq, hij, false_or, bne_iff_ne, Option.isNone_iff_eq_none] at this
  exact this
 have hN : ∀ i, i < l.length → ∀ d, slotOf l i = some d → d < a0.tmps.size := by
  intro i hi d hd
  have := List.all_eq_true.1 hin i (List.mem_range.2 hi)
  rw [hd] at this
  simpa using this
 have done : ∀ (listed : Array Bool) (a : Act) (w : World), (∀ i, i < l.length → listed.getD i false = true) → FreeInv l a0 R G listed a w → Q .normal a w := fun listed a w hall inv =>
  htail a w inv.defers inv.size inv.base _ hall (fun i hi => inv.post i hi (hall i hi)) inv.glob
 have stuck : ∀ (listed : Array Bool), listed.size = l.length → Region.ready .any l.toArray listed = [] → ∀ i, i < l.length → listed.getD i false = true := by
  intro listed hsz hr
  have : ∀ k, ∀ i, i < k → i < l.length → listed.getD i false = true := by
   intro k
   induction k with
   | zero => intro i hi; omega
   | succ k ihk =>
    intro i hik hin'
    cases hx : listed.getD i false with
    | true => rfl
    | false =>
     exfalso
     have hun : listed.getD i true = false := getD_in (by omega) hx
     have ho : l[i]? = some l[i] := List.getElem?_eq_getElem hin'
     have hnr : i ∉ Region.ready .any l.toArray listed := by rw [hr]; simp
     apply hnr
     rw [mem_ready]
     refine ⟨hun, l[i], by simp, fun e he hb => ?_⟩
     have hlt : e.on < i := by
      have := List.all_eq_true.1 hback i (List.mem_range.2 hin')
      rw [ho] at this
      simpa [hb] using Array.all_eq_true'.1 this e he
     exact ihk e.on (by omega) (by omega)
  exact fun i hi => this l.length i hi hi
 intro f
 induction f with
 | zero =>
  intro listed a w hf inv
  have hall : ∀ i, i < l.length → listed.getD i false = true := by
   intro i hi
   cases hx : listed.getD i false with
   | true => rfl
   | false =>
    exfalso
    have : i ∈ (List.range l.length).filter fun i => !listed.getD i false := List.mem_filter.2 ⟨List.mem_range.2 hi, by simp [hx]⟩
    have := List.length_pos_of_mem this
    omega
  refine ⟨?_, done listed a w hall inv⟩
  rw [List.eq_nil_iff_forall_not_mem]
  intro i hi
  obtain ⟨hun, o, ho, _⟩ := mem_ready.1 hi
  have hil : i < l.length := by
   have := (Array.getElem?_eq_some_iff.1 ho).1
   simpa using this
  have := getD_both hun
  rw [hall i hil] at this
  cases this
 | succ f ih =>
  intro listed a w hf inv
  refine ⟨fun hr => done listed a w (stuck listed inv.size' hr) inv, fun i hi => ?_⟩
  obtain ⟨hun, o, ho', hdep⟩ := mem_ready.1 hi
  have ho : l[i]? = some o := by simpa using ho'
  have hil : i < l.length := (List.getElem?_eq_some_iff.1 ho).1
  have hunf := getD_both hun
  unfold Go.wpOp
  rw [ho']
  have hlis : ∀ j, Region.waitsFor .any l.toArray i j = true → listed.getD j false = true := by
   intro j hj
   obtain ⟨oj, hoj, e, he, hb, rfl⟩ := Region.waitsFor_spec hj
   obtain rfl : oj = o := Option.some.inj (hoj.symm.trans ho')
   exact hdep e he hb
  have hclo : ∀ j j', listed.getD j false = true → Region.waitsFor .any l.toArray j j' = true → listed.getD j' false = true := by
   intro j j' hj hw
   obtain ⟨oj, hoj, e, he, hb, rfl⟩ := Region.waitsFor_spec hw
   exact inv.closed j oj (by simpa using hoj) hj e he hb
  have eL : (fun j => (listed.setIfInBounds i true).getD j false) = upd (fun j => listed.getD j false) i := by
   have hsz := inv.size'
   funext j
   unfold upd
   by_cases hji : j = i
   ·subst hji
    rw [if_pos rfl, getD_set_self (by omega)]
   ·rw [if_neg hji, getD_set_ne false (Ne.symm hji)]
  have hK := hstep i hil o ho a w inv.defers inv.size inv.base (fun j => listed.getD j false) (fun j hj hjl => inv.post j hj hjl) hunf hlis hclo inv.glob (Go.wpAny P .any l.toArray Q f (listed.setIfInBounds i true)) (fun v w' hR hG' hkeep => by
   have hcount : f = ((List.range l.length).filter fun k => !(listed.setIfInBounds i true).getD k false).length := by
    have hmem : i ∈ (List.range l.length).filter fun k => !listed.getD k false := by
     rw [List.mem_filter]
     exact ⟨List.mem_range.2 hil, by rw [hunf]; rfl⟩
    have hnd : ((List.range l.length).filter fun k => !listed.getD k false).Nodup := List.nodup_range.filter _
    have he : ((List.range l.length).filter fun k => !(listed.setIfInBounds i true).getD k false) = ((List.range l.length).filter fun k => !listed.getD k false).erase i := by
     rw [hnd.erase_eq_filter, List.filter_filter]
     refine List.filter_congr fun k hk => ?_
     have hsz := inv.size'
     by_cases hki : k = i
     ·subst hki
      simp [getD_set_self (show k < listed.size by omega)]
     ·rw [getD_set_ne false (Ne.symm hki)]
      simp [hki]
    rw [he, List.length_erase_of_mem hmem]
    have := List.length_pos_of_mem hmem
    omega
   refine ih _ _ _ hcount ⟨by simpa using inv.size', ?_, ?_, ?_, ?_, ?_, ?_⟩
   ·intro j oj hoj hj e he hb
    by_cases hji : j = i
    ·subst hji
     obtain rfl : oj = o := Option.some.inj (hoj.symm.trans ho)
     have := hdep e he hb
     by_cases h2 : e.on = j
     ·rw [h2] at this; rw [this] at hunf; cases hunf
     ·rw [getD_set_ne false (Ne.symm h2)]; exact this
    ·rw [getD_set_ne false (Ne.symm hji)] at hj
     have := inv.closed j oj hoj hj e he hb
     by_cases h2 : e.on = i
     ·have hsz := inv.size'
      rw [h2, getD_set_self (by omega)]
     ·rw [getD_set_ne false (Ne.symm h2)]; exact this
   ·cases hd : o.dst <;> simpa [Act.put] using inv.defers
   ·cases hd : o.dst <;> simpa [Act.put] using inv.size
   ·intro t ht
    rw [← inv.base t ht]
    cases hd : o.dst with
    | none => rfl
    | some d =>
     have : d ≠ t := fun e => ht i hil (by simp [slotOf, ho, hd, e])
     simp only [Act.put]
     rw [Array.getElem?_setIfInBounds_ne this]
   ·intro j hj hjl
    rw [eL]
    by_cases hji : j = i
    ·subst hji
     rw [valAt_own ho (fun d hd => by rw [inv.size]; exact hN j hj d hd)]
     exact hR
    ·have hjl' : listed.getD j false = true := by rwa [getD_set_ne false (Ne.symm hji)] at hjl
     rw [valAt_put ho (hne i j hil hj (Ne.symm hji))]
     exact hkeep j hji hj hjl' (inv.post j hj hjl')
   ·rw [eL]; exact hG')
  cases hwt : Region.wanted o (yielded l.toArray a.tmps) with
  | true => dsimp only; rw [hwt, if_pos rfl]; exact .inl (hK.1 hwt)
  | false => dsimp only; rw [hwt, if_neg Bool.false_ne_true]; exact hK.2 hwt
theorem wp_region_free {id : Nat} {Q : Exit → Act → World → Prop} {a0 : Act} {w0 : World} {l : List Oper} (n : Nat) (hm : P.follows .mixedOrders = true)
 (N : Nat) (hN : a0.tmps.size = N) (hB : freeB l N = true) (hn : l.length = n) (S : Nat → Bool) (R : (Nat → Bool) → Nat → Value → World → Prop) (G : (Nat → Bool) → World → Prop)
 (hG : G (fun _ => false) { w0 with drawn := w0.drawn + 1 })
 (hmono : ∀ j, j < n → ∀ L i v w w', i < n → S i = false → L i = false → L j = true → Below w.heap.size w w' → R L j v w → R (upd L i) j v w')
 (hgrow : ∀ L i w w', i < n → S i = false → L i = false → Below w.heap.size w w' → G L w → G (upd L i) w')
 (hstep : ∀ i, i < n → S i = false → ∀ o, l[i]? = some o → ∀ a w, Hid (a.defers = a0.defers ∧ a.tmps.size = a0.tmps.size ∧ ∀ t, (∀ i, i < n → slotOf l i ≠ some t) → a.tmps[t]? = a0.tmps[t]?) →
  ∀ L : Nat → Bool, Hid (∀ j, L j = true → j < n → R L j (valAt l a.tmps j) w) → Hid (L i = false ∧ (∀ j, Region.waitsFor .any l.toArray i j = true → L j = true) ∧ ∀ j j', L j = true → Region.waitsFor .any l.toArray j j' = true → L j' = true) → G L w →
  ∀ K : Act → World → Prop, Hid (∀ v w', R (upd L i) i (match o.dst with | some _ => v | none => undef) w' → Below w.heap.size w w' → K (a.put o.dst v) w') → Does P l o a w K Q)
 (hspec : ∀ i, i < n → S i = true → ∀ o, l[i]? = some o → ∀ a w, Hid (a.defers = a0.defers ∧ a.tmps.size = a0.tmps.size ∧ ∀ t, (∀ i, i < n → slotOf l i ≠ some t) → a.tmps[t]? = a0.tmps[t]?) →
  ∀ L : Nat → Bool, Hid (∀ j, L j = true → j < n → R L j (valAt l a.tmps j) w) → Hid (L i = false ∧ (∀ j, Region.waitsFor .any l.toArray i j = true → L j = true) ∧ ∀ j j', L j = true → Region.waitsFor .any l.toArray j j' = true → L j' = true) → G L w →
  ∀ K : Act → World → Prop, Hid (∀ v w', R (upd L i) i (match o.dst with | some _ => v | none => undef) w' → G (upd L i) w' → (∀ j, j ≠ i → j < n → L j = true → R L j (valAt l a.tmps j) w → R (upd L i) j (valAt l a.tmps j) w') → K (a.put o.dst v) w') → Does P l o a w K Q)
 (htail : ∀ (vs : Nat → Value) w, ∀ L : Nat → Bool, (∀ i, i < n → L i = true) → (∀ i, i < n → R L i (vs i) w) → G L w → wpList P l.toArray Q [] { a0 with tmps := fillSome l (List.range n) vs a0.tmps } w) :
 (Code.region id l.toArray true).wp P Q a0 w0 := by
 subst hn
 refine wp_region_any hm ?_
 refine FreeInv.wpAny (a0 := a0) (R := R) (G := G) (by rw [hN]; exact hB) (fun i hi o ho a w h1 h2 h3 L h4 h6 h7 h8 h5 K hK => ?_) (fun a w h1 h2 h3 L h6 h4 h5 => ?_) _ _ _ _ ?_ ⟨by simp, fun j oj _ hl => (by rw [getD_replicate_false] at hl; cases hl), rfl, rfl, fun _ _ => rfl, fun i _ hl => (by rw [getD_replicate_false] at hl; cases hl), (show G (fun j => (Array.replicate l.toArray.size false).getD j false) _ from (funext fun j => getD_replicate_false _ _ : (fun j => (Array.replicate l.toArray.size false).getD j false) = fun _ => false) ▸ hG)⟩
 ·cases hS : S i with
  | false =>
   exact hstep i hi hS o ho a w (Lib.hid ⟨h1, h2, h3⟩) L (Lib.hid fun j hj hjn => h4 j hjn hj) (Lib.hid ⟨h6, h7, h8⟩) h5 K (Lib.hid fun v w' hR hb => hK v w' hR (hgrow L i w w' hi hS h6 hb h5) (fun j hji hjn hjl hu => hmono j hjn L i _ w w' hi hS h6 hjl hb hu))
  | true =>
   exact hspec i hi hS o ho a w (Lib.hid ⟨h1, h2, h3⟩) L (Lib.hid fun j hj hjn => h4 j hjn hj) (Lib.hid ⟨h6, h7, h8⟩) h5 K (Lib.hid hK)
 ·have e := fillSome_eq l (List.range l.length) a0.tmps a.tmps h2 (fun t ht => h3 t fun i hi => ht i (List.mem_range.2 hi))
  have := htail (fun i => valAt l a.tmps i) w L h6 h4 h5
  rw [← e] at this
  obtain ⟨tm, df⟩ := a
  dsimp only at h1 this
  subst h1
  exact this
 ·have : ((List.range l.length).filter fun i => !(Array.replicate l.toArray.size false).getD i false) = List.range l.length := by
   rw [List.filter_eq_self]
   intro i _
   rw [getD_replicate_false]
   rfl
  rw [this]
  simp
end
theorem blk_grown {w w1 : World} {b g : Nat} {o : Obj} (h : w.heap[b]? = some o) (hg : w.grownBy w1 (some g)) (hne : g ≠ b) : w1.heap[b]? = some o :=
 (hg.block b (blk_lt h) (fun e => hne (Option.some.inj e).symm)).trans h
theorem blk_ne {w : World} {b g T T' : Nat} {c c' : Array Value} (h : w.heap[b]? = some (.cells c T (0, 0))) (h' : w.heap[g]? = some (.cells c' T' (0, 0))) (hT : T ≠ T') : b ≠ g := fun e => by
 subst e
 rw [h] at h'
 simp at h'
 exact hT h'.2
structure CS (lo g b0 : Nat) (call : CallV) (w W : World) (m i e c : Value) (k : KernV) : Prop where
 ink : InK lo W g m i e c k
 blk : W.heap[b0]? = some (.cells (call.onCells g) 150 (0, 0))
 bel : Below lo w W
 lo : lo ≤ W.heap.size
section
variable {lo g b0 : Nat} {call : CallV} {w W W' : World} {m i e c : Value} {k : KernV}
theorem CS.start (h : InK lo w g m i e c k) (hlo : lo ≤ w.heap.size) (call : CallV) : CS lo g w.heap.size call w (w.alloc (.cells (call.onCells g) 150)) m i e c k :=
 ⟨h.below (below1 _ _), heap_alloc_new _ _, (below1 _ _).mono hlo, Nat.le_trans hlo (below1 _ _).size⟩
theorem CS.below (h : CS lo g b0 call w W m i e c k) (hb : Below W.heap.size W W') : CS lo g b0 call w W' m i e c k :=
 ⟨h.ink.below hb, blk_below h.blk hb, h.bel.trans (hb.mono h.lo), Nat.le_trans h.lo hb.size⟩
theorem CS.ys (h : CS lo g b0 call w W m i e c k) : W.cell? ⟨b0, 0, none⟩ = some (.pointer (some ⟨g, 0, none⟩)) ∧ W.cell? ⟨b0, 1, none⟩ = some (.int .i64 call.k) ∧ W.cell? ⟨b0, 2, none⟩ = some (.int .i64 call.e) ∧ W.cell? ⟨b0, 3, none⟩ = some (.int .i64 call.a) ∧ W.cell? ⟨b0, 4, none⟩ = some (.int .i64 call.b) ∧ W.cell? ⟨b0, 5, none⟩ = some (.int .i64 call.c) ∧ W.cell? ⟨b0, 6, none⟩ = some (.string call.nm) := on_cells h.blk
theorem CS.xs (h : CS lo g b0 call w W m i e c k) : W.cell? ⟨g, 0, none⟩ = some m ∧ W.cell? ⟨g, 1, none⟩ = some i ∧ W.cell? ⟨g, 2, none⟩ = some e ∧ W.cell? ⟨g, 3, none⟩ = some c := h.ink.cells
theorem CS.lts (h : CS lo g b0 call w W m i e c k) : b0 < W.heap.size ∧ g < W.heap.size ∧ g ≠ b0 ∧ b0 ≠ g := ⟨blk_lt h.blk, blk_lt h.ink.1, blk_ne h.ink.1 h.blk (by decide), (blk_ne h.ink.1 h.blk (by decide)).symm⟩
theorem CS.row_ne (h : CS lo g b0 call w W m i e c k) {lo' T sz n : Nat} {v : Value} {xs : List Value} (o : W.ownsRow lo' T sz v n xs) {b : Nat} (hb : v.ownBlock = some b) (h1 : T ≠ 33) (h2 : T ≠ 150) : (b ≠ g ∧ g ≠ b) ∧ b ≠ b0 ∧ b0 ≠ b := by
 obtain ⟨cur, hc⟩ := own_type o b hb
 have a1 := blk_ne hc h.ink.1 h1
 have a2 := blk_ne hc h.blk h2
 exact ⟨⟨a1, a1.symm⟩, a2, a2.symm⟩
theorem CS.infos (h : CS lo g b0 call w W m i e c k) (hl : 0 < k.infos.length) : ∃ gi cap, i = .slice (some ⟨gi, 0, none⟩) k.infos.length cap ∧ gi < W.heap.size ∧ lo ≤ gi ∧ ((gi ≠ g ∧ g ≠ gi) ∧ gi ≠ b0 ∧ b0 ≠ gi) ∧ ∀ q, W.frozen? ⟨gi, q, none⟩ = false := by
 obtain ⟨gi, cap, e1, h1, h2, _, _, _, hz⟩ := h.ink.infoAt' hl
 refine ⟨gi, cap, e1, h1, h2, h.row_ne h.ink.2.2.2.1 (by rw [e1]; rfl) (by decide) (by decide), hz⟩
theorem CS.envs (h : CS lo g b0 call w W m i e c k) (hl : 0 < k.envs.length) : ∃ ge cap, e = .slice (some ⟨ge, 0, none⟩) k.envs.length cap ∧ ge < W.heap.size ∧ ((ge ≠ g ∧ g ≠ ge) ∧ ge ≠ b0 ∧ b0 ≠ ge) ∧ ∀ q, W.frozen? ⟨ge, q, none⟩ = false := by
 obtain ⟨ge, cap, _, _, e1, h1, _, _, _, hz⟩ := h.ink.env hl
 obtain ⟨ps, o⟩ := h.ink.2.2.2.2.1
 exact ⟨ge, cap, e1, h1, h.row_ne o.1 (by rw [e1]; rfl) (by decide) (by decide), hz⟩
theorem CS.infos_envs {gi ge n n' cap cap' : Nat} (h : CS lo g b0 call w W m (.slice (some ⟨gi, 0, none⟩) n cap) (.slice (some ⟨ge, 0, none⟩) n' cap') c k) : gi ≠ ge ∧ ge ≠ gi := by
 obtain ⟨ps, o⟩ := h.ink.2.2.2.2.1
 obtain ⟨c1, h1⟩ := own_type o.1 ge rfl
 obtain ⟨c2, h2⟩ := own_type h.ink.2.2.2.1 gi rfl
 have := blk_ne h2 h1 (by decide)
 exact ⟨this, this.symm⟩
theorem CS.info {gi n cap : Nat} (h : CS lo g b0 call w W m (.slice (some ⟨gi, 0, none⟩) n cap) e c k) (hn : n = k.infos.length) {f : Nat} (hf : f < k.infos.length) (r : Int) :
 CS lo g b0 call w (W.setCell ⟨gi, f * 3 + 2, none⟩ (.int .i64 ((infoAt k.infos f).r + r))) m (.slice (some ⟨gi, 0, none⟩) n cap) e c { k with infos := modAt k.infos f (addR r) } := by
 have T := h.ink.info hn (infoAt_get hf) (j := 2) (by decide) (y := addR r (infoAt k.infos f)) (u := .int .i64 ((infoAt k.infos f).r + r)) rfl
 rw [← modAt_info] at T
 obtain ⟨c2, h2⟩ := own_type h.ink.2.2.2.1 gi rfl
 exact ⟨T.1, blk_grown h.blk T.2.1 (blk_ne h2 h.blk (by decide)), below_grown h.bel T.2.1 T.2.2 h.lo, Nat.le_trans h.lo T.2.1.size⟩
theorem CS.root {ge n cap : Nat} (h : CS lo g b0 call w W m i (.slice (some ⟨ge, 0, none⟩) n cap) c k) (hn : n = k.envs.length) {j : Nat} (hj : j < k.envs.length) (r : Int) :
 CS lo g b0 call w (W.setCell ⟨ge, j * 2 + 1, none⟩ (.int .i64 r)) m i (.slice (some ⟨ge, 0, none⟩) n cap) c { k with envs := modAt k.envs j (setRoot r) } := by
 have T := h.ink.root hn hj r
 obtain ⟨ps, o⟩ := h.ink.2.2.2.2.1
 obtain ⟨c2, h2⟩ := own_type o.1 ge rfl
 exact ⟨T.1, blk_grown h.blk T.2.1 (blk_ne h2 h.blk (by decide)), below_grown h.bel T.2.1 T.2.2 h.lo, Nat.le_trans h.lo T.2.1.size⟩
theorem CS.cache (h : CS lo g b0 call w W m i e c k) (hb : Below W.heap.size W W') {c' : Value} {xs : List CachedV} (h2 : OwnF W.heap.size 94 4 cachedCs W' c' xs) : CS lo g b0 call w (W'.setCell ⟨g, 3, none⟩ c') m i e c' { k with cache := xs } := by
 have h' := h.below hb
 exact ⟨h.ink.cache h.lo hb h2, blk_grown h'.blk (grown_set W' g 3 c') h.lts.2.2.1, h'.bel.setCell h.ink.2.1 _, by simpa using h'.lo⟩
theorem CS.newInfos (h : CS lo g b0 call w W m i e c k) (hb : Below W.heap.size W W') {i' : Value} {xs : List InfoV} (h2 : OwnF W.heap.size 89 3 infoCs W' i' xs) : CS lo g b0 call w (W'.setCell ⟨g, 1, none⟩ i') m i' e c { k with infos := xs } := by
 have h' := h.below hb
 exact ⟨h.ink.infos h.lo hb h2, blk_grown h'.blk (grown_set W' g 1 i') h.lts.2.2.1, h'.bel.setCell h.ink.2.1 _, by simpa using h'.lo⟩
theorem CS.fzi {gi n cap : Nat} (h : CS lo g b0 call w W m (.slice (some ⟨gi, 0, none⟩) n cap) e c k) (q : Nat) : W.frozen? ⟨gi, q, none⟩ = false := by
 obtain ⟨cur, hc⟩ := own_type h.ink.2.2.2.1 gi rfl
 exact blk_frozen hc q
theorem CS.fze {ge n cap : Nat} (h : CS lo g b0 call w W m i (.slice (some ⟨ge, 0, none⟩) n cap) c k) (q : Nat) : W.frozen? ⟨ge, q, none⟩ = false := by
 obtain ⟨ps, o⟩ := h.ink.2.2.2.2.1
 obtain ⟨cur, hc⟩ := own_type o.1 ge rfl
 exact blk_frozen hc q
theorem CS.ge_lt {ge n cap : Nat} (h : CS lo g b0 call w W m i (.slice (some ⟨ge, 0, none⟩) n cap) c k) : ge < W.heap.size := by
 obtain ⟨ps, o⟩ := h.ink.2.2.2.2.1
 exact (World.ownsRow.lt o.1 ge rfl).2
theorem CS.gi_lt {gi n cap : Nat} (h : CS lo g b0 call w W m (.slice (some ⟨gi, 0, none⟩) n cap) e c k) : gi < W.heap.size := (World.ownsRow.lt h.ink.2.2.2.1 gi rfl).2
theorem CS.env {ge n cap : Nat} (h : CS lo g b0 call w W m i (.slice (some ⟨ge, 0, none⟩) n cap) c k) {j : Nat} (hj : j < k.envs.length) :
 ∃ ua uc, W.cell? ⟨ge, j * 2, none⟩ = some (.slice ua (envAt k.envs j).rights.length uc) ∧ W.cell? ⟨ge, j * 2 + 1, none⟩ = some (.int .i64 (envAt k.envs j).root) ∧ RdStrs W (.slice ua (envAt k.envs j).rights.length uc) (envAt k.envs j).rights := by
 obtain ⟨ge', cap', ua, uc, e1, _, d0, d1, R, _⟩ := h.ink.env hj
 cases e1
 exact ⟨ua, uc, d0, d1, R⟩
theorem CS.infoAt {gi n cap : Nat} (h : CS lo g b0 call w W m (.slice (some ⟨gi, 0, none⟩) n cap) e c k) {f : Nat} (hf : f < k.infos.length) :
 W.cell? ⟨gi, f * 3, none⟩ = some (.int .i64 (infoAt k.infos f).k) ∧ W.cell? ⟨gi, f * 3 + 1, none⟩ = some (.string (infoAt k.infos f).g) ∧ W.cell? ⟨gi, f * 3 + 2, none⟩ = some (.int .i64 (infoAt k.infos f).r) := by
 obtain ⟨gi', cap', e1, _, _, d0, d1, d2, _⟩ := h.ink.infoAt' hf
 cases e1
 exact ⟨d0, d1, d2⟩
theorem CS.mems (h : CS lo g b0 call w W m i e c k) (hok : memOk k.mem = true) : ∃ gm cap, m = .slice (some ⟨gm, 0, none⟩) 12 cap ∧ gm < W.heap.size ∧ (gm ≠ g ∧ g ≠ gm) ∧ gm ≠ b0 ∧ b0 ≠ gm := by
 obtain ⟨gm, cap, _, _, _, e1, h1, h2, _⟩ := h.ink.memRow hok (f := 0) (by omega)
 obtain ⟨vs, o⟩ := h.ink.2.2.1
 exact ⟨gm, cap, e1, h1, h.row_ne o.1 (by rw [e1]; rfl) (by decide) (by decide)⟩
theorem CS.mrow {gm n cap : Nat} (h : CS lo g b0 call w W (.slice (some ⟨gm, 0, none⟩) n cap) i e c k) (hok : memOk k.mem = true) {f : Nat} (hf : f < 12) :
 ∃ gw capw, W.cell? ⟨gm, f, none⟩ = some (.slice (some ⟨gw, 0, none⟩) 4 capw) ∧ gw < W.heap.size ∧ 4 ≤ capw ∧ (∀ j, j < 4 → W.cell? ⟨gw, j, none⟩ = some (.int .i64 (wdAt k.mem f j))) ∧ (∀ q, W.frozen? ⟨gw, q, none⟩ = false) ∧ ((gw ≠ g ∧ g ≠ gw) ∧ gw ≠ b0 ∧ b0 ≠ gw) ∧ (gw ≠ gm ∧ gm ≠ gw) ∧ (∀ b cu T, W.heap[b]? = some (.cells cu T (0, 0)) → T ≠ 3 → gw ≠ b) ∧
  ∀ j v, j < 4 → CS lo g b0 call w (W.setCell ⟨gw, j, none⟩ (.int .i64 v)) (.slice (some ⟨gm, 0, none⟩) n cap) i e c { k with mem := setWd k.mem f j v } := by
 obtain ⟨gm', cap', gw, capw, vs, e1, _, _, hc, hl, hlo, h1, h2, o, hu, hx⟩ := h.ink.memRow hok hf
 cases e1
 have h4 := (rowOk_iff.1 ((memOk_iff.1 hok).2 f hf)).1
 have hx4 : W.ownsRow lo 3 1 (.slice (some ⟨gw, 0, none⟩) 4 capw) 4 ((rowAt k.mem f).map (Value.int .i64)) := by have := hx; unfold OwnInts at this; rwa [h4] at this
 have hc4 : 4 ≤ capw := by
  obtain ⟨_, _, hv, hcc, _⟩ := RdInts.open (OwnInts.rd hx)
  simp only [Value.slice.injEq] at hv
  obtain ⟨_, _, rfl⟩ := hv
  omega
 obtain ⟨cur, hcur⟩ := own_type hx4 gw rfl
 refine ⟨gw, capw, hc, hl, hc4, fun j hj => ?_, fun q => World.ownsRow.frozenAt hx4 q, h.row_ne hx4 rfl (by decide) (by decide), ⟨h2, h2.symm⟩, fun b cu T hb hT => blk_ne hcur hb (Ne.symm hT), fun j v hj => ?_⟩
 ·have := World.ownsRow.cellAt hx4 j hj
  rw [this, List.getElem?_map]
  unfold wdAt
  rw [getD_lt (d := 0) (by omega)]
  rfl
 ·have S := World.ownsRow.stored hx4 j (.int .i64 v)
  have hO : OwnInts lo (W.setCell ⟨gw, j, none⟩ (.int .i64 v)) (.slice (some ⟨gw, 0, none⟩) 4 capw) ((rowAt k.mem f).set j v) := by
   unfold OwnInts
   rw [List.length_set, h4, List.map_set]
   exact S.1
  have T := h.ink.row o (by rw [(memOk_iff.1 hok).1]; exact hf) hu hO S.2
  rw [← setWd_eq] at T
  exact ⟨T, blk_grown h.blk S.2 (blk_ne hcur h.blk (by decide)), below_grown h.bel S.2 hlo h.lo, Nat.le_trans h.lo S.2.size⟩
end
def CSor (W : World) (lo g b0 : Nat) (call : CallV) (w : World) (m i e : Value) (k : KernV) (b : Bool) (ww : World) : Prop := match b with
 | false => Below W.heap.size W ww
 | true => ∃ c', CS lo g b0 call w ww m i e c' k
theorem CSor.grow {W : World} {lo g b0 : Nat} {call : CallV} {w : World} {m i e : Value} {k : KernV} {b : Bool} {ww ww' : World} (h : CSor W lo g b0 call w m i e k b ww) (hb : Below ww.heap.size ww ww') : CSor W lo g b0 call w m i e k b ww' := by
 cases b
 ·exact Below.trans h (hb.mono h.size)
 ·obtain ⟨c', h⟩ := h
  exact ⟨c', h.below hb⟩
theorem own_keep {α : Type} {lo e sz : Nat} {cs : α → List Value} {w : World} {v u : Value} {xs : List α} {g j : Nat} (h : OwnF lo e sz cs w v xs) (hg : g < lo) : OwnF lo e sz cs (w.setCell ⟨g, j, none⟩ u) v xs :=
 OwnF.grown h (grown_set w g j u) (by
  rcases hv : v.ownBlock with _ | b
  ·exact .inl rfl
  ·refine .inr fun e => ?_
   cases e
   have := (World.ownsRow.lt h g hv).1
   omega)
theorem upd_of {L : Nat → Bool} {i j : Nat} (h : i ≠ j) : upd L i j = L j := if_neg (fun e => h e.symm)
theorem upd_at {L : Nat → Bool} {i : Nat} : upd L i i = true := if_pos rfl
theorem CS.callEnv {lo g b0 : Nat} {call : CallV} {w W : World} {m i c : Value} {k : KernV} {ge n cap en : Nat} (h : CS lo g b0 call w W m i (.slice (some ⟨ge, 0, none⟩) n cap) c k) (he : call.e = (en : Int)) (hn : en < n) (W' : World) (hb : Below W.heap.size W W') :
 Calls Tryz.prog 222 #[call.on g] W' fun e w' => e = .returned (.pointer (some ⟨ge, en * 2, none⟩)) ∧ Below W'.heap.size W' w' := env_any g ge n cap en call W' (h.below hb).xs.2.2.1 he hn
def unrooted (infos : List InfoV) (old : Int) : List InfoV := if 0 ≤ old then modAt infos old.toNat (addR (-1)) else infos
def rerooted (infos : List InfoV) (new : Int) : List InfoV := if 0 ≤ new then modAt infos new.toNat (addR 1) else infos
theorem rootP_eq {k : KernV} {c : CallV} : rootP k c =
 if c.a ≠ -1 ∧ (inB c.a 0 11 = false ∨ (infoAt k.infos c.a.toNat).k ≠ 3) then (k, 0, 3)
 else if allowedP k.infos (reachL k.mem c.a) (envAt k.envs c.e.toNat).rights = false then (k, 0, 1)
 else ({ k with infos := rerooted (unrooted k.infos (envAt k.envs c.e.toNat).root) c.a, envs := modAt k.envs c.e.toNat (setRoot c.a), cache := dropC k.cache c.e }, 0, 0) := rfl
set_option maxRecDepth 100000 in
set_option maxHeartbeats 4000000 in
theorem rootC_any {lo g : Nat} {w : World} {m i e c : Value} {k : KernV} (h : InK lo w g m i e c k) (hlo : lo ≤ w.heap.size) (hK : KOk k) (call : CallV) (he : 0 ≤ call.e) (hn : call.e < 3) :
 Calls Tryz.prog 177 #[call.on g] w (Ends1 lo g w (rootP k call)) := by
 have N := heap_alloc_new w (.cells (call.onCells g) 150)
 have hb0 := below1 w (.cells (call.onCells g) 150)
 have S0 := CS.start h hlo call
 have C0 := Lib.hid (fun W (_ : Below w.heap.size w W) => same_below (isFrame_any call.a W))
 have HPx := Lib.hid (rootP_eq (k := k) (c := call))
 obtain ⟨k1, e1, a1, b1, c1, nm⟩ := call
 obtain ⟨en, rfl⟩ : ∃ n : Nat, e1 = (n : Int) := ⟨e1.toNat, by simp only at he; omega⟩
 have hen : en < 3 := by simp only at hn; omega
 simp only [CallV.on, CallV.onCells] at N hb0 C0 HPx S0 ⊢
 simp only [Int.toNat_natCast] at HPx
 obtain ⟨y0, y1, y2, y3, y4, y5, y6⟩ := on_cells (c := ⟨k1, (en : Int), a1, b1, c1, nm⟩) N
 have hl := blk_lt N
 have HN := Lib.hid N
 have HK := Lib.hid hK
 obtain ⟨ge, cap, e9, _, ⟨⟨nge1, nge2⟩, nge3, nge4⟩, _⟩ := S0.envs (by rw [hK.envl]; omega)
 rw [hK.envl] at e9
 obtain ⟨gi, capi, e8, _, _, ⟨⟨ngi1, ngi2⟩, ngi3, ngi4⟩, _⟩ := S0.infos (by rw [hK.len]; omega)
 rw [hK.len] at e8
 subst e8 e9
 obtain ⟨nie, nei⟩ := S0.infos_envs
 have HI := Lib.hid h
 have HS0 := Lib.hid S0
 clear hK h N y1 y2 y4 y5 y6 S0
 by_cases e1 : a1 = -1
 ·have t1 : (a1 != -1) = false := by simp [e1]
  have HP2 := Lib.hid (show rootP k ⟨k1, (en : Int), a1, b1, c1, nm⟩ = if allowedP k.infos (reachL k.mem a1) (envAt k.envs en).rights = false then (k, 0, 1) else ({ k with infos := rerooted (unrooted k.infos (envAt k.envs en).root) a1, envs := modAt k.envs en (setRoot a1), cache := dropC k.cache (en : Int) }, 0, 0) by rw [HPx.out, if_neg (by rw [e1]; simp)])
  have Ha : Hid (a1 < 12) := Lib.hid (by omega)
  have Hn : Hid (a1 < 0) := Lib.hid (by omega)
  clear e1 y0
  go_enter Tryz.func177, Tryz.ntmps177
  go_wp2_with fail
  have HS := HS0
  generalize hW2 : w.alloc _ = W2 at *
  clear hW2
  have hge := HS.out.ge_lt
  obtain ⟨y0, y1, y2, y3, y4, y5, y6⟩ := HS.out.ys
  obtain ⟨x0, x1, x2, _⟩ := HS.out.xs
  obtain ⟨hl2, hgl2, ngb, nbg⟩ := HS.out.lts
  obtain ⟨ua, uc, D0, D1, R⟩ := HS.out.env (j := en) (by rw [HK.out.envl]; exact hen)
  have CE := Lib.hid (fun W (hW : Below W2.heap.size W2 W) => HS.out.callEnv (en := en) rfl hen W hW)
  simp only [CallV.on, CallV.onCells] at CE
  have RM : RdRows W2 m k.mem := HS.out.ink.2.2.rd.1
  have RIn : RdInfos W2 (.slice (some ⟨gi, 0, none⟩) 12 capi) k.infos := HS.out.ink.2.2.2.1.rd
  have CX := Lib.hid (fun W (hW : Below W2.heap.size W2 W) => reached_root m k.mem (a1) W (RM.below hW) (kok_parts HK.out).1 Ha.out)
  have CA := Lib.hid (fun W (hW : Below W2.heap.size W2 W) v2 ts (h2 : RdInts W v2 (ints ts)) (hm : ∀ g, g ∈ ts ↔ g ∈ reachL k.mem (a1)) => by have := allowed_any g _ v2 _ (envAt k.envs en).rights ts k.infos W ((hW.cell (p := ⟨g, 1, none⟩) hgl2).trans x1) (RdF.below R hW) (RdF.below RIn hW) h2 (fun f hf => by have := reach_lt Ha.out f ((hm f).1 hf); have := HK.out.len; omega); rw [allowed_mem hm] at this; exact this)
  generalize hbb : allowedP k.infos (reachL k.mem (a1)) (envAt k.envs en).rights = bb at CA HP2
  clear hbb RM RIn R x1 x2
  refine wp_region_grow 15 Tryz.mixed (by kernel_rfl) 94 rfl (by kernel_rfl) (fun ix vv ww => match ix with
   | 0 => vv = .pointer (some ⟨w.heap.size, 0, none⟩)
   | 1 => vv = .pointer (some ⟨g, 0, none⟩)
   | 2 => vv = .agg #[.pointer (some ⟨g, 0, none⟩), .int .i64 k1, .int .i64 ((en : Int)), .int .i64 a1, .int .i64 b1, .int .i64 c1, .string nm]
   | 3 => vv = .pointer (some ⟨ge, en * 2, none⟩)
   | 4 => vv = .pointer (some ⟨ge, en * 2, none⟩)
   | 5 => vv = .pointer (some ⟨ge, en * 2, none⟩)
   | 6 => vv = .slice ua (envAt k.envs en).rights.length uc
   | 7 => vv = .pointer (some ⟨w.heap.size, 0, none⟩)
   | 8 => vv = .pointer (some ⟨g, 0, none⟩)
   | 9 => vv = .pointer (some ⟨g, 0, none⟩)
   | 10 => vv = .pointer (some ⟨g, 0, none⟩)
   | 11 => vv = m
   | 12 => vv = .int .i64 a1
   | 13 => ReachIn W2.heap.size k.mem (a1) ww vv
   | 14 => vv = .bool bb
   | _ => True) ?_ ?_ ?_
  ·intro i hi vv wz ww' hbz hz
   match i, hi with
   | 0, _ | 1, _ | 2, _ | 3, _ | 4, _ | 5, _ | 6, _ | 7, _ | 8, _ | 9, _ | 10, _ | 11, _ | 12, _ => exact hz
   | 13, _ => exact (ReachIn.below hz hbz)
   | 14, _ => exact hz
   | _ + 15, hq => exact absurd hq (by omega)
  ·intro i hi o ho a wx Hb Hd hG K HK
   match i, hi with
   | 0, _ => exact dF ho rfl (gn rfl) HK rfl fA150_0 (eb (Hb.out.2.2 1 (by decide))) rfl
   | 1, _ => exact dL ho rfl (gn rfl) HK rfl (et (Hd.out 0 (by kernel_rfl))) (lA148 (bc hG hl2 y0)) rfl
   | 2, _ => exact dL ho rfl (gn rfl) HK rfl (eb (Hb.out.2.2 1 (by decide))) (lA150 (bc hG hl2 y0) (bc hG hl2 y1) (bc hG hl2 y2) (bc hG hl2 y3) (bc hG hl2 y4) (bc hG hl2 y5) (bc hG hl2 y6)) rfl
   | 3, _ =>
    obtain rfl := Option.some.inj ho
    have d2 : (a.tmps[29]?.getD undef) = .agg #[.pointer (some ⟨g, 0, none⟩), .int .i64 k1, .int .i64 ((en : Int)), .int .i64 a1, .int .i64 b1, .int .i64 c1, .string nm] := Hd.out 2 (by kernel_rfl)
    clear Hd Hb
    refine Does.of rfl ?_
    go_simp
    refine (CE.out _ hG).mono ?_; rintro e w_ ⟨rfl, hb2⟩
    exact HK.out _ _ rfl hb2
   | 4, _ => exact dC ho rfl (gn rfl) HK rfl (et (Hd.out 3 (by kernel_rfl))) rfl
   | 5, _ => exact dF ho rfl (gn rfl) HK rfl fA80_0 (et (Hd.out 4 (by kernel_rfl))) rfl
   | 6, _ => exact dL ho rfl (gn rfl) HK rfl (et (Hd.out 5 (by kernel_rfl))) (lA36 (bc hG hge D0)) rfl
   | 7, _ => exact dF ho rfl (gn rfl) HK rfl fA150_0 (eb (Hb.out.2.2 1 (by decide))) rfl
   | 8, _ => exact dL ho rfl (gn rfl) HK rfl (et (Hd.out 7 (by kernel_rfl))) (lA148 (bc hG hl2 y0)) rfl
   | 9, _ => exact dC ho rfl (gn rfl) HK rfl (et (Hd.out 8 (by kernel_rfl))) rfl
   | 10, _ => exact dF ho rfl (gn rfl) HK rfl fA33_0 (et (Hd.out 9 (by kernel_rfl))) rfl
   | 11, _ => exact dL ho rfl (gn rfl) HK rfl (et (Hd.out 10 (by kernel_rfl))) (lA28 (bc hG hgl2 x0)) rfl
   | 12, _ => exact dM ho rfl (gn rfl) HK rfl (eb (Hb.out.2.2 3 (by decide))) rfl
   | 13, _ =>
    obtain rfl := Option.some.inj ho
    have d11 : (a.tmps[38]?.getD undef) = m := Hd.out 11 (by kernel_rfl)
    have d12 : (a.tmps[39]?.getD undef) = .int .i64 a1 := Hd.out 12 (by kernel_rfl)
    clear Hd Hb
    refine Does.of rfl ?_
    go_simp
    refine (CX.out _ hG).mono ?_; rintro e w_ ⟨v', ts, rfl, hO, hmem, _, hb2⟩
    exact HK.out _ _ ⟨ts, own_loV hO hG.size, hmem⟩ hb2
   | 14, _ =>
    obtain rfl := Option.some.inj ho
    have d1 : (a.tmps[28]?.getD undef) = .pointer (some ⟨g, 0, none⟩) := Hd.out 1 (by kernel_rfl)
    have d6 : (a.tmps[33]?.getD undef) = .slice ua (envAt k.envs en).rights.length uc := Hd.out 6 (by kernel_rfl)
    have d13 : ReachIn W2.heap.size k.mem (a1) wx (a.tmps[40]?.getD undef) := Hd.out 13 (by kernel_rfl)
    clear Hd Hb
    generalize e40 : a.tmps[40]?.getD undef = v2 at d13
    obtain ⟨ts, hO, hmem⟩ := d13
    have CAx := CA.out wx hG v2 ts (OwnInts.rd hO) hmem
    refine Does.of rfl ?_
    go_simp
    refine CAx.mono ?_; rintro e w_ ⟨rfl, hb2⟩
    exact HK.out _ _ rfl hb2
   | _ + 15, hq => exact absurd hq (by omega)
  ·intro vs wx hR hG
   have q14 : (vs 14) = .bool bb := hR 14 (by decide)
   clear hR
   simp only [fillAt, dstOf, List.range, List.range.loop, List.foldl_cons, List.foldl_nil, q14]
   simp
   clear q14
   have S1 := Lib.hid (HS.out.below hG)
   cases bb
   ·have E := Lib.hid (show rootP k ⟨k1, (en : Int), a1, b1, c1, nm⟩ = (k, 0, 1) by rw [HP2.out]; rfl)
    clear D0 D1 y0 y1 y2 y3 y4 y5 y6 x0
    go_wp2_with fail
    go_ret
    exact Ends1.bad E.out (by decide) S1.out.bel
   ·have HP3 := Lib.hid (show rootP k ⟨k1, (en : Int), a1, b1, c1, nm⟩ = ({ k with infos := rerooted (unrooted k.infos (envAt k.envs en).root) (a1), envs := modAt k.envs en (setRoot (a1)), cache := dropC k.cache (en : Int) }, 0, 0) by rw [HP2.out]; rfl)
    clear y0 y1 y2 y3 y4 y5 y6 x0 D0 D1
    obtain ⟨y0, y1, y2, y3, y4, y5, y6⟩ := S1.out.ys
    go_wp2_with fail
    refine (CE.out _ hG).mono ?_; rintro r w3 ⟨rfl, hb3⟩
    have S3 := Lib.hid (S1.out.below hb3)
    obtain ⟨_, _, _, D1, _⟩ := S3.out.env (j := en) (by rw [HK.out.envl]; exact hen)
    clear y0 y1 y2 y3 y4 y5 y6 hG hb3
    obtain ⟨y0, y1, y2, y3, y4, y5, y6⟩ := S3.out.ys
    by_cases ho : (envAt k.envs en).root < 0
    ·have t5 : ¬ (0 : Int) ≤ (envAt k.envs en).root := by omega
     have HU := Lib.hid (show unrooted k.infos (envAt k.envs en).root = k.infos by unfold unrooted; rw [if_neg t5])
     have CE4 := Lib.hid (fun W (hW : Below w3.heap.size w3 W) => S3.out.callEnv (en := en) rfl hen W hW)
     simp only [CallV.on, CallV.onCells] at CE4
     clear ho
     go_wp2_with fail
     clear y0 y1 y2 y3 y4 y5 y6 D1
     refine (CE4.out _ (Below.refl _ _)).mono ?_; rintro r4 w5 ⟨rfl, hb5⟩
     have S5 := Lib.hid (S3.out.below hb5)
     obtain ⟨_, _, _, D1, _⟩ := S5.out.env (j := en) (by rw [HK.out.envl]; exact hen)
     have Fe := S5.out.fze (en * 2 + 1)
     have S6 := Lib.hid (S5.out.root HK.out.envl.symm (by rw [HK.out.envl]; exact hen) (a1))
     have t6 := Lib.hid Hn.out
     have t7 : ¬ (0 : Int) ≤ a1 := by have := Hn.out; omega
     have HR := Lib.hid (show rerooted (unrooted k.infos (envAt k.envs en).root) (a1) = k.infos by rw [HU.out]; unfold rerooted; rw [if_neg t7])
     go_wp2_with fail
     clear D1 Fe t7
     generalize w5.setCell _ _ = W7 at *
     have S7 := S6
     clear S6
     have Y := S7.out.ys
     obtain ⟨y0, y1, y2, _, _, _, _⟩ := Y
     obtain ⟨x0, _, _, x3⟩ := S7.out.xs
     obtain ⟨hl7, hgl7, ngb, nbg⟩ := S7.out.lts
     have RC : RdCache W7 c k.cache := S7.out.ink.2.2.2.2.2.rd
     have CD := Lib.hid (fun W (hW : Below W7.heap.size W7 W) => CacheDrop_any c k.cache (en : Int) W (RdF.below RC hW) (kok_parts HK.out).2.2)
     clear RC x0 y1
     refine wp_region_grow 13 Tryz.mixed (by kernel_rfl) 94 rfl (by kernel_rfl) (fun ix vv ww => match ix with
      | 0 => vv = .pointer (some ⟨w.heap.size, 0, none⟩)
      | 1 => vv = .pointer (some ⟨g, 0, none⟩)
      | 2 => vv = .pointer (some ⟨w.heap.size, 0, none⟩)
      | 3 => vv = .pointer (some ⟨g, 0, none⟩)
      | 4 => vv = .pointer (some ⟨g, 0, none⟩)
      | 5 => vv = .pointer (some ⟨g, 3, none⟩)
      | 6 => vv = c
      | 7 => vv = .pointer (some ⟨w.heap.size, 1, none⟩)
      | 8 => vv = .pointer (some ⟨w.heap.size, 2, none⟩)
      | 9 => vv = .int .i64 ((en : Int))
      | 10 => OwnF W7.heap.size 94 4 cachedCs ww vv (dropC k.cache (en : Int))
      | 11 => vv = .pointer (some ⟨g, 0, none⟩)
      | 12 => vv = .pointer (some ⟨g, 3, none⟩)
      | _ => True) ?_ ?_ ?_
     ·intro i hi vv wz ww' hbz hz
      match i, hi with
      | 0, _ | 1, _ | 2, _ | 3, _ | 4, _ | 5, _ | 6, _ | 7, _ | 8, _ | 9, _ => exact hz
      | 10, _ => exact (OwnF.below hz hbz)
      | 11, _ | 12, _ => exact hz
     ·intro i hi o ho a wx Hb Hd hG K HK
      match i, hi with
      | 0, _ => exact dF ho rfl (gn rfl) HK rfl fA150_0 (eb (Hb.out.2.2 1 (by decide))) rfl
      | 1, _ => exact dL ho rfl (gn rfl) HK rfl (et (Hd.out 0 (by kernel_rfl))) (lA148 (bc hG hl7 y0)) rfl
      | 2, _ => exact dF ho rfl (gn rfl) HK rfl fA150_0 (eb (Hb.out.2.2 1 (by decide))) rfl
      | 3, _ => exact dL ho rfl (gn rfl) HK rfl (et (Hd.out 2 (by kernel_rfl))) (lA148 (bc hG hl7 y0)) rfl
      | 4, _ => exact dC ho rfl (gn rfl) HK rfl (et (Hd.out 3 (by kernel_rfl))) rfl
      | 5, _ => exact dF ho rfl (gn rfl) HK rfl fA33_3 (et (Hd.out 4 (by kernel_rfl))) rfl
      | 6, _ => exact dL ho rfl (gn rfl) HK rfl (et (Hd.out 5 (by kernel_rfl))) (lA31 (bc hG hgl7 x3)) rfl
      | 7, _ => exact dF ho rfl (gn rfl) HK rfl fA150_1 (eb (Hb.out.2.2 1 (by decide))) rfl
      | 8, _ => exact dF ho rfl (gn rfl) HK rfl fA60_1 (et (Hd.out 7 (by kernel_rfl))) rfl
      | 9, _ => exact dL ho rfl (gn rfl) HK rfl (et (Hd.out 8 (by kernel_rfl))) (lA3 (bc hG hl7 y2)) rfl
      | 10, _ =>
       obtain rfl := Option.some.inj ho
       have d6 : (a.tmps[87]?.getD undef) = c := Hd.out 6 (by kernel_rfl)
       have d9 : (a.tmps[90]?.getD undef) = .int .i64 ((en : Int)) := Hd.out 9 (by kernel_rfl)
       clear Hd Hb
       refine Does.of rfl ?_
       go_simp
       refine (CD.out _ hG).mono ?_; rintro e w_ ⟨v', rfl, hO, hb2⟩
       exact HK.out _ _ (hO.lower hG.size) hb2
      | 11, _ => exact dC ho rfl (gn rfl) HK rfl (et (Hd.out 1 (by kernel_rfl))) rfl
      | 12, _ => exact dF ho rfl (gn rfl) HK rfl fA33_3 (et (Hd.out 11 (by kernel_rfl))) rfl
     ·intro vs wx hR hG
      have q1 : (vs 1) = .pointer (some ⟨g, 0, none⟩) := hR 1 (by decide)
      have q10 : OwnF W7.heap.size 94 4 cachedCs wx (vs 10) (dropC k.cache (en : Int)) := hR 10 (by decide)
      have q11 : (vs 11) = .pointer (some ⟨g, 0, none⟩) := hR 11 (by decide)
      have q12 : (vs 12) = .pointer (some ⟨g, 3, none⟩) := hR 12 (by decide)
      clear hR
      simp only [fillAt, dstOf, List.range, List.range.loop, List.foldl_cons, List.foldl_nil, q1, q11, q12]
      simp
      generalize vs 10 = z10 at q10 ⊢
      clear q1 q11 q12
      have S8 := Lib.hid (S7.out.cache hG q10)
      have fzg := blk_frozen (S7.out.below hG).ink.1
      have x3w := (S7.out.below hG).xs.2.2.2
      obtain ⟨_, _, rfl, _, _⟩ := q10.rd.shape
      clear q10 hG y0 y2 x3
      go_wp2_with fail
      go_ret
      exact ⟨by rw [HP3.out]; rfl, fun _ => ⟨_, _, _, _, by rw [HP3.out]; rw [HR.out]; exact S8.out.ink⟩, S8.out.bel⟩
    ·obtain ⟨rn, hrn⟩ : ∃ n : Nat, (envAt k.envs en).root = (n : Int) := ⟨(envAt k.envs en).root.toNat, by omega⟩
     have hr12 : rn < 12 := by have := root_lt HK.out hen; omega
     have HU := Lib.hid (show unrooted k.infos (envAt k.envs en).root = modAt k.infos rn (addR (-1)) by unfold unrooted; rw [hrn, if_pos (by omega), Int.toNat_natCast])
     rw [hrn] at D1
     have t5 : (0 : Int) ≤ (rn : Int) := by omega
     have hri : (rn : Int) < 12 := by omega
     obtain ⟨_, _, d2⟩ := S3.out.infoAt (f := rn) (by rw [HK.out.len]; exact hr12)
     have rf := HK.out.refs_le hr12
     have x1 := S3.out.xs.2.1
     have Fr := S3.out.fzi (rn * 3 + 2)
     have S4 : Hid (CS lo g w.heap.size ⟨k1, (en : Int), a1, b1, c1, nm⟩ w (w3.setCell ⟨gi, rn * 3 + 2, none⟩ (.int .i64 ((infoAt k.infos rn).r - 1))) m (.slice (some ⟨gi, 0, none⟩) 12 capi) (.slice (some ⟨ge, 0, none⟩) 3 cap) c { k with infos := modAt k.infos rn (addR (-1)) }) := Lib.hid (S3.out.info HK.out.len.symm (by rw [HK.out.len]; exact hr12) (-1))
     clear ho hrn
     go_wp2_with fail
     clear y0 y1 y2 y3 y4 y5 y6 D1 d2 x1 Fr rf
     generalize w3.setCell _ _ = W4 at *
     have CE4 := S4.out.callEnv (en := en) rfl hen W4 (Below.refl _ _)
     simp only [CallV.on, CallV.onCells] at CE4
     refine CE4.mono ?_; rintro r4 w5 ⟨rfl, hb5⟩
     have S5 := Lib.hid (S4.out.below hb5)
     obtain ⟨_, _, _, D1, _⟩ := S5.out.env (j := en) (by rw [HK.out.envl]; exact hen)
     have Fe := S5.out.fze (en * 2 + 1)
     have S6 := Lib.hid (S5.out.root HK.out.envl.symm (by rw [HK.out.envl]; exact hen) (a1))
     have t6 := Lib.hid Hn.out
     have t7 : ¬ (0 : Int) ≤ a1 := by have := Hn.out; omega
     have HR := Lib.hid (show rerooted (unrooted k.infos (envAt k.envs en).root) (a1) = modAt k.infos rn (addR (-1)) by rw [HU.out]; unfold rerooted; rw [if_neg t7])
     go_wp2_with fail
     clear D1 Fe t7
     generalize w5.setCell _ _ = W7 at *
     have S7 := S6
     clear S6
     have Y := S7.out.ys
     obtain ⟨y0, y1, y2, _, _, _, _⟩ := Y
     obtain ⟨x0, _, _, x3⟩ := S7.out.xs
     obtain ⟨hl7, hgl7, ngb, nbg⟩ := S7.out.lts
     have RC : RdCache W7 c k.cache := S7.out.ink.2.2.2.2.2.rd
     have CD := Lib.hid (fun W (hW : Below W7.heap.size W7 W) => CacheDrop_any c k.cache (en : Int) W (RdF.below RC hW) (kok_parts HK.out).2.2)
     clear RC x0 y1
     refine wp_region_grow 13 Tryz.mixed (by kernel_rfl) 94 rfl (by kernel_rfl) (fun ix vv ww => match ix with
      | 0 => vv = .pointer (some ⟨w.heap.size, 0, none⟩)
      | 1 => vv = .pointer (some ⟨g, 0, none⟩)
      | 2 => vv = .pointer (some ⟨w.heap.size, 0, none⟩)
      | 3 => vv = .pointer (some ⟨g, 0, none⟩)
      | 4 => vv = .pointer (some ⟨g, 0, none⟩)
      | 5 => vv = .pointer (some ⟨g, 3, none⟩)
      | 6 => vv = c
      | 7 => vv = .pointer (some ⟨w.heap.size, 1, none⟩)
      | 8 => vv = .pointer (some ⟨w.heap.size, 2, none⟩)
      | 9 => vv = .int .i64 ((en : Int))
      | 10 => OwnF W7.heap.size 94 4 cachedCs ww vv (dropC k.cache (en : Int))
      | 11 => vv = .pointer (some ⟨g, 0, none⟩)
      | 12 => vv = .pointer (some ⟨g, 3, none⟩)
      | _ => True) ?_ ?_ ?_
     ·intro i hi vv wz ww' hbz hz
      match i, hi with
      | 0, _ | 1, _ | 2, _ | 3, _ | 4, _ | 5, _ | 6, _ | 7, _ | 8, _ | 9, _ => exact hz
      | 10, _ => exact (OwnF.below hz hbz)
      | 11, _ | 12, _ => exact hz
     ·intro i hi o ho a wx Hb Hd hG K HK
      match i, hi with
      | 0, _ => exact dF ho rfl (gn rfl) HK rfl fA150_0 (eb (Hb.out.2.2 1 (by decide))) rfl
      | 1, _ => exact dL ho rfl (gn rfl) HK rfl (et (Hd.out 0 (by kernel_rfl))) (lA148 (bc hG hl7 y0)) rfl
      | 2, _ => exact dF ho rfl (gn rfl) HK rfl fA150_0 (eb (Hb.out.2.2 1 (by decide))) rfl
      | 3, _ => exact dL ho rfl (gn rfl) HK rfl (et (Hd.out 2 (by kernel_rfl))) (lA148 (bc hG hl7 y0)) rfl
      | 4, _ => exact dC ho rfl (gn rfl) HK rfl (et (Hd.out 3 (by kernel_rfl))) rfl
      | 5, _ => exact dF ho rfl (gn rfl) HK rfl fA33_3 (et (Hd.out 4 (by kernel_rfl))) rfl
      | 6, _ => exact dL ho rfl (gn rfl) HK rfl (et (Hd.out 5 (by kernel_rfl))) (lA31 (bc hG hgl7 x3)) rfl
      | 7, _ => exact dF ho rfl (gn rfl) HK rfl fA150_1 (eb (Hb.out.2.2 1 (by decide))) rfl
      | 8, _ => exact dF ho rfl (gn rfl) HK rfl fA60_1 (et (Hd.out 7 (by kernel_rfl))) rfl
      | 9, _ => exact dL ho rfl (gn rfl) HK rfl (et (Hd.out 8 (by kernel_rfl))) (lA3 (bc hG hl7 y2)) rfl
      | 10, _ =>
       obtain rfl := Option.some.inj ho
       have d6 : (a.tmps[87]?.getD undef) = c := Hd.out 6 (by kernel_rfl)
       have d9 : (a.tmps[90]?.getD undef) = .int .i64 ((en : Int)) := Hd.out 9 (by kernel_rfl)
       clear Hd Hb
       refine Does.of rfl ?_
       go_simp
       refine (CD.out _ hG).mono ?_; rintro e w_ ⟨v', rfl, hO, hb2⟩
       exact HK.out _ _ (hO.lower hG.size) hb2
      | 11, _ => exact dC ho rfl (gn rfl) HK rfl (et (Hd.out 1 (by kernel_rfl))) rfl
      | 12, _ => exact dF ho rfl (gn rfl) HK rfl fA33_3 (et (Hd.out 11 (by kernel_rfl))) rfl
     ·intro vs wx hR hG
      have q1 : (vs 1) = .pointer (some ⟨g, 0, none⟩) := hR 1 (by decide)
      have q10 : OwnF W7.heap.size 94 4 cachedCs wx (vs 10) (dropC k.cache (en : Int)) := hR 10 (by decide)
      have q11 : (vs 11) = .pointer (some ⟨g, 0, none⟩) := hR 11 (by decide)
      have q12 : (vs 12) = .pointer (some ⟨g, 3, none⟩) := hR 12 (by decide)
      clear hR
      simp only [fillAt, dstOf, List.range, List.range.loop, List.foldl_cons, List.foldl_nil, q1, q11, q12]
      simp
      generalize vs 10 = z10 at q10 ⊢
      clear q1 q11 q12
      have S8 := Lib.hid (S7.out.cache hG q10)
      have fzg := blk_frozen (S7.out.below hG).ink.1
      have x3w := (S7.out.below hG).xs.2.2.2
      obtain ⟨_, _, rfl, _, _⟩ := q10.rd.shape
      clear q10 hG y0 y2 x3
      go_wp2_with fail
      go_ret
      exact ⟨by rw [HP3.out]; rfl, fun _ => ⟨_, _, _, _, by rw [HP3.out]; rw [HR.out]; exact S8.out.ink⟩, S8.out.bel⟩
 ·have t1 : (a1 != -1) = true := by simp [e1]
  cases e2 : inB a1 0 11
  ·have E := Lib.hid (show rootP k ⟨k1, (en : Int), a1, b1, c1, nm⟩ = (k, 0, 3) by rw [HPx.out, if_pos ⟨e1, .inl e2⟩])
   have T := Lib.hid e2
   clear e1 e2 y0
   go_enter Tryz.func177, Tryz.ntmps177
   go_wp2_with fail
   refine (C0.out _ hb0).mono ?_; rintro r w1 ⟨rfl, hb1⟩; rw [T.out]
   have hbw := hb0.trans (hb1.mono hb0.size)
   go_wp2_with fail
   go_ret
   exact Ends1.bad E.out (by decide) (hbw.mono hlo)
  ·have T := Lib.hid e2
   have ab := inB_iff.1 e2
   obtain ⟨an, rfl⟩ : ∃ n : Nat, a1 = (n : Int) := ⟨a1.toNat, by omega⟩
   have han : an < k.infos.length := by rw [HK.out.len]; omega
   have hani : (an : Int) < 12 := by omega
   have e1' := Lib.hid e1
   have Ha : Hid ((an : Int) < 12) := Lib.hid (by omega)
   clear e2 y0 e1
   by_cases e3 : (infoAt k.infos an).k = 3
   ·have t3 : ((infoAt k.infos an).k != 3) = false := by simp [e3]
    have HP2 := Lib.hid (show rootP k ⟨k1, (en : Int), (an : Int), b1, c1, nm⟩ = if allowedP k.infos (reachL k.mem (an : Int)) (envAt k.envs en).rights = false then (k, 0, 1) else ({ k with infos := rerooted (unrooted k.infos (envAt k.envs en).root) (an : Int), envs := modAt k.envs en (setRoot (an : Int)), cache := dropC k.cache (en : Int) }, 0, 0) by rw [HPx.out, if_neg (by rintro ⟨_, x | x⟩; (· rw [T.out] at x; cases x); (· exact x e3))])
    clear e3
    go_enter Tryz.func177, Tryz.ntmps177
    go_wp2_with fail
    refine (C0.out _ hb0).mono ?_; rintro r W2 ⟨rfl, hbW⟩; rw [T.out]
    have HS := Lib.hid (HS0.out.below hbW)
    obtain ⟨y0, _, _, _, _, _, _⟩ := HS.out.ys
    obtain ⟨d0, _, _⟩ := HS.out.infoAt han
    have x1 := HS.out.xs.2.1
    clear hbW
    go_wp2_with fail
    clear y0 x1 d0 hani t3 han
    have hge := HS.out.ge_lt
    obtain ⟨y0, y1, y2, y3, y4, y5, y6⟩ := HS.out.ys
    obtain ⟨x0, x1, x2, _⟩ := HS.out.xs
    obtain ⟨hl2, hgl2, ngb, nbg⟩ := HS.out.lts
    obtain ⟨ua, uc, D0, D1, R⟩ := HS.out.env (j := en) (by rw [HK.out.envl]; exact hen)
    have CE := Lib.hid (fun W (hW : Below W2.heap.size W2 W) => HS.out.callEnv (en := en) rfl hen W hW)
    simp only [CallV.on, CallV.onCells] at CE
    have RM : RdRows W2 m k.mem := HS.out.ink.2.2.rd.1
    have RIn : RdInfos W2 (.slice (some ⟨gi, 0, none⟩) 12 capi) k.infos := HS.out.ink.2.2.2.1.rd
    have CX := Lib.hid (fun W (hW : Below W2.heap.size W2 W) => reached_root m k.mem ((an : Int)) W (RM.below hW) (kok_parts HK.out).1 Ha.out)
    have CA := Lib.hid (fun W (hW : Below W2.heap.size W2 W) v2 ts (h2 : RdInts W v2 (ints ts)) (hm : ∀ g, g ∈ ts ↔ g ∈ reachL k.mem ((an : Int))) => by have := allowed_any g _ v2 _ (envAt k.envs en).rights ts k.infos W ((hW.cell (p := ⟨g, 1, none⟩) hgl2).trans x1) (RdF.below R hW) (RdF.below RIn hW) h2 (fun f hf => by have := reach_lt Ha.out f ((hm f).1 hf); have := HK.out.len; omega); rw [allowed_mem hm] at this; exact this)
    generalize hbb : allowedP k.infos (reachL k.mem ((an : Int))) (envAt k.envs en).rights = bb at CA HP2
    clear hbb RM RIn R x1 x2
    refine wp_region_grow 15 Tryz.mixed (by kernel_rfl) 94 rfl (by kernel_rfl) (fun ix vv ww => match ix with
     | 0 => vv = .pointer (some ⟨w.heap.size, 0, none⟩)
     | 1 => vv = .pointer (some ⟨g, 0, none⟩)
     | 2 => vv = .agg #[.pointer (some ⟨g, 0, none⟩), .int .i64 k1, .int .i64 ((en : Int)), .int .i64 ((an : Int)), .int .i64 b1, .int .i64 c1, .string nm]
     | 3 => vv = .pointer (some ⟨ge, en * 2, none⟩)
     | 4 => vv = .pointer (some ⟨ge, en * 2, none⟩)
     | 5 => vv = .pointer (some ⟨ge, en * 2, none⟩)
     | 6 => vv = .slice ua (envAt k.envs en).rights.length uc
     | 7 => vv = .pointer (some ⟨w.heap.size, 0, none⟩)
     | 8 => vv = .pointer (some ⟨g, 0, none⟩)
     | 9 => vv = .pointer (some ⟨g, 0, none⟩)
     | 10 => vv = .pointer (some ⟨g, 0, none⟩)
     | 11 => vv = m
     | 12 => vv = .int .i64 ((an : Int))
     | 13 => ReachIn W2.heap.size k.mem ((an : Int)) ww vv
     | 14 => vv = .bool bb
     | _ => True) ?_ ?_ ?_
    ·intro i hi vv wz ww' hbz hz
     match i, hi with
     | 0, _ | 1, _ | 2, _ | 3, _ | 4, _ | 5, _ | 6, _ | 7, _ | 8, _ | 9, _ | 10, _ | 11, _ | 12, _ => exact hz
     | 13, _ => exact (ReachIn.below hz hbz)
     | 14, _ => exact hz
     | _ + 15, hq => exact absurd hq (by omega)
    ·intro i hi o ho a wx Hb Hd hG K HK
     match i, hi with
     | 0, _ => exact dF ho rfl (gn rfl) HK rfl fA150_0 (eb (Hb.out.2.2 1 (by decide))) rfl
     | 1, _ => exact dL ho rfl (gn rfl) HK rfl (et (Hd.out 0 (by kernel_rfl))) (lA148 (bc hG hl2 y0)) rfl
     | 2, _ => exact dL ho rfl (gn rfl) HK rfl (eb (Hb.out.2.2 1 (by decide))) (lA150 (bc hG hl2 y0) (bc hG hl2 y1) (bc hG hl2 y2) (bc hG hl2 y3) (bc hG hl2 y4) (bc hG hl2 y5) (bc hG hl2 y6)) rfl
     | 3, _ =>
      obtain rfl := Option.some.inj ho
      have d2 : (a.tmps[29]?.getD undef) = .agg #[.pointer (some ⟨g, 0, none⟩), .int .i64 k1, .int .i64 ((en : Int)), .int .i64 ((an : Int)), .int .i64 b1, .int .i64 c1, .string nm] := Hd.out 2 (by kernel_rfl)
      clear Hd Hb
      refine Does.of rfl ?_
      go_simp
      refine (CE.out _ hG).mono ?_; rintro e w_ ⟨rfl, hb2⟩
      exact HK.out _ _ rfl hb2
     | 4, _ => exact dC ho rfl (gn rfl) HK rfl (et (Hd.out 3 (by kernel_rfl))) rfl
     | 5, _ => exact dF ho rfl (gn rfl) HK rfl fA80_0 (et (Hd.out 4 (by kernel_rfl))) rfl
     | 6, _ => exact dL ho rfl (gn rfl) HK rfl (et (Hd.out 5 (by kernel_rfl))) (lA36 (bc hG hge D0)) rfl
     | 7, _ => exact dF ho rfl (gn rfl) HK rfl fA150_0 (eb (Hb.out.2.2 1 (by decide))) rfl
     | 8, _ => exact dL ho rfl (gn rfl) HK rfl (et (Hd.out 7 (by kernel_rfl))) (lA148 (bc hG hl2 y0)) rfl
     | 9, _ => exact dC ho rfl (gn rfl) HK rfl (et (Hd.out 8 (by kernel_rfl))) rfl
     | 10, _ => exact dF ho rfl (gn rfl) HK rfl fA33_0 (et (Hd.out 9 (by kernel_rfl))) rfl
     | 11, _ => exact dL ho rfl (gn rfl) HK rfl (et (Hd.out 10 (by kernel_rfl))) (lA28 (bc hG hgl2 x0)) rfl
     | 12, _ => exact dM ho rfl (gn rfl) HK rfl (eb (Hb.out.2.2 3 (by decide))) rfl
     | 13, _ =>
      obtain rfl := Option.some.inj ho
      have d11 : (a.tmps[38]?.getD undef) = m := Hd.out 11 (by kernel_rfl)
      have d12 : (a.tmps[39]?.getD undef) = .int .i64 ((an : Int)) := Hd.out 12 (by kernel_rfl)
      clear Hd Hb
      refine Does.of rfl ?_
      go_simp
      refine (CX.out _ hG).mono ?_; rintro e w_ ⟨v', ts, rfl, hO, hmem, _, hb2⟩
      exact HK.out _ _ ⟨ts, own_loV hO hG.size, hmem⟩ hb2
     | 14, _ =>
      obtain rfl := Option.some.inj ho
      have d1 : (a.tmps[28]?.getD undef) = .pointer (some ⟨g, 0, none⟩) := Hd.out 1 (by kernel_rfl)
      have d6 : (a.tmps[33]?.getD undef) = .slice ua (envAt k.envs en).rights.length uc := Hd.out 6 (by kernel_rfl)
      have d13 : ReachIn W2.heap.size k.mem ((an : Int)) wx (a.tmps[40]?.getD undef) := Hd.out 13 (by kernel_rfl)
      clear Hd Hb
      generalize e40 : a.tmps[40]?.getD undef = v2 at d13
      obtain ⟨ts, hO, hmem⟩ := d13
      have CAx := CA.out wx hG v2 ts (OwnInts.rd hO) hmem
      refine Does.of rfl ?_
      go_simp
      refine CAx.mono ?_; rintro e w_ ⟨rfl, hb2⟩
      exact HK.out _ _ rfl hb2
     | _ + 15, hq => exact absurd hq (by omega)
    ·intro vs wx hR hG
     have q14 : (vs 14) = .bool bb := hR 14 (by decide)
     clear hR
     simp only [fillAt, dstOf, List.range, List.range.loop, List.foldl_cons, List.foldl_nil, q14]
     simp
     clear q14
     have S1 := Lib.hid (HS.out.below hG)
     cases bb
     ·have E := Lib.hid (show rootP k ⟨k1, (en : Int), (an : Int), b1, c1, nm⟩ = (k, 0, 1) by rw [HP2.out]; rfl)
      clear D0 D1 y0 y1 y2 y3 y4 y5 y6 x0
      go_wp2_with fail
      go_ret
      exact Ends1.bad E.out (by decide) S1.out.bel
     ·have HP3 := Lib.hid (show rootP k ⟨k1, (en : Int), (an : Int), b1, c1, nm⟩ = ({ k with infos := rerooted (unrooted k.infos (envAt k.envs en).root) ((an : Int)), envs := modAt k.envs en (setRoot ((an : Int))), cache := dropC k.cache (en : Int) }, 0, 0) by rw [HP2.out]; rfl)
      clear y0 y1 y2 y3 y4 y5 y6 x0 D0 D1
      obtain ⟨y0, y1, y2, y3, y4, y5, y6⟩ := S1.out.ys
      go_wp2_with fail
      refine (CE.out _ hG).mono ?_; rintro r w3 ⟨rfl, hb3⟩
      have S3 := Lib.hid (S1.out.below hb3)
      obtain ⟨_, _, _, D1, _⟩ := S3.out.env (j := en) (by rw [HK.out.envl]; exact hen)
      clear y0 y1 y2 y3 y4 y5 y6 hG hb3
      obtain ⟨y0, y1, y2, y3, y4, y5, y6⟩ := S3.out.ys
      by_cases ho : (envAt k.envs en).root < 0
      ·have t5 : ¬ (0 : Int) ≤ (envAt k.envs en).root := by omega
       have HU := Lib.hid (show unrooted k.infos (envAt k.envs en).root = k.infos by unfold unrooted; rw [if_neg t5])
       have CE4 := Lib.hid (fun W (hW : Below w3.heap.size w3 W) => S3.out.callEnv (en := en) rfl hen W hW)
       simp only [CallV.on, CallV.onCells] at CE4
       clear ho
       go_wp2_with fail
       clear y0 y1 y2 y3 y4 y5 y6 D1
       refine (CE4.out _ (Below.refl _ _)).mono ?_; rintro r4 w5 ⟨rfl, hb5⟩
       have S5 := Lib.hid (S3.out.below hb5)
       obtain ⟨_, _, _, D1, _⟩ := S5.out.env (j := en) (by rw [HK.out.envl]; exact hen)
       have Fe := S5.out.fze (en * 2 + 1)
       have S6 := Lib.hid (S5.out.root HK.out.envl.symm (by rw [HK.out.envl]; exact hen) ((an : Int)))
       have x1 := S5.out.xs.2.1
       obtain ⟨y0, _, _, y3, _, _, _⟩ := S5.out.ys
       obtain ⟨_, _, d2⟩ := S5.out.infoAt (f := an) (by have := HK.out.len; (try simp only [modAt_len]); omega)
       have Fr := S5.out.fzi (an * 3 + 2)
       have hA12 : an < 12 := by have := Ha.out; omega
       have rfa : 0 - 1 ≤ (infoAt (k.infos) an).r ∧ (infoAt (k.infos) an).r ≤ 47 := by
        have r1 := HK.out.refs_le hA12
        omega
       have HR := Lib.hid (show rerooted (unrooted k.infos (envAt k.envs en).root) ((an : Int)) = modAt (k.infos) an (addR 1) by rw [HU.out]; unfold rerooted; rw [if_pos (by omega), Int.toNat_natCast])
       have S7 := Lib.hid (S6.out.info (by show 12 = (k.infos).length; (try simp only [modAt_len]); exact HK.out.len.symm) (f := an) (by show an < (k.infos).length; (try simp only [modAt_len]); rw [HK.out.len]; exact hA12) 1)
       have hani : (an : Int) < 12 := by omega
       simp only at S7 d2
       generalize hrv : (infoAt (k.infos) an).r = rv at *
       go_wp2_with fail
       clear D1 Fe Fr d2 x1 y0 y3 rfa hrv
       generalize World.setCell (World.setCell _ _ _) _ _ = W7 at *
       clear S6
       have Y := S7.out.ys
       obtain ⟨y0, y1, y2, _, _, _, _⟩ := Y
       obtain ⟨x0, _, _, x3⟩ := S7.out.xs
       obtain ⟨hl7, hgl7, ngb, nbg⟩ := S7.out.lts
       have RC : RdCache W7 c k.cache := S7.out.ink.2.2.2.2.2.rd
       have CD := Lib.hid (fun W (hW : Below W7.heap.size W7 W) => CacheDrop_any c k.cache (en : Int) W (RdF.below RC hW) (kok_parts HK.out).2.2)
       clear RC x0 y1
       refine wp_region_grow 13 Tryz.mixed (by kernel_rfl) 94 rfl (by kernel_rfl) (fun ix vv ww => match ix with
        | 0 => vv = .pointer (some ⟨w.heap.size, 0, none⟩)
        | 1 => vv = .pointer (some ⟨g, 0, none⟩)
        | 2 => vv = .pointer (some ⟨w.heap.size, 0, none⟩)
        | 3 => vv = .pointer (some ⟨g, 0, none⟩)
        | 4 => vv = .pointer (some ⟨g, 0, none⟩)
        | 5 => vv = .pointer (some ⟨g, 3, none⟩)
        | 6 => vv = c
        | 7 => vv = .pointer (some ⟨w.heap.size, 1, none⟩)
        | 8 => vv = .pointer (some ⟨w.heap.size, 2, none⟩)
        | 9 => vv = .int .i64 ((en : Int))
        | 10 => OwnF W7.heap.size 94 4 cachedCs ww vv (dropC k.cache (en : Int))
        | 11 => vv = .pointer (some ⟨g, 0, none⟩)
        | 12 => vv = .pointer (some ⟨g, 3, none⟩)
        | _ => True) ?_ ?_ ?_
       ·intro i hi vv wz ww' hbz hz
        match i, hi with
        | 0, _ | 1, _ | 2, _ | 3, _ | 4, _ | 5, _ | 6, _ | 7, _ | 8, _ | 9, _ => exact hz
        | 10, _ => exact (OwnF.below hz hbz)
        | 11, _ | 12, _ => exact hz
       ·intro i hi o ho a wx Hb Hd hG K HK
        match i, hi with
        | 0, _ => exact dF ho rfl (gn rfl) HK rfl fA150_0 (eb (Hb.out.2.2 1 (by decide))) rfl
        | 1, _ => exact dL ho rfl (gn rfl) HK rfl (et (Hd.out 0 (by kernel_rfl))) (lA148 (bc hG hl7 y0)) rfl
        | 2, _ => exact dF ho rfl (gn rfl) HK rfl fA150_0 (eb (Hb.out.2.2 1 (by decide))) rfl
        | 3, _ => exact dL ho rfl (gn rfl) HK rfl (et (Hd.out 2 (by kernel_rfl))) (lA148 (bc hG hl7 y0)) rfl
        | 4, _ => exact dC ho rfl (gn rfl) HK rfl (et (Hd.out 3 (by kernel_rfl))) rfl
        | 5, _ => exact dF ho rfl (gn rfl) HK rfl fA33_3 (et (Hd.out 4 (by kernel_rfl))) rfl
        | 6, _ => exact dL ho rfl (gn rfl) HK rfl (et (Hd.out 5 (by kernel_rfl))) (lA31 (bc hG hgl7 x3)) rfl
        | 7, _ => exact dF ho rfl (gn rfl) HK rfl fA150_1 (eb (Hb.out.2.2 1 (by decide))) rfl
        | 8, _ => exact dF ho rfl (gn rfl) HK rfl fA60_1 (et (Hd.out 7 (by kernel_rfl))) rfl
        | 9, _ => exact dL ho rfl (gn rfl) HK rfl (et (Hd.out 8 (by kernel_rfl))) (lA3 (bc hG hl7 y2)) rfl
        | 10, _ =>
         obtain rfl := Option.some.inj ho
         have d6 : (a.tmps[87]?.getD undef) = c := Hd.out 6 (by kernel_rfl)
         have d9 : (a.tmps[90]?.getD undef) = .int .i64 ((en : Int)) := Hd.out 9 (by kernel_rfl)
         clear Hd Hb
         refine Does.of rfl ?_
         go_simp
         refine (CD.out _ hG).mono ?_; rintro e w_ ⟨v', rfl, hO, hb2⟩
         exact HK.out _ _ (hO.lower hG.size) hb2
        | 11, _ => exact dC ho rfl (gn rfl) HK rfl (et (Hd.out 1 (by kernel_rfl))) rfl
        | 12, _ => exact dF ho rfl (gn rfl) HK rfl fA33_3 (et (Hd.out 11 (by kernel_rfl))) rfl
       ·intro vs wx hR hG
        have q1 : (vs 1) = .pointer (some ⟨g, 0, none⟩) := hR 1 (by decide)
        have q10 : OwnF W7.heap.size 94 4 cachedCs wx (vs 10) (dropC k.cache (en : Int)) := hR 10 (by decide)
        have q11 : (vs 11) = .pointer (some ⟨g, 0, none⟩) := hR 11 (by decide)
        have q12 : (vs 12) = .pointer (some ⟨g, 3, none⟩) := hR 12 (by decide)
        clear hR
        simp only [fillAt, dstOf, List.range, List.range.loop, List.foldl_cons, List.foldl_nil, q1, q11, q12]
        simp
        generalize vs 10 = z10 at q10 ⊢
        clear q1 q11 q12
        have S8 := Lib.hid (S7.out.cache hG q10)
        have fzg := blk_frozen (S7.out.below hG).ink.1
        have x3w := (S7.out.below hG).xs.2.2.2
        obtain ⟨_, _, rfl, _, _⟩ := q10.rd.shape
        clear q10 hG y0 y2 x3
        go_wp2_with fail
        go_ret
        exact ⟨by rw [HP3.out]; rfl, fun _ => ⟨_, _, _, _, by rw [HP3.out]; rw [HR.out]; exact S8.out.ink⟩, S8.out.bel⟩
      ·obtain ⟨rn, hrn⟩ : ∃ n : Nat, (envAt k.envs en).root = (n : Int) := ⟨(envAt k.envs en).root.toNat, by omega⟩
       have hr12 : rn < 12 := by have := root_lt HK.out hen; omega
       have HU := Lib.hid (show unrooted k.infos (envAt k.envs en).root = modAt k.infos rn (addR (-1)) by unfold unrooted; rw [hrn, if_pos (by omega), Int.toNat_natCast])
       rw [hrn] at D1
       have t5 : (0 : Int) ≤ (rn : Int) := by omega
       have hri : (rn : Int) < 12 := by omega
       obtain ⟨_, _, d2⟩ := S3.out.infoAt (f := rn) (by rw [HK.out.len]; exact hr12)
       have rf := HK.out.refs_le hr12
       have x1 := S3.out.xs.2.1
       have Fr := S3.out.fzi (rn * 3 + 2)
       have S4 : Hid (CS lo g w.heap.size ⟨k1, (en : Int), (an : Int), b1, c1, nm⟩ w (w3.setCell ⟨gi, rn * 3 + 2, none⟩ (.int .i64 ((infoAt k.infos rn).r - 1))) m (.slice (some ⟨gi, 0, none⟩) 12 capi) (.slice (some ⟨ge, 0, none⟩) 3 cap) c { k with infos := modAt k.infos rn (addR (-1)) }) := Lib.hid (S3.out.info HK.out.len.symm (by rw [HK.out.len]; exact hr12) (-1))
       clear ho hrn
       go_wp2_with fail
       clear y0 y1 y2 y3 y4 y5 y6 D1 d2 x1 Fr rf
       generalize w3.setCell _ _ = W4 at *
       have CE4 := S4.out.callEnv (en := en) rfl hen W4 (Below.refl _ _)
       simp only [CallV.on, CallV.onCells] at CE4
       refine CE4.mono ?_; rintro r4 w5 ⟨rfl, hb5⟩
       have S5 := Lib.hid (S4.out.below hb5)
       obtain ⟨_, _, _, D1, _⟩ := S5.out.env (j := en) (by rw [HK.out.envl]; exact hen)
       have Fe := S5.out.fze (en * 2 + 1)
       have S6 := Lib.hid (S5.out.root HK.out.envl.symm (by rw [HK.out.envl]; exact hen) ((an : Int)))
       have x1 := S5.out.xs.2.1
       obtain ⟨y0, _, _, y3, _, _, _⟩ := S5.out.ys
       obtain ⟨_, _, d2⟩ := S5.out.infoAt (f := an) (by have := HK.out.len; (try simp only [modAt_len]); omega)
       have Fr := S5.out.fzi (an * 3 + 2)
       have hA12 : an < 12 := by have := Ha.out; omega
       have rfa : 0 - 1 ≤ (infoAt (modAt k.infos rn (addR (-1))) an).r ∧ (infoAt (modAt k.infos rn (addR (-1))) an).r ≤ 47 := by
        have r1 := HK.out.refs_le hA12
        rw [infoAt_mod]
        split
        ·next hx => have r2 := HK.out.refs_le hr12; show 0 - 1 ≤ (infoAt k.infos rn).r + -1 ∧ (infoAt k.infos rn).r + -1 ≤ 47; omega
        ·omega
       have HR := Lib.hid (show rerooted (unrooted k.infos (envAt k.envs en).root) ((an : Int)) = modAt (modAt k.infos rn (addR (-1))) an (addR 1) by rw [HU.out]; unfold rerooted; rw [if_pos (by omega), Int.toNat_natCast])
       have S7 := Lib.hid (S6.out.info (by show 12 = (modAt k.infos rn (addR (-1))).length; (try simp only [modAt_len]); exact HK.out.len.symm) (f := an) (by show an < (modAt k.infos rn (addR (-1))).length; (try simp only [modAt_len]); rw [HK.out.len]; exact hA12) 1)
       have hani : (an : Int) < 12 := by omega
       simp only at S7 d2
       generalize hrv : (infoAt (modAt k.infos rn (addR (-1))) an).r = rv at *
       go_wp2_with fail
       clear D1 Fe Fr d2 x1 y0 y3 rfa hrv
       generalize World.setCell (World.setCell _ _ _) _ _ = W7 at *
       clear S6
       have Y := S7.out.ys
       obtain ⟨y0, y1, y2, _, _, _, _⟩ := Y
       obtain ⟨x0, _, _, x3⟩ := S7.out.xs
       obtain ⟨hl7, hgl7, ngb, nbg⟩ := S7.out.lts
       have RC : RdCache W7 c k.cache := S7.out.ink.2.2.2.2.2.rd
       have CD := Lib.hid (fun W (hW : Below W7.heap.size W7 W) => CacheDrop_any c k.cache (en : Int) W (RdF.below RC hW) (kok_parts HK.out).2.2)
       clear RC x0 y1
       refine wp_region_grow 13 Tryz.mixed (by kernel_rfl) 94 rfl (by kernel_rfl) (fun ix vv ww => match ix with
        | 0 => vv = .pointer (some ⟨w.heap.size, 0, none⟩)
        | 1 => vv = .pointer (some ⟨g, 0, none⟩)
        | 2 => vv = .pointer (some ⟨w.heap.size, 0, none⟩)
        | 3 => vv = .pointer (some ⟨g, 0, none⟩)
        | 4 => vv = .pointer (some ⟨g, 0, none⟩)
        | 5 => vv = .pointer (some ⟨g, 3, none⟩)
        | 6 => vv = c
        | 7 => vv = .pointer (some ⟨w.heap.size, 1, none⟩)
        | 8 => vv = .pointer (some ⟨w.heap.size, 2, none⟩)
        | 9 => vv = .int .i64 ((en : Int))
        | 10 => OwnF W7.heap.size 94 4 cachedCs ww vv (dropC k.cache (en : Int))
        | 11 => vv = .pointer (some ⟨g, 0, none⟩)
        | 12 => vv = .pointer (some ⟨g, 3, none⟩)
        | _ => True) ?_ ?_ ?_
       ·intro i hi vv wz ww' hbz hz
        match i, hi with
        | 0, _ | 1, _ | 2, _ | 3, _ | 4, _ | 5, _ | 6, _ | 7, _ | 8, _ | 9, _ => exact hz
        | 10, _ => exact (OwnF.below hz hbz)
        | 11, _ | 12, _ => exact hz
       ·intro i hi o ho a wx Hb Hd hG K HK
        match i, hi with
        | 0, _ => exact dF ho rfl (gn rfl) HK rfl fA150_0 (eb (Hb.out.2.2 1 (by decide))) rfl
        | 1, _ => exact dL ho rfl (gn rfl) HK rfl (et (Hd.out 0 (by kernel_rfl))) (lA148 (bc hG hl7 y0)) rfl
        | 2, _ => exact dF ho rfl (gn rfl) HK rfl fA150_0 (eb (Hb.out.2.2 1 (by decide))) rfl
        | 3, _ => exact dL ho rfl (gn rfl) HK rfl (et (Hd.out 2 (by kernel_rfl))) (lA148 (bc hG hl7 y0)) rfl
        | 4, _ => exact dC ho rfl (gn rfl) HK rfl (et (Hd.out 3 (by kernel_rfl))) rfl
        | 5, _ => exact dF ho rfl (gn rfl) HK rfl fA33_3 (et (Hd.out 4 (by kernel_rfl))) rfl
        | 6, _ => exact dL ho rfl (gn rfl) HK rfl (et (Hd.out 5 (by kernel_rfl))) (lA31 (bc hG hgl7 x3)) rfl
        | 7, _ => exact dF ho rfl (gn rfl) HK rfl fA150_1 (eb (Hb.out.2.2 1 (by decide))) rfl
        | 8, _ => exact dF ho rfl (gn rfl) HK rfl fA60_1 (et (Hd.out 7 (by kernel_rfl))) rfl
        | 9, _ => exact dL ho rfl (gn rfl) HK rfl (et (Hd.out 8 (by kernel_rfl))) (lA3 (bc hG hl7 y2)) rfl
        | 10, _ =>
         obtain rfl := Option.some.inj ho
         have d6 : (a.tmps[87]?.getD undef) = c := Hd.out 6 (by kernel_rfl)
         have d9 : (a.tmps[90]?.getD undef) = .int .i64 ((en : Int)) := Hd.out 9 (by kernel_rfl)
         clear Hd Hb
         refine Does.of rfl ?_
         go_simp
         refine (CD.out _ hG).mono ?_; rintro e w_ ⟨v', rfl, hO, hb2⟩
         exact HK.out _ _ (hO.lower hG.size) hb2
        | 11, _ => exact dC ho rfl (gn rfl) HK rfl (et (Hd.out 1 (by kernel_rfl))) rfl
        | 12, _ => exact dF ho rfl (gn rfl) HK rfl fA33_3 (et (Hd.out 11 (by kernel_rfl))) rfl
       ·intro vs wx hR hG
        have q1 : (vs 1) = .pointer (some ⟨g, 0, none⟩) := hR 1 (by decide)
        have q10 : OwnF W7.heap.size 94 4 cachedCs wx (vs 10) (dropC k.cache (en : Int)) := hR 10 (by decide)
        have q11 : (vs 11) = .pointer (some ⟨g, 0, none⟩) := hR 11 (by decide)
        have q12 : (vs 12) = .pointer (some ⟨g, 3, none⟩) := hR 12 (by decide)
        clear hR
        simp only [fillAt, dstOf, List.range, List.range.loop, List.foldl_cons, List.foldl_nil, q1, q11, q12]
        simp
        generalize vs 10 = z10 at q10 ⊢
        clear q1 q11 q12
        have S8 := Lib.hid (S7.out.cache hG q10)
        have fzg := blk_frozen (S7.out.below hG).ink.1
        have x3w := (S7.out.below hG).xs.2.2.2
        obtain ⟨_, _, rfl, _, _⟩ := q10.rd.shape
        clear q10 hG y0 y2 x3
        go_wp2_with fail
        go_ret
        exact ⟨by rw [HP3.out]; rfl, fun _ => ⟨_, _, _, _, by rw [HP3.out]; rw [HR.out]; exact S8.out.ink⟩, S8.out.bel⟩
   ·have t3 : ((infoAt k.infos an).k != 3) = true := by simp [e3]
    have E := Lib.hid (show rootP k ⟨k1, (en : Int), (an : Int), b1, c1, nm⟩ = (k, 0, 3) by rw [HPx.out, if_pos ⟨e1'.out, .inr e3⟩])
    clear e3
    go_enter Tryz.func177, Tryz.ntmps177
    go_wp2_with fail
    refine (C0.out _ hb0).mono ?_; rintro r w1 ⟨rfl, hbW⟩; rw [T.out]
    have hbw := hb0.trans (hbW.mono hb0.size)
    have HS := Lib.hid (HS0.out.below hbW)
    obtain ⟨y0, _, _, _, _, _, _⟩ := HS.out.ys
    obtain ⟨d0, _, _⟩ := HS.out.infoAt han
    have x1 := HS.out.xs.2.1
    clear hbW
    go_wp2_with fail
    go_ret
    exact Ends1.bad E.out (by decide) (hbw.mono hlo)
end Go.Proofs.YtjacdlekgdnndaaGreatDoor
set_option linter.unusedVariables false
set_option linter.unusedSimpArgs false
namespace Go.Proofs.YtjacdlekgdnndaaGreatDoor
theorem names_zero {g : Nat} : names g 0 = false := by simp [names, entG]
theorem names_ent {f : Int} (h0 : 0 ≤ f) (h1 : f ≤ 11) (g : Nat) : names g (ent f) = decide (g = f.toNat) := by
 obtain ⟨x, y, _⟩ := ent_names h0 h1
 unfold names
 rw [x, y, Bool.true_and]
 by_cases e : f.toNat = g
 ·simp [e]
 ·have : ¬ g = f.toNat := fun h => e h.symm
  simp [e, this]
theorem POk.lows_ne {p : PagerV} (h : POk p) {n i : Nat} (hn : n < 16) (hw : (pageAt p.pages n).w = 1) (hi : i < 4) : (lowAt p.low i).toNat ≠ (pageAt p.pages n).a.toNat := fun e => by
 have h1 := h.low_kind hi
 have h2 := h.frame_kind hn hw
 rw [e] at h1
 omega
theorem POk.root_ne {p : PagerV} (h : POk p) {n : Nat} (hn : n < 16) (hw : (pageAt p.pages n).w = 1) : (rootOf p.kern 0).toNat ≠ (pageAt p.pages n).a.toNat := fun e => by
 have h1 := h.root_lt
 have h2 := h.frame_kind hn hw
 rw [e] at h1
 omega
theorem POk.root_low {p : PagerV} (h : POk p) {i : Nat} (hi : i < 4) : (rootOf p.kern 0).toNat ≠ (lowAt p.low i).toNat := fun e => by
 have h1 := h.root_lt
 have h2 := h.low_kind hi
 rw [e] at h1
 omega
theorem page_eq {n m : Nat} (h1 : n / 4 = m / 4) (h2 : n % 4 = m % 4) : n = m := by omega
theorem POk.tab_ne {p : PagerV} (h : POk p) {n m : Nat} (hn : n < 16) (hm : m < 16) (hne : m ≠ n) : ¬ ((lowAt p.low (m / 4)).toNat = (lowAt p.low (n / 4)).toNat ∧ m % 4 = n % 4) := fun ⟨e1, e2⟩ =>
 hne (page_eq (h.low_inj (by omega) (by omega) e1) e2)
theorem POk.rowl {p : PagerV} (h : POk p) {f : Nat} (hf : f < 12) : (rowAt p.kern.mem f).length = 4 := h.k.row hf
theorem POk.meml {p : PagerV} (h : POk p) : p.kern.mem.length = 12 := (memOk_iff.1 h.k.mem).1
theorem callP_pg {k : KernV} (h : KOk k) {kind a b c : Int} : KOk (callP k (pgCall kind a b c)).1 := callP_ok h ⟨Int.le_refl 0, show (0 : Int) ≤ 2 by decide⟩
theorem out_info {p : PagerV} (h : POk p) {n : Nat} (hn : n < 16) (hw : (pageAt p.pages n).w = 1) {g : Nat} : infoAt (outP p n).kern.infos g = if g = (pageAt p.pages n).a.toNat then InfoV.zero else infoAt p.kern.infos g := by
 rw [outP_kern h hn hw]
 have fk := h.frame_kind hn hw
 obtain ⟨f1, f2, f3⟩ := h.frame_names hn hw
 show infoAt ((refer1 (refer1 p.kern.infos (wdAt p.kern.mem (lowAt p.low (n / 4)).toNat (n % 4)) (-1)) 0 1).set _ InfoV.zero) g = _
 rw [infoAt_set, refer1_len, refer1_len]
 by_cases e : g = (pageAt p.pages n).a.toNat
 ·rw [if_pos ⟨e, by rw [h.k.len]; exact fk.1⟩, if_pos e]
 ·rw [if_neg (fun h => e h.1), if_neg e, refer1_at (by rw [refer1_len]; exact h.k.len), refer1_at h.k.len]
  have e1 : names g (wdAt p.kern.mem (lowAt p.low (n / 4)).toNat (n % 4)) = false := by
   rcases h.pages n hn with ⟨a, _⟩ | ⟨_, b, c, _⟩ | ⟨a, _⟩
   ·omega
   ·have c' : wdAt p.kern.mem (lowAt p.low (n / 4)).toNat (n % 4) = ent (pageAt p.pages n).a := c
    rw [c', names_ent b.1 b.2]
    exact decide_eq_false e
   ·omega
  rw [e1, names_zero]
  simp [b2n]
theorem out_wd {p : PagerV} (h : POk p) {n : Nat} (hn : n < 16) (hw : (pageAt p.pages n).w = 1) {f i : Nat} : wdAt (outP p n).kern.mem f i = if f = (lowAt p.low (n / 4)).toNat ∧ i = n % 4 then 0 else wdAt p.kern.mem f i := by
 rw [outP_kern h hn hw]
 have hl := h.low_kind (i := n / 4) (by omega)
 exact setWd_at (by rw [h.meml]; exact hl.1) (by rw [h.rowl hl.1]; omega)
theorem out_root {p : PagerV} (h : POk p) {n : Nat} (hn : n < 16) (hw : (pageAt p.pages n).w = 1) (e : Nat) : rootOf (outP p n).kern e = rootOf p.kern e ∧ rightsOf (outP p n).kern e = rightsOf p.kern e := by
 rw [outP_kern h hn hw]; exact ⟨rfl, rfl⟩
theorem set_row {s : List (List Int)} {k j : Nat} {r : List Int} (hk : k < s.length) : rowAt (s.set k r) j = if j = k then r else rowAt s j := by
 rw [rowAt_set]
 by_cases e : j = k
 ·rw [if_pos ⟨e, hk⟩, if_pos e]
 ·rw [if_neg (fun h => e h.1), if_neg e]
theorem free_of {infos : List InfoV} {f : Nat} (hf : f < infos.length) (h : (infoAt infos f).k = 0) : 0 ≤ freeP infos := by
 unfold freeP
 rw [if_pos (any_mem.2 ⟨_, getD_mem (d := InfoV.zero) hf, by unfold infoAt at h; simpa using h⟩)]
 omega
theorem outP_ok {p : PagerV} (h : POk p) {n : Nat} (hn : n < 16) (hw : (pageAt p.pages n).w = 1) :
 POk (outP p n) ∧ (∀ a, a < 64 → wordP (outP p n) a = wordP p a) ∧ countW (outP p n).pages 1 + 1 = countW p.pages 1 ∧ 0 ≤ freeP (outP p n).kern.infos := by
 have hfree := h.slot hn (by omega)
 obtain ⟨f1, f2, f3⟩ := h.frame_names hn hw
 have fk := h.frame_kind hn hw
 have hinf := fun g => out_info h hn hw (g := g)
 have hwd := fun f i => out_wd h hn hw (f := f) (i := i)
 have hpg : (outP p n).pages = p.pages.set n ⟨2, freeSlot p.swap, false⟩ := rfl
 have hsw : (outP p n).swap = p.swap.set (freeSlot p.swap).toNat (rowAt p.kern.mem (pageAt p.pages n).a.toNat) := rfl
 have hlow : (outP p n).low = p.low := rfl
 have hpa : ∀ m, pageAt (outP p n).pages m = if m = n then ⟨2, freeSlot p.swap, false⟩ else pageAt p.pages m := fun m => by
  rw [hpg, pageAt_set]
  by_cases e : m = n
  ·rw [if_pos ⟨e, by rw [h.pagel]; exact hn⟩, if_pos e]
  ·rw [if_neg (fun h => e h.1), if_neg e]
 have hra : ∀ s, rowAt (outP p n).swap s = if s = (freeSlot p.swap).toNat then rowAt p.kern.mem (pageAt p.pages n).a.toNat else rowAt p.swap s := fun s => by
  rw [hsw, set_row (by rw [h.swapl]; exact hfree.2.1)]
 have hrow4 : rowOk (rowAt p.kern.mem (pageAt p.pages n).a.toNat) = true := (memOk_iff.1 h.k.mem).2 _ fk.1
 have hrow1 : rowAt p.kern.mem (pageAt p.pages n).a.toNat ≠ [] := fun e => by
  have := (rowOk_iff.1 hrow4).1
  rw [e] at this; simp at this
 have hcnt : countW (outP p n).pages 1 + 1 = countW p.pages 1 := by
  have := count_set (l := p.pages) (n := n) (y := ⟨2, freeSlot p.swap, false⟩) (w := 1) (by rw [h.pagel]; exact hn)
  rw [hpg]
  have e1 : b2n (isW 1 (pageAt p.pages n)) = 1 := by simp [isW, hw, b2n]
  have e2 : b2n (isW 1 ⟨2, freeSlot p.swap, false⟩) = 0 := by simp [isW, b2n]
  omega
 have hmine : ∀ g, g ≠ (pageAt p.pages n).a.toNat → Mine p.kern.infos g → Mine (outP p n).kern.infos g := fun g hg hm => by
  unfold Mine
  rw [hinf g, if_neg hg]
  exact hm
 have hr0 := (out_root h hn hw 0).1
 have hkk : KOk (outP p n).kern := callP_pg (callP_pg h.k)
 refine ⟨⟨hkk, ?_, ?_, ?_, ?_, ?_, ?_, ?_, ?_, ?_, ?_, ?_, h.hand, h.limit, ?_⟩, ?_, hcnt, ?_⟩
 ·rw [hsw, List.length_set]; exact h.swapl
 ·intro s hs
  rw [hra s]
  by_cases e : s = (freeSlot p.swap).toNat
  ·rw [if_pos e]; exact .inr hrow4
  ·rw [if_neg e]; exact h.swapr s hs
 ·rw [(out_root h hn hw 0).2]; exact h.may
 ·intro e h1 h2
  rw [(out_root h hn hw e).2]; exact h.alone e h1 h2
 ·rw [hr0]; exact h.root
 ·exact h.lowl
 ·rw [hr0]; exact hmine _ (h.root_ne hn hw) h.mroot
 ·intro i hi
  obtain ⟨a, b, c, d⟩ := h.lows i hi
  refine ⟨a, b, ?_, hmine _ (h.lows_ne hn hw hi) d⟩
  rw [hr0, hwd, if_neg (fun e => h.root_low (i := n / 4) (by omega) e.1)]
  exact c
 ·rw [hpg, List.length_set]; exact h.pagel
 ·intro s hs
  have h1 := slot_set (l := p.pages) (n := n) (s := s) (y := ⟨2, freeSlot p.swap, false⟩) (by rw [h.pagel]; exact hn)
  have e1 : b2n (atSlot s (pageAt p.pages n)) = 0 := by simp [atSlot, hw, b2n]
  have h2 := h.slots s hs
  rw [hra s, hpg]
  by_cases e : s = (freeSlot p.swap).toNat
  ·rw [if_pos e]
   have e2 : b2n (atSlot s ⟨2, freeSlot p.swap, false⟩) = 1 := by
    have : freeSlot p.swap = (s : Int) := by omega
    simp [atSlot, this, b2n]
   rw [if_neg (by rw [isEmpty_iff']; exact hrow1)]
   rw [e, hfree.2.2] at h2
   rw [← e] at h2
   simp at h2
   omega
  ·rw [if_neg e]
   have e2 : b2n (atSlot s ⟨2, freeSlot p.swap, false⟩) = 0 := by
    have : ¬ freeSlot p.swap = (s : Int) := by omega
    simp [atSlot, this, b2n]
   omega
 ·intro m hm
  have htw : tabWord (outP p n) m = if m = n then 0 else tabWord p m := by
   unfold tabWord
   rw [hlow, hwd]
   by_cases e : m = n
   ·subst e; rw [if_pos ⟨rfl, rfl⟩, if_pos rfl]
   ·rw [if_neg (h.tab_ne hn hm e), if_neg e]
  unfold PageOk
  rw [hpa m, htw]
  by_cases e : m = n
  ·simp only [if_pos e]
   refine .inr (.inr ⟨by simp, ⟨hfree.1, by have := hfree.2.1; show freeSlot p.swap ≤ 15; omega⟩, ?_, by simp, by simp⟩)
   rw [hra, if_pos rfl]; exact hrow1
  ·simp only [if_neg e]
   rcases h.pages m hm with x | ⟨x1, x2, x3, x4⟩ | ⟨x1, x2, x3, x4, x5⟩
   ·exact .inl x
   ·refine .inr (.inl ⟨x1, x2, x3, hmine _ (fun e' => e (h.frame_inj hm hn x1 hw e')) x4⟩)
   ·refine .inr (.inr ⟨x1, x2, ?_, x4, x5⟩)
    rw [hra, if_neg]
    ·exact x3
    ·intro e'
     rw [e'] at x3
     exact x3 hfree.2.2
 ·have := h.count
  show (countW (outP p n).pages 1 : Int) ≤ p.limit
  omega
 ·intro a ha
  unfold wordP
  rw [hpa (a / 4)]
  by_cases e : a / 4 = n
  ·subst e
   rw [if_pos rfl, if_neg (show ¬ (2 : Int) = 1 by decide), if_pos (show (2 : Int) = 2 from rfl), if_pos hw]
   unfold wdAt
   rw [hra, if_pos rfl]
  ·rw [if_neg e]
   by_cases w1 : (pageAt p.pages (a / 4)).w = 1
   ·rw [if_pos w1, if_pos w1, hwd, if_neg (fun e' => h.lows_ne (i := n / 4) (n := a / 4) (by omega) w1 (by omega) e'.1.symm)]
   ·rw [if_neg w1, if_neg w1]
    by_cases w2 : (pageAt p.pages (a / 4)).w = 2
    ·rw [if_pos w2, if_pos w2]
     unfold wdAt
     rw [hra, if_neg]
     rcases h.pages (a / 4) (by omega) with ⟨x, _⟩ | ⟨x, _⟩ | ⟨x1, x2, x3, x4, x5⟩
     ·omega
     ·omega
     ·intro e'
      rw [e'] at x3
      exact x3 hfree.2.2
    ·rw [if_neg w2, if_neg w2]
 ·have hlen : (outP p n).kern.infos.length = 12 := hkk.len
  exact free_of (f := (pageAt p.pages n).a.toNat) (by rw [hlen]; exact fk.1) (by rw [hinf, if_pos rfl]; rfl)
theorem row4 {r : List Int} (h : r.length = 4) : (((r.set 0 (r.getD 0 0)).set 1 (r.getD 1 0)).set 2 (r.getD 2 0)).set 3 (r.getD 3 0) = r := by
 match r, h with
 | [a, b, c, d], _ => rfl
theorem set4 {x r : List Int} (hx : x.length = 4) (h : r.length = 4) : (((x.set 0 (r.getD 0 0)).set 1 (r.getD 1 0)).set 2 (r.getD 2 0)).set 3 (r.getD 3 0) = r := by
 match x, hx, r, h with
 | [_, _, _, _], _, [a, b, c, d], _ => rfl
theorem setWd_row {m : List (List Int)} {f i : Nat} {w : Int} : setWd m f i w = m.set f ((rowAt m f).set i w) := setWd_eq
theorem setWd_set {m : List (List Int)} {f i : Nat} {r : List Int} {w : Int} (hf : f < m.length) : setWd (m.set f r) f i w = m.set f (r.set i w) := by
 rw [setWd_row, set_row hf, if_pos rfl, List.set_set]
theorem pokes_eq {k : KernV} (hm : mayP (rightsOf k 0) gA = true) {f : Int} (h0 : 0 ≤ f) (h1 : f ≤ 11) (hl : k.mem.length = 12) (hk : kindAt k f.toNat = 1) (hg : (infoAt k.infos f.toNat).g = gA) (hr4 : (rowAt k.mem f.toNat).length = 4) {ws : List Int} (hw : rowOk ws = true) :
 pokes k f ws = { k with mem := k.mem.set f.toNat ws } := by
 obtain ⟨hwl, hww⟩ := rowOk_iff.1 hw
 have ok : ∀ i, i < 4 → wordOk (ws.getD i 0) = true := fun i hi => inB_iff.2 (hww _ (getD_mem (by omega)))
 have hf : f.toNat < k.mem.length := by rw [hl]; omega
 have st : ∀ (k' : KernV) (i : Nat), k'.infos = k.infos → k'.envs = k.envs → i < 4 → (callP k' (pgCall 3 f (i : Nat) (ws.getD i 0))).1 = { k' with mem := setWd k'.mem f.toNat i (ws.getD i 0) } := fun k' i e1 e2 hi => by
  have hm' : mayP (rightsOf k' 0) gA = true := by unfold rightsOf; rw [e2]; exact hm
  rw [poke_done hm' h0 h1 (by unfold kindAt; rw [e1]; exact hk) (by rw [e1]; exact hg) hi (ok i hi)]
 have e : (List.range 4) = [0, 1, 2, 3] := rfl
 unfold pokes
 rw [e]
 simp only [List.foldl_cons, List.foldl_nil]
 rw [st k 0 rfl rfl (by omega)]
 rw [st { k with mem := setWd k.mem f.toNat 0 (ws.getD 0 0) } 1 rfl rfl (by omega)]
 rw [st { k with mem := setWd (setWd k.mem f.toNat 0 (ws.getD 0 0)) f.toNat 1 (ws.getD 1 0) } 2 rfl rfl (by omega)]
 rw [st { k with mem := setWd (setWd (setWd k.mem f.toNat 0 (ws.getD 0 0)) f.toNat 1 (ws.getD 1 0)) f.toNat 2 (ws.getD 2 0) } 3 rfl rfl (by omega)]
 congr 1
 show setWd (setWd (setWd (setWd k.mem f.toNat 0 _) f.toNat 1 _) f.toNat 2 _) f.toNat 3 _ = _
 rw [setWd_row (m := k.mem), setWd_set hf, setWd_set hf, setWd_set hf, set4 hr4 hwl]
def kernIn (k : KernV) (f t b : Nat) (row : List Int) : KernV := kernSet { k with infos := k.infos.set f ⟨1, gA, 0⟩, mem := k.mem.set f row } t b (ent f)
theorem inP_eq {p : PagerV} (h : POk p) {n : Nat} (hn : n < 16) (hw : (pageAt p.pages n).w ≠ 1) (hf : 0 ≤ freeP p.kern.infos) :
 inP p n = ({ p with kern := kernIn p.kern (freeP p.kern.infos).toNat (lowAt p.low (n / 4)).toNat (n % 4) (if (pageAt p.pages n).w = 2 then rowAt p.swap (pageAt p.pages n).a.toNat else [0, 0, 0, 0]), swap := if (pageAt p.pages n).w = 2 then p.swap.set (pageAt p.pages n).a.toNat [] else p.swap, pages := p.pages.set n ⟨1, freeP p.kern.infos, true⟩ }, true) ∧
 KOk (kernIn p.kern (freeP p.kern.infos).toNat (lowAt p.low (n / 4)).toNat (n % 4) (if (pageAt p.pages n).w = 2 then rowAt p.swap (pageAt p.pages n).a.toNat else [0, 0, 0, 0])) := by
 obtain ⟨g1, g2, g3⟩ := freeP_some (infos := p.kern.infos) (by omega)
 have hlen := h.k.len
 rw [hlen] at g1
 have hl := h.lows (n / 4) (by omega)
 have hlk := h.low_kind (i := n / 4) (by omega)
 have hml := h.meml
 have hne : (lowAt p.low (n / 4)).toNat ≠ (freeP p.kern.infos).toNat := fun e => by
  have := hlk.2
  unfold kindAt at this
  rw [e, g2] at this
  omega
 have e1 := take_done (k := p.kern) h.may hf (a := 0) (b := 0) (c := 0)
 have hk1 : KOk (callP p.kern (pgCall 1 0 0 0)).1 := callP_pg h.k
 rw [e1] at hk1
 have hin : ∀ g, infoAt (p.kern.infos.set (freeP p.kern.infos).toNat ⟨1, gA, 0⟩) g = if g = (freeP p.kern.infos).toNat then ⟨1, gA, 0⟩ else infoAt p.kern.infos g := fun g => by
  rw [infoAt_set, hlen]
  by_cases e : g = (freeP p.kern.infos).toNat
  ·rw [if_pos ⟨e, g1⟩, if_pos e]
  ·rw [if_neg (fun h => e h.1), if_neg e]
 have e2 : (if (pageAt p.pages n).w = 2 then pokes { p.kern with infos := p.kern.infos.set (freeP p.kern.infos).toNat ⟨1, gA, 0⟩, mem := p.kern.mem.set (freeP p.kern.infos).toNat [0, 0, 0, 0] } (freeP p.kern.infos) (rowAt p.swap (pageAt p.pages n).a.toNat) else { p.kern with infos := p.kern.infos.set (freeP p.kern.infos).toNat ⟨1, gA, 0⟩, mem := p.kern.mem.set (freeP p.kern.infos).toNat [0, 0, 0, 0] }) =
  { p.kern with infos := p.kern.infos.set (freeP p.kern.infos).toNat ⟨1, gA, 0⟩, mem := p.kern.mem.set (freeP p.kern.infos).toNat (if (pageAt p.pages n).w = 2 then rowAt p.swap (pageAt p.pages n).a.toNat else [0, 0, 0, 0]) } := by
  by_cases w2 : (pageAt p.pages n).w = 2
  ·rw [if_pos w2, if_pos w2]
   have hrow : rowOk (rowAt p.swap (pageAt p.pages n).a.toNat) = true := by
    rcases h.pages n hn with ⟨x, _⟩ | ⟨x, _⟩ | ⟨x1, x2, x3, x4, x5⟩
    ·omega
    ·omega
    ·rcases h.swapr (pageAt p.pages n).a.toNat (by omega) with x | x
     ·exact absurd x x3
     ·exact x
   rw [pokes_eq (k := { p.kern with infos := p.kern.infos.set (freeP p.kern.infos).toNat ⟨1, gA, 0⟩, mem := p.kern.mem.set (freeP p.kern.infos).toNat [0, 0, 0, 0] }) h.may hf (by omega) (by show (p.kern.mem.set _ _).length = 12; rw [List.length_set]; exact hml) (by unfold kindAt; rw [hin, if_pos rfl]) (by rw [hin, if_pos rfl]) (by show (rowAt (p.kern.mem.set _ _) _).length = 4; rw [set_row (by omega), if_pos rfl]; rfl) hrow]
   show KernV.mk _ _ _ _ = KernV.mk _ _ _ _
   rw [List.set_set]
  ·rw [if_neg w2, if_neg w2]
 have hrow : rowOk (if (pageAt p.pages n).w = 2 then rowAt p.swap (pageAt p.pages n).a.toNat else [0, 0, 0, 0]) = true := by
  by_cases w2 : (pageAt p.pages n).w = 2
  ·rw [if_pos w2]
   rcases h.pages n hn with ⟨x, _⟩ | ⟨x, _⟩ | ⟨x1, x2, x3, x4, x5⟩
   ·omega
   ·omega
   ·rcases h.swapr (pageAt p.pages n).a.toNat (by omega) with x | x
    ·exact absurd x x3
    ·exact x
  ·rw [if_neg w2]; rfl
 generalize hR : (if (pageAt p.pages n).w = 2 then rowAt p.swap (pageAt p.pages n).a.toNat else [0, 0, 0, 0]) = row at e2 hrow ⊢
 have hk2 : KOk { p.kern with infos := p.kern.infos.set (freeP p.kern.infos).toNat ⟨1, gA, 0⟩, mem := p.kern.mem.set (freeP p.kern.infos).toNat row } := by
  have := KOk.data h.k g1 (.inl g2) hrow (x := ⟨1, gA, 0⟩) (.inr ⟨by decide, by decide, by decide⟩) (.inr rfl) (by rw [KOk.free_unused h.k g1 g2]) (.inr (KOk.free_unused h.k g1 g2)) h.k.cache h.k.trans
  exact this
 have e3 := set_done hk2 h.may h.alone hl.1 hl.2.1 (by unfold kindAt; rw [hin, if_neg hne]; exact hlk.2) (by rw [hin, if_neg hne]; exact hl.2.2.2.1) (b := n % 4) (by omega) (w := ent (freeP p.kern.infos)) (.inr ⟨_, hf, by omega, rfl, by unfold kindAt; rw [hin, if_pos rfl], by rw [hin, if_pos rfl]⟩)
 have e4 : ((freeP p.kern.infos).toNat : Int) = freeP p.kern.infos := by omega
 have hk3 := callP_pg hk2 (kind := 6) (a := lowAt p.low (n / 4)) (b := ((n % 4 : Nat) : Int)) (c := ent (freeP p.kern.infos))
 rw [e3] at hk3
 refine ⟨?_, by unfold kernIn; rw [e4]; exact hk3⟩
 unfold inP
 rw [e1]
 simp only
 rw [if_neg (by simp), e2]
 unfold setCall
 rw [e3]
 unfold kernIn
 rw [e4]
theorem POk.tab_zero {p : PagerV} (h : POk p) {n : Nat} (hn : n < 16) (hw : (pageAt p.pages n).w ≠ 1) : tabWord p n = 0 := by
 rcases h.pages n hn with ⟨_, _, _, x⟩ | ⟨x, _⟩ | ⟨_, _, _, _, x⟩
 ·exact x
 ·exact absurd x hw
 ·exact x
theorem inP_ok {p : PagerV} (h : POk p) {n : Nat} (hn : n < 16) (hw : (pageAt p.pages n).w ≠ 1) (hf : 0 ≤ freeP p.kern.infos) (hc : (countW p.pages 1 : Int) + 1 ≤ p.limit) :
 POk (inP p n).1 ∧ (inP p n).2 = true ∧ (∀ a, a < 64 → wordP (inP p n).1 a = wordP p a) ∧ countW (inP p n).1.pages 1 = countW p.pages 1 + 1 ∧ (inP p n).1.pages = p.pages.set n ⟨1, freeP p.kern.infos, true⟩ := by
 obtain ⟨hin, hkk⟩ := inP_eq h hn hw hf
 obtain ⟨g1, g2, g3⟩ := freeP_some (infos := p.kern.infos) (by omega)
 have hlen := h.k.len
 rw [hlen] at g1
 generalize hR : (if (pageAt p.pages n).w = 2 then rowAt p.swap (pageAt p.pages n).a.toNat else [0, 0, 0, 0]) = row at hin hkk
 generalize hS : (if (pageAt p.pages n).w = 2 then p.swap.set (pageAt p.pages n).a.toNat [] else p.swap) = sw at hin
 have hml := h.meml
 have hl := h.lows (n / 4) (by omega)
 have hlk := h.low_kind (i := n / 4) (by omega)
 have kne : ∀ g, kindAt p.kern g ≠ 0 → g ≠ (freeP p.kern.infos).toNat := fun g hg e => by
  unfold kindAt at hg
  rw [e] at hg
  exact hg g2
 have hrne : (rootOf p.kern 0).toNat ≠ (freeP p.kern.infos).toNat := kne _ (by rw [h.root_lt.2]; decide)
 have hlne : ∀ i, i < 4 → (lowAt p.low i).toNat ≠ (freeP p.kern.infos).toNat := fun i hi => kne _ (by rw [(h.low_kind hi).2]; decide)
 have hfne : ∀ m, m < 16 → (pageAt p.pages m).w = 1 → (pageAt p.pages m).a.toNat ≠ (freeP p.kern.infos).toNat := fun m hm hmw => kne _ (by rw [(h.frame_kind hm hmw).2]; decide)
 have hrow4 : rowOk row = true := by
  rw [← hR]
  by_cases w2 : (pageAt p.pages n).w = 2
  ·rw [if_pos w2]
   rcases h.pages n hn with ⟨x, _⟩ | ⟨x, _⟩ | ⟨x1, x2, x3, x4, x5⟩
   ·omega
   ·omega
   ·rcases h.swapr (pageAt p.pages n).a.toNat (by omega) with x | x
    ·exact absurd x x3
    ·exact x
  ·rw [if_neg w2]; rfl
 have hr4 := (rowOk_iff.1 hrow4).1
 have e0 : wdAt (p.kern.mem.set (freeP p.kern.infos).toNat row) (lowAt p.low (n / 4)).toNat (n % 4) = 0 := by
  unfold wdAt
  rw [set_row (by omega), if_neg (hlne _ (by omega))]
  exact h.tab_zero hn hw
 have e4 : ((freeP p.kern.infos).toNat : Int) = freeP p.kern.infos := by omega
 have hwd : ∀ f i, wdAt (kernIn p.kern (freeP p.kern.infos).toNat (lowAt p.low (n / 4)).toNat (n % 4) row).mem f i = if f = (lowAt p.low (n / 4)).toNat ∧ i = n % 4 then ent (freeP p.kern.infos) else if f = (freeP p.kern.infos).toNat then row.getD i 0 else wdAt p.kern.mem f i := fun f i => by
  unfold kernIn kernSet
  show wdAt (setWd (p.kern.mem.set (freeP p.kern.infos).toNat row) _ _ _) f i = _
  rw [setWd_at (by rw [List.length_set, hml]; exact hlk.1) (by rw [set_row (by omega), if_neg (hlne _ (by omega)), h.rowl hlk.1]; omega), e4]
  congr 1
  unfold wdAt
  rw [set_row (by omega)]
  by_cases e : f = (freeP p.kern.infos).toNat
  ·rw [if_pos e, if_pos e]
  ·rw [if_neg e, if_neg e]
 have hinf : ∀ g, infoAt (kernIn p.kern (freeP p.kern.infos).toNat (lowAt p.low (n / 4)).toNat (n % 4) row).infos g = if g = (freeP p.kern.infos).toNat then ⟨1, gA, 1⟩ else infoAt p.kern.infos g := fun g => by
  unfold kernIn kernSet
  show infoAt (refer1 (refer1 (p.kern.infos.set (freeP p.kern.infos).toNat ⟨1, gA, 0⟩) (wdAt (p.kern.mem.set (freeP p.kern.infos).toNat row) _ _) (-1)) (ent _) 1) g = _
  rw [refer1_at (by rw [refer1_len, List.length_set]; exact hlen), refer1_at (by rw [List.length_set]; exact hlen), e0, names_zero, e4, names_ent hf (by omega), infoAt_set, hlen]
  by_cases e : g = (freeP p.kern.infos).toNat
  ·rw [if_pos ⟨e, g1⟩, if_pos e]
   simp [b2n, e]
  ·rw [if_neg (fun h => e h.1), if_neg e]
   simp [b2n, e]
 have hpa : ∀ m, pageAt (p.pages.set n ⟨1, freeP p.kern.infos, true⟩) m = if m = n then ⟨1, freeP p.kern.infos, true⟩ else pageAt p.pages m := fun m => by
  rw [pageAt_set]
  by_cases e : m = n
  ·rw [if_pos ⟨e, by rw [h.pagel]; exact hn⟩, if_pos e]
  ·rw [if_neg (fun h => e h.1), if_neg e]
 have hcnt : countW (p.pages.set n ⟨1, freeP p.kern.infos, true⟩) 1 = countW p.pages 1 + 1 := by
  have := count_set (l := p.pages) (n := n) (y := ⟨1, freeP p.kern.infos, true⟩) (w := 1) (by rw [h.pagel]; exact hn)
  have e1 : b2n (isW 1 (pageAt p.pages n)) = 0 := by simp [isW, hw, b2n]
  have e2 : b2n (isW 1 ⟨1, freeP p.kern.infos, true⟩) = 1 := by simp [isW, b2n]
  omega
 have hmine : ∀ g, g ≠ (freeP p.kern.infos).toNat → Mine p.kern.infos g → Mine (kernIn p.kern (freeP p.kern.infos).toNat (lowAt p.low (n / 4)).toNat (n % 4) row).infos g := fun g hg hm => by
  unfold Mine
  rw [hinf g, if_neg hg]
  exact hm
 have hmf : Mine (kernIn p.kern (freeP p.kern.infos).toNat (lowAt p.low (n / 4)).toNat (n % 4) row).infos (freeP p.kern.infos).toNat := by
  unfold Mine
  rw [hinf, if_pos rfl]
  exact ⟨rfl, rfl⟩
 have hra : ∀ s, rowAt sw s = if (pageAt p.pages n).w = 2 ∧ s = (pageAt p.pages n).a.toNat then [] else rowAt p.swap s := fun s => by
  rw [← hS]
  by_cases w2 : (pageAt p.pages n).w = 2
  ·rcases h.pages n hn with ⟨x, _⟩ | ⟨x, _⟩ | ⟨x1, x2, x3, x4, x5⟩
   ·omega
   ·omega
   ·rw [if_pos w2, set_row (by rw [h.swapl]; omega)]
    by_cases e : s = (pageAt p.pages n).a.toNat
    ·rw [if_pos e, if_pos ⟨w2, e⟩]
    ·rw [if_neg e, if_neg (fun h => e h.2)]
  ·rw [if_neg w2, if_neg (fun h => w2 h.1)]
 have hswl : sw.length = 16 := by
  rw [← hS]
  split
  ·rw [List.length_set]; exact h.swapl
  ·exact h.swapl
 rw [hin]
 have slot_ne : ∀ m, m < 16 → m ≠ n → (pageAt p.pages m).w = 2 → ¬ ((pageAt p.pages n).w = 2 ∧ (pageAt p.pages m).a.toNat = (pageAt p.pages n).a.toNat) := by
  rintro m hm hne m2 ⟨n2, e⟩
  have r1 : 0 ≤ (pageAt p.pages m).a ∧ (pageAt p.pages m).a ≤ 15 := by
   rcases h.pages m hm with ⟨x, _⟩ | ⟨x, _⟩ | ⟨x1, x2, x3, x4, x5⟩
   ·omega
   ·omega
   ·exact x2
  have r2 : 0 ≤ (pageAt p.pages n).a ∧ (pageAt p.pages n).a ≤ 15 := by
   rcases h.pages n hn with ⟨x, _⟩ | ⟨x, _⟩ | ⟨x1, x2, x3, x4, x5⟩
   ·omega
   ·omega
   ·exact x2
  have hs := h.slots (pageAt p.pages n).a.toNat (by omega)
  have h1 := slot_set (l := p.pages) (n := n) (s := (pageAt p.pages n).a.toNat) (y := ⟨0, 0, false⟩) (by rw [h.pagel]; exact hn)
  have h2 := slot_set (l := p.pages.set n ⟨0, 0, false⟩) (n := m) (s := (pageAt p.pages n).a.toNat) (y := ⟨0, 0, false⟩) (by rw [List.length_set, h.pagel]; exact hm)
  rw [pageAt_set, if_neg (fun h => hne h.1)] at h2
  have b1 : b2n (atSlot (pageAt p.pages n).a.toNat (pageAt p.pages n)) = 1 := by
   have : (pageAt p.pages n).a = (((pageAt p.pages n).a.toNat : Nat) : Int) := by omega
   unfold atSlot
   rw [decide_eq_true n2, decide_eq_true this]; rfl
  have b2 : b2n (atSlot (pageAt p.pages n).a.toNat (pageAt p.pages m)) = 1 := by
   have : (pageAt p.pages m).a = (((pageAt p.pages n).a.toNat : Nat) : Int) := by omega
   unfold atSlot
   rw [decide_eq_true m2, decide_eq_true this]; rfl
  have b3 : b2n (atSlot (pageAt p.pages n).a.toNat ⟨0, 0, false⟩) = 0 := by simp [atSlot, b2n]
  split at hs <;> omega
 refine ⟨⟨hkk, hswl, ?_, h.may, h.alone, h.root, h.lowl, hmine _ hrne h.mroot, ?_, ?_, ?_, ?_, h.hand, h.limit, ?_⟩, rfl, ?_, hcnt, rfl⟩
 ·intro s hs
  rw [hra s]
  split
  ·exact .inl rfl
  ·exact h.swapr s hs
 ·intro i hi
  obtain ⟨a, b, c, d⟩ := h.lows i hi
  refine ⟨a, b, ?_, hmine _ (hlne i hi) d⟩
  show wdAt (kernIn p.kern _ _ _ row).mem (rootOf p.kern 0).toNat i = _
  rw [hwd, if_neg (fun e => h.root_low (i := n / 4) (by omega) e.1), if_neg hrne]
  exact c
 ·show (p.pages.set n _).length = 16
  rw [List.length_set]; exact h.pagel
 ·intro s hs
  have h1 := slot_set (l := p.pages) (n := n) (s := s) (y := ⟨1, freeP p.kern.infos, true⟩) (by rw [h.pagel]; exact hn)
  have e2 : b2n (atSlot s ⟨1, freeP p.kern.infos, true⟩) = 0 := by simp [atSlot, b2n]
  have h2 := h.slots s hs
  show slotUse (p.pages.set n _) s = if (rowAt sw s).isEmpty then 0 else 1
  rw [hra s]
  by_cases e : (pageAt p.pages n).w = 2 ∧ s = (pageAt p.pages n).a.toNat
  ·rw [if_pos e]
   have a0 : 0 ≤ (pageAt p.pages n).a ∧ rowAt p.swap (pageAt p.pages n).a.toNat ≠ [] := by
    rcases h.pages n hn with ⟨x, _⟩ | ⟨x, _⟩ | ⟨x1, x2, x3, x4, x5⟩
    ·omega
    ·omega
    ·exact ⟨x2.1, x3⟩
   have e1 : b2n (atSlot s (pageAt p.pages n)) = 1 := by
    have : (pageAt p.pages n).a = (s : Int) := by omega
    unfold atSlot
    rw [decide_eq_true e.1, decide_eq_true this]; rfl
   rw [if_neg (by rw [isEmpty_iff', e.2]; exact a0.2)] at h2
   simp
   omega
  ·rw [if_neg e]
   have e1 : b2n (atSlot s (pageAt p.pages n)) = 0 := by
    unfold atSlot
    by_cases w2 : (pageAt p.pages n).w = 2
    ·have : ¬ (pageAt p.pages n).a = (s : Int) := fun h => e ⟨w2, by omega⟩
     rw [decide_eq_false this]; simp [b2n]
    ·rw [decide_eq_false w2]; simp [b2n]
   omega
 ·intro m hm
  have htw : tabWord { p with kern := kernIn p.kern (freeP p.kern.infos).toNat (lowAt p.low (n / 4)).toNat (n % 4) row, swap := sw, pages := p.pages.set n ⟨1, freeP p.kern.infos, true⟩ } m = if m = n then ent (freeP p.kern.infos) else tabWord p m := by
   unfold tabWord
   show wdAt (kernIn p.kern _ _ _ row).mem (lowAt p.low (m / 4)).toNat (m % 4) = _
   rw [hwd]
   by_cases e : m = n
   ·subst e; rw [if_pos ⟨rfl, rfl⟩, if_pos rfl]
   ·rw [if_neg (h.tab_ne hn hm e), if_neg (hlne _ (by omega)), if_neg e]
  unfold PageOk
  rw [htw]
  show (pageAt (p.pages.set n _) m).w = 0 ∧ (pageAt (p.pages.set n _) m).a = 0 ∧ (pageAt (p.pages.set n _) m).u = false ∧ _ ∨ (pageAt (p.pages.set n _) m).w = 1 ∧ _ ∧ _ = ent (pageAt (p.pages.set n _) m).a ∧ Mine _ (pageAt (p.pages.set n _) m).a.toNat ∨ (pageAt (p.pages.set n _) m).w = 2 ∧ _ ∧ rowAt sw (pageAt (p.pages.set n _) m).a.toNat ≠ [] ∧ (pageAt (p.pages.set n _) m).u = false ∧ _
  rw [hpa m]
  by_cases e : m = n
  ·simp only [if_pos e]
   exact .inr (.inl ⟨by simp, ⟨hf, by show freeP p.kern.infos ≤ 11; omega⟩, by simp, hmf⟩)
  ·simp only [if_neg e]
   rcases h.pages m hm with x | ⟨x1, x2, x3, x4⟩ | ⟨x1, x2, x3, x4, x5⟩
   ·exact .inl x
   ·exact .inr (.inl ⟨x1, x2, x3, hmine _ (hfne m hm x1) x4⟩)
   ·refine .inr (.inr ⟨x1, x2, ?_, x4, x5⟩)
    rw [hra, if_neg (slot_ne m hm e x1)]
    exact x3
 ·show (countW (p.pages.set n _) 1 : Int) ≤ p.limit
  omega
 ·intro a ha
  unfold wordP
  show (if (pageAt (p.pages.set n _) (a / 4)).w = 1 then wdAt (kernIn p.kern _ _ _ row).mem (pageAt (p.pages.set n _) (a / 4)).a.toNat (a % 4) else if (pageAt (p.pages.set n _) (a / 4)).w = 2 then wdAt sw (pageAt (p.pages.set n _) (a / 4)).a.toNat (a % 4) else 0) = _
  rw [hpa (a / 4)]
  by_cases e : a / 4 = n
  ·subst e
   rw [if_pos rfl, if_pos (show (1 : Int) = 1 from rfl), hwd, if_neg (fun e' => hlne (a / 4 / 4) (by omega) e'.1.symm), if_pos rfl, if_neg hw, ← hR]
   by_cases w2 : (pageAt p.pages (a / 4)).w = 2
   ·rw [if_pos w2, if_pos w2]; rfl
   ·rw [if_neg w2, if_neg w2]
    have : a % 4 = 0 ∨ a % 4 = 1 ∨ a % 4 = 2 ∨ a % 4 = 3 := by omega
    rcases this with h | h | h | h <;> rw [h] <;> rfl
  ·rw [if_neg e]
   by_cases w1 : (pageAt p.pages (a / 4)).w = 1
   ·rw [if_pos w1, if_pos w1, hwd, if_neg (fun e' => h.lows_ne (i := n / 4) (n := a / 4) (by omega) w1 (by omega) e'.1.symm), if_neg (hfne _ (by omega) w1)]
   ·rw [if_neg w1, if_neg w1]
    by_cases w2 : (pageAt p.pages (a / 4)).w = 2
    ·rw [if_pos w2, if_pos w2]
     unfold wdAt
     rw [hra, if_neg (slot_ne _ (by omega) e w2)]
    ·rw [if_neg w2, if_neg w2]
def far (hand : Int) (i : Nat) : Nat := ((i : Int) - hand).toNat + (if (i : Int) < hand then ((i : Int) + 16 - hand).toNat else 0)
theorem far_self {hand : Int} (h0 : 0 ≤ hand) : far hand hand.toNat = 0 := by
 unfold far
 split <;> omega
theorem far_lt {hand : Int} (h0 : 0 ≤ hand) (h1 : hand ≤ 15) {i : Nat} (hi : i < 16) : far hand i < 16 := by
 unfold far
 split <;> omega
theorem far_next {hand : Int} (h0 : 0 ≤ hand) (h1 : hand ≤ 15) {i : Nat} (hi : i < 16) (hne : hand.toNat ≠ i) : far (nextHand hand) i + 1 = far hand i := by
 have e : nextHand hand = if hand = 15 then 0 else hand + 1 := by
  unfold nextHand
  split <;> omega
 rw [e]
 unfold far
 split
 ·subst_vars
  split <;> split <;> omega
 ·split <;> split <;> omega
theorem far_back {hand : Int} (h0 : 0 ≤ hand) (h1 : hand ≤ 15) : far (nextHand hand) hand.toNat = 15 := by
 have e : nextHand hand = if hand = 15 then 0 else hand + 1 := by
  unfold nextHand
  split <;> omega
 rw [e]
 unfold far
 split
 ·subst_vars
  split <;> omega
 ·split <;> omega
theorem next_in {hand : Int} (h0 : 0 ≤ hand) (h1 : hand ≤ 15) : 0 ≤ nextHand hand ∧ nextHand hand ≤ 15 := by unfold nextHand; omega
theorem unuse_at {pages : List PageV} {j i : Nat} : (pageAt (pages.set j (unuse (pageAt pages j))) i).w = (pageAt pages i).w ∧ (pageAt (pages.set j (unuse (pageAt pages j))) i).a = (pageAt pages i).a ∧
 ((pageAt (pages.set j (unuse (pageAt pages j))) i).u = true → (pageAt pages i).u = true) ∧ (i ≠ j → pageAt (pages.set j (unuse (pageAt pages j))) i = pageAt pages i) := by
 rw [pageAt_set]
 by_cases e : i = j ∧ j < pages.length
 ·rw [if_pos e]
  obtain ⟨rfl, _⟩ := e
  exact ⟨rfl, rfl, (fun h => by cases h), fun h => absurd rfl h⟩
 ·rw [if_neg e]
  exact ⟨rfl, rfl, fun h => h, fun _ => rfl⟩
structure Unused (a b : List PageV) : Prop where
 len : b.length = a.length
 w : ∀ i, (pageAt b i).w = (pageAt a i).w
 at' : ∀ i, (pageAt b i).a = (pageAt a i).a
 u : ∀ i, (pageAt b i).u = true → (pageAt a i).u = true
theorem Unused.refl (a : List PageV) : Unused a a := ⟨rfl, fun _ => rfl, fun _ => rfl, fun _ h => h⟩
theorem Unused.step {a b : List PageV} {j : Nat} (h : Unused (a.set j (unuse (pageAt a j))) b) : Unused a b :=
 ⟨by rw [h.len, List.length_set], fun i => (h.w i).trans unuse_at.1, fun i => (h.at' i).trans unuse_at.2.1, fun i hi => unuse_at.2.2.1 (h.u i hi)⟩
theorem victim_unused : ∀ (n : Nat) (pages : List PageV) (hand : Int), Unused pages (victimP n pages hand).1
 | 0, pages, hand => Unused.refl _
 | n + 1, pages, hand => by
  unfold victimP
  split
  ·exact Unused.refl _
  ·exact (victim_unused n _ _).step
theorem victim_hand : ∀ (n : Nat) (pages : List PageV) (hand : Int), 0 ≤ hand → hand ≤ 15 → 0 ≤ (victimP n pages hand).2.1 ∧ (victimP n pages hand).2.1 ≤ 15
 | 0, pages, hand, h0, h1 => ⟨h0, h1⟩
 | n + 1, pages, hand, h0, h1 => by
  have := next_in h0 h1
  unfold victimP
  split
  ·exact this
  ·exact victim_hand n _ _ this.1 this.2
theorem victim_some : ∀ (n : Nat) (pages : List PageV) (hand : Int), 0 ≤ hand → hand ≤ 15 → pages.length = 16 → ∀ i, i < 16 → (pageAt pages i).w = 1 →
 ((pageAt pages i).u = false ∧ far hand i + 1 ≤ n) ∨ far hand i + 17 ≤ n → ∃ m, (victimP n pages hand).2.2 = some m
 | 0, pages, hand, h0, h1, hl, i, hi, hw, h => by omega
 | n + 1, pages, hand, h0, h1, hl, i, hi, hw, h => by
  unfold victimP
  split
  ·exact ⟨_, rfl⟩
  ·next hno =>
   have hn := next_in h0 h1
   have hu := unuse_at (pages := pages) (j := hand.toNat) (i := i)
   refine victim_some n _ _ hn.1 hn.2 (by rw [List.length_set]; exact hl) i hi (hu.1.trans hw) ?_
   by_cases e : hand.toNat = i
   ·subst e
    rw [far_back h0 h1]
    left
    rcases h with ⟨h, _⟩ | h
    ·exact absurd ⟨hw, h⟩ hno
    ·refine ⟨?_, by omega⟩
     rw [pageAt_set, if_pos ⟨rfl, by omega⟩]
     rfl
   ·have hf := far_next h0 h1 hi e
    rw [hu.2.2.2 (fun h => e h.symm)]
    rcases h with ⟨h, h'⟩ | h
    ·exact .inl ⟨h, by omega⟩
    ·exact .inr (by omega)
theorem victim_is : ∀ (n : Nat) (pages : List PageV) (hand : Int), 0 ≤ hand → hand ≤ 15 → ∀ m, (victimP n pages hand).2.2 = some m → m < 16 ∧ (pageAt pages m).w = 1
 | 0, pages, hand, h0, h1, m, h => by cases h
 | n + 1, pages, hand, h0, h1, m, h => by
  unfold victimP at h
  split at h
  ·next hy =>
   cases h
   exact ⟨by omega, hy.1⟩
  ·have hn := next_in h0 h1
   have := victim_is n _ _ hn.1 hn.2 m h
   exact ⟨this.1, unuse_at.1.symm.trans this.2⟩
theorem victim_first : ∀ (n : Nat) (pages : List PageV) (hand : Int), 0 ≤ hand → hand ≤ 15 → ∀ i, i < 16 → (pageAt pages i).w = 1 → (pageAt pages i).u = false → ∀ m, (victimP n pages hand).2.2 = some m →
 far hand m ≤ far hand i ∧ (pageAt pages m).u = false
 | 0, pages, hand, h0, h1, i, hi, hw, hu, m, h => by cases h
 | n + 1, pages, hand, h0, h1, i, hi, hw, hu, m, h => by
  unfold victimP at h
  split at h
  ·next hy =>
   cases h
   rw [far_self h0]
   exact ⟨Nat.zero_le _, hy.2⟩
  ·next hno =>
   have hn := next_in h0 h1
   have e : hand.toNat ≠ i := fun e => hno (by rw [e]; exact ⟨hw, hu⟩)
   have hua := unuse_at (pages := pages) (j := hand.toNat) (i := i)
   have hi' := hua.2.2.2 (fun h => e h.symm)
   have := victim_first n _ _ hn.1 hn.2 i hi (by rw [hi']; exact hw) (by rw [hi']; exact hu) m h
   have hm := victim_is n _ _ hn.1 hn.2 m h
   have hf := far_next h0 h1 hi e
   have hfl := far_lt h0 h1 hi
   have em : hand.toNat ≠ m := fun e' => by
    subst e'
    rw [far_back h0 h1] at this
    omega
   have hfm := far_next h0 h1 hm.1 em
   refine ⟨by omega, ?_⟩
   rw [← unuse_at.2.2.2 (fun h => em h.symm)]
   exact this.2
theorem count_pos {pages : List PageV} {w : Int} : 0 < countW pages w ↔ ∃ i, i < pages.length ∧ (pageAt pages i).w = w := by
 unfold countW
 rw [List.countP_pos_iff]
 constructor
 ·rintro ⟨x, hx, h⟩
  obtain ⟨i, hi, rfl⟩ := mem_getD (d := ⟨0, 0, false⟩) hx
  exact ⟨i, hi, of_decide_eq_true (p := (pageAt pages i).w = w) h⟩
 ·rintro ⟨i, hi, h⟩
  refine ⟨pages.getD i ⟨0, 0, false⟩, getD_mem hi, ?_⟩
  exact decide_eq_true (p := (pageAt pages i).w = w) h
theorem countP_same {q : PageV → Bool} : ∀ {a b : List PageV}, b.length = a.length → (∀ i, q (pageAt b i) = q (pageAt a i)) → b.countP q = a.countP q
 | [], [], _, _ => rfl
 | x :: a, y :: b, hl, h => by
  rw [List.countP_cons, List.countP_cons, countP_same (by simpa using hl) (fun i => by simpa [pageAt] using h (i + 1))]
  have := h 0
  simp only [pageAt, List.getD_cons_zero] at this
  rw [this]
theorem Unused.count {a b : List PageV} (h : Unused a b) (w : Int) : countW b w = countW a w := countP_same h.len fun i => by unfold isW; rw [h.w i]
theorem Unused.slots {a b : List PageV} (h : Unused a b) (s : Nat) : slotUse b s = slotUse a s := countP_same h.len fun i => by unfold atSlot; rw [h.w i, h.at' i]
theorem Unused.word {p : PagerV} {b : List PageV} (h : Unused p.pages b) (hand : Int) (a : Nat) : wordP { p with pages := b, hand := hand } a = wordP p a := by
 unfold wordP
 show (if (pageAt b (a / 4)).w = 1 then _ else if (pageAt b (a / 4)).w = 2 then _ else _) = _
 rw [h.w, h.at']
theorem Unused.ok {p : PagerV} {b : List PageV} (h : Unused p.pages b) (hp : POk p) {hand : Int} (h0 : 0 ≤ hand) (h1 : hand ≤ 15) : POk { p with pages := b, hand := hand } := by
 refine ⟨hp.k, hp.swapl, hp.swapr, hp.may, hp.alone, hp.root, hp.lowl, hp.mroot, hp.lows, h.len.trans hp.pagel, fun s hs => (h.slots s).trans (hp.slots s hs), fun n hn => ?_, ⟨h0, h1⟩, hp.limit, ?_⟩
 ·have e : tabWord { p with pages := b, hand := hand } n = tabWord p n := rfl
  unfold PageOk
  rw [e]
  show ((pageAt b n).w = 0 ∧ (pageAt b n).a = 0 ∧ (pageAt b n).u = false ∧ _) ∨ ((pageAt b n).w = 1 ∧ _ ∧ _ = ent (pageAt b n).a ∧ Mine _ (pageAt b n).a.toNat) ∨ ((pageAt b n).w = 2 ∧ _ ∧ rowAt p.swap (pageAt b n).a.toNat ≠ [] ∧ (pageAt b n).u = false ∧ _)
  rw [h.w, h.at']
  have hu := h.u n
  have un : (pageAt p.pages n).u = false → (pageAt b n).u = false := fun x => by
   cases hb : (pageAt b n).u
   ·rfl
   ·rw [hu hb] at x; cases x
  rcases hp.pages n hn with ⟨x1, x2, x3, x4⟩ | x | ⟨x1, x2, x3, x4, x5⟩
  ·exact .inl ⟨x1, x2, un x3, x4⟩
  ·exact .inr (.inl x)
  ·exact .inr (.inr ⟨x1, x2, x3, un x4, x5⟩)
 ·show (countW b 1 : Int) ≤ p.limit
  rw [h.count]; exact hp.count
theorem use_at {pages : List PageV} {n m : Nat} : (pageAt (useAt pages n) m).w = (pageAt pages m).w ∧ (pageAt (useAt pages n) m).a = (pageAt pages m).a ∧ (m ≠ n → (pageAt (useAt pages n) m) = pageAt pages m) := by
 unfold useAt
 rw [pageAt_set]
 by_cases e : m = n ∧ n < pages.length
 ·rw [if_pos e]
  obtain ⟨rfl, _⟩ := e
  exact ⟨rfl, rfl, fun h => absurd rfl h⟩
 ·rw [if_neg e]
  exact ⟨rfl, rfl, fun _ => rfl⟩
theorem use_ok {p : PagerV} (h : POk p) {n : Nat} (hn : n < 16) (hw : (pageAt p.pages n).w = 1) : POk { p with pages := useAt p.pages n } := by
 have hlen : (useAt p.pages n).length = p.pages.length := by unfold useAt; rw [List.length_set]
 refine ⟨h.k, h.swapl, h.swapr, h.may, h.alone, h.root, h.lowl, h.mroot, h.lows, hlen.trans h.pagel, fun s hs => ?_, fun m hm => ?_, h.hand, h.limit, ?_⟩
 ·have : slotUse (useAt p.pages n) s = slotUse p.pages s := countP_same hlen fun i => by unfold atSlot; rw [use_at.1, use_at.2.1]
  rw [this]; exact h.slots s hs
 ·have e : tabWord { p with pages := useAt p.pages n } m = tabWord p m := rfl
  unfold PageOk
  rw [e]
  show ((pageAt (useAt p.pages n) m).w = 0 ∧ (pageAt (useAt p.pages n) m).a = 0 ∧ (pageAt (useAt p.pages n) m).u = false ∧ _) ∨ ((pageAt (useAt p.pages n) m).w = 1 ∧ _ ∧ _ = ent (pageAt (useAt p.pages n) m).a ∧ Mine _ (pageAt (useAt p.pages n) m).a.toNat) ∨ ((pageAt (useAt p.pages n) m).w = 2 ∧ _ ∧ rowAt p.swap (pageAt (useAt p.pages n) m).a.toNat ≠ [] ∧ (pageAt (useAt p.pages n) m).u = false ∧ _)
  rw [use_at.1, use_at.2.1]
  rcases h.pages m hm with ⟨x1, x2, x3, x4⟩ | x | ⟨x1, x2, x3, x4, x5⟩
  ·rw [use_at.2.2 (fun e => by subst e; omega)]
   exact .inl ⟨x1, x2, x3, x4⟩
  ·exact .inr (.inl x)
  ·rw [use_at.2.2 (fun e => by subst e; omega)]
   exact .inr (.inr ⟨x1, x2, x3, x4, x5⟩)
 ·have : countW (useAt p.pages n) 1 = countW p.pages 1 := countP_same hlen fun i => by unfold isW; rw [use_at.1]
  show (countW (useAt p.pages n) 1 : Int) ≤ p.limit
  rw [this]; exact h.count
structure Touched (p q : PagerV) (n : Nat) : Prop where
 ok : POk q
 w : (pageAt q.pages n).w = 1
 u : (pageAt q.pages n).u = true
 words : ∀ a, a < 64 → wordP q a = wordP p a
 limit : q.limit = p.limit
 one : ∃ m, (m = n ∨ ((pageAt p.pages m).w = 1 ∧ (pageAt q.pages m).w = 2 ∧ (freeP p.kern.infos < 0 ∨ (countW p.pages 1 : Int) = p.limit))) ∧ ∀ i, i < 16 → i ≠ n → i ≠ m → (pageAt q.pages i).w = (pageAt p.pages i).w ∧ (pageAt q.pages i).a = (pageAt p.pages i).a
 used : ∀ i, i < 16 → (pageAt p.pages i).w = 1 → (pageAt p.pages i).u = true → (pageAt q.pages i).w = 2 → ∀ j, j < 16 → (pageAt p.pages j).w = 1 → (pageAt p.pages j).u = true
theorem touch_no {p : PagerV} (h : POk p) {n : Nat} (hn : n < 16) : (touchP p n).2 = false ↔ (freeP p.kern.infos < 0 ∧ countW p.pages 1 = 0) := by
 by_cases hw : (pageAt p.pages n).w = 1
 ·unfold touchP
  rw [if_pos hw]
  have := count_pos.2 ⟨n, by rw [h.pagel]; exact hn, hw⟩
  constructor
  ·intro x; cases x
  ·intro x; omega
 ·by_cases hno : freeP p.kern.infos < 0 ∧ countW p.pages 1 = 0
  ·unfold touchP
   rw [if_neg hw, if_pos hno]
   exact ⟨fun _ => hno, fun _ => rfl⟩
  ·refine ⟨fun x => ?_, fun x => absurd x hno⟩
   exfalso
   unfold touchP at x
   rw [if_neg hw, if_neg hno] at x
   by_cases hf : fullP p = true
   ·rw [if_pos hf] at x
    have hc : 0 < countW p.pages 1 := by
     rcases Nat.eq_zero_or_pos (countW p.pages 1) with h0 | h0
     ·exfalso
      unfold fullP at hf
      simp only [Bool.or_eq_true, decide_eq_true_eq] at hf
      have := h.limit
      rcases hf with hf | hf
      ·exact hno ⟨hf, h0⟩
      ·omega
     ·exact h0
    obtain ⟨i, hi, hiw⟩ := count_pos.1 hc
    rw [h.pagel] at hi
    obtain ⟨m, hm⟩ := victim_some 32 p.pages p.hand h.hand.1 h.hand.2 h.pagel i hi hiw (.inr (by have := far_lt h.hand.1 h.hand.2 hi; omega))
    have hU := victim_unused 32 p.pages p.hand
    have hH := victim_hand 32 p.pages p.hand h.hand.1 h.hand.2
    have hI := victim_is 32 p.pages p.hand h.hand.1 h.hand.2 m hm
    revert x hU hH hI hm
    generalize victimP 32 p.pages p.hand = r
    obtain ⟨pg, hd, o⟩ := r
    intro x hm hU hH hI
    cases hm
    have h' := hU.ok h hH.1 hH.2
    have ho := outP_ok h' hI.1 ((hU.w m).trans hI.2)
    have hmn : n ≠ m := fun e => hw (by rw [e]; exact hI.2)
    have hpn : (pageAt (outP { p with pages := pg, hand := hd } m).pages n).w ≠ 1 := by
     show (pageAt (pg.set m _) n).w ≠ 1
     rw [pageAt_set, if_neg (fun h => hmn h.1), hU.w]
     exact hw
    have hcn : (countW (outP { p with pages := pg, hand := hd } m).pages 1 : Int) + 1 ≤ (outP { p with pages := pg, hand := hd } m).limit := by
     have h1 : countW (outP { p with pages := pg, hand := hd } m).pages 1 + 1 = countW pg 1 := ho.2.2.1
     have h2 : countW pg 1 = countW p.pages 1 := hU.count 1
     have h3 := h.count
     show _ ≤ p.limit
     omega
    have := (inP_ok ho.1 hn hpn ho.2.2.2 hcn).2.1
    have x' : (inP (outP { p with pages := pg, hand := hd } m) n).2 = false := x
    rw [this] at x'
    cases x'
   ·rw [if_neg hf] at x
    unfold fullP at hf
    simp only [Bool.or_eq_true, decide_eq_true_eq, not_or] at hf
    have := h.count
    have := (inP_ok h hn hw (by omega) (by omega)).2.1
    rw [this] at x
    cases x
theorem touch_same {p : PagerV} (h : POk p) {n : Nat} (hn : n < 16) (hno : (touchP p n).2 = false) : (touchP p n).1 = p := by
 have h1 := (touch_no h hn).1 hno
 by_cases hw : (pageAt p.pages n).w = 1
 ·unfold touchP at hno
  rw [if_pos hw] at hno
  cases hno
 ·unfold touchP
  rw [if_neg hw, if_pos h1]
theorem touch_in {p : PagerV} (h : POk p) {n : Nat} (hw : (pageAt p.pages n).w = 1) : touchP p n = ({ p with pages := useAt p.pages n }, true) := by
 unfold touchP
 rw [if_pos hw]
theorem touch_ok {p : PagerV} (h : POk p) {n : Nat} (hn : n < 16) (hy : (touchP p n).2 = true) : Touched p (touchP p n).1 n := by
 by_cases hw : (pageAt p.pages n).w = 1
 ·rw [touch_in h hw]
  refine ⟨use_ok h hn hw, use_at.1.trans hw, ?_, fun a _ => ?_, rfl, ⟨n, .inl rfl, fun i _ _ _ => ⟨use_at.1, use_at.2.1⟩⟩, fun i _ hi _ hi2 => ?_⟩
  ·show (pageAt (useAt p.pages n) n).u = true
   unfold useAt
   rw [pageAt_set, if_pos ⟨rfl, by rw [h.pagel]; exact hn⟩]
  ·unfold wordP
   show (if (pageAt (useAt p.pages n) (a / 4)).w = 1 then _ else if (pageAt (useAt p.pages n) (a / 4)).w = 2 then _ else _) = _
   rw [use_at.1, use_at.2.1]
  ·have : (pageAt (useAt p.pages n) i).w = 2 := hi2
   rw [use_at.1, hi] at this
   cases this
 ·have hno : ¬ (freeP p.kern.infos < 0 ∧ countW p.pages 1 = 0) := fun e => by
   rw [(touch_no h hn).2 e] at hy; cases hy
  by_cases hf : fullP p = true
  ·have hf' : freeP p.kern.infos < 0 ∨ (countW p.pages 1 : Int) = p.limit := by
    unfold fullP at hf
    simpa using hf
   have hc : 0 < countW p.pages 1 := by
    rcases Nat.eq_zero_or_pos (countW p.pages 1) with h0 | h0
    ·exfalso
     have := h.limit
     rcases hf' with hf | hf
     ·exact hno ⟨hf, h0⟩
     ·omega
    ·exact h0
   obtain ⟨i, hi, hiw⟩ := count_pos.1 hc
   rw [h.pagel] at hi
   obtain ⟨m, hm⟩ := victim_some 32 p.pages p.hand h.hand.1 h.hand.2 h.pagel i hi hiw (.inr (by have := far_lt h.hand.1 h.hand.2 hi; omega))
   have hU := victim_unused 32 p.pages p.hand
   have hH := victim_hand 32 p.pages p.hand h.hand.1 h.hand.2
   have hI := victim_is 32 p.pages p.hand h.hand.1 h.hand.2 m hm
   have hFst := fun i h1 h2 h3 => victim_first 32 p.pages p.hand h.hand.1 h.hand.2 i h1 h2 h3 m hm
   have e : touchP p n = inP (outP { p with pages := (victimP 32 p.pages p.hand).1, hand := (victimP 32 p.pages p.hand).2.1 } m) n := by
    unfold touchP
    rw [if_neg hw, if_neg hno, if_pos hf]
    revert hm
    generalize victimP 32 p.pages p.hand = r
    obtain ⟨pg, hd, o⟩ := r
    intro hm
    cases hm
    rfl
   rw [e]
   clear e hy
   revert hU hH
   generalize (victimP 32 p.pages p.hand).1 = pg
   generalize (victimP 32 p.pages p.hand).2.1 = hd
   intro hU hH
   have h' := hU.ok h hH.1 hH.2
   have ho := outP_ok h' hI.1 ((hU.w m).trans hI.2)
   have hmn : n ≠ m := fun e => hw (by rw [e]; exact hI.2)
   have hpo : ∀ j, pageAt (outP { p with pages := pg, hand := hd } m).pages j = if j = m then ⟨2, freeSlot p.swap, false⟩ else pageAt pg j := fun j => by
    show pageAt (pg.set m _) j = _
    rw [pageAt_set]
    by_cases e : j = m
    ·rw [if_pos ⟨e, by rw [hU.len, h.pagel]; exact hI.1⟩, if_pos e]
    ·rw [if_neg (fun h => e h.1), if_neg e]
   have hpn : (pageAt (outP { p with pages := pg, hand := hd } m).pages n).w ≠ 1 := by
    rw [hpo, if_neg hmn, hU.w]
    exact hw
   have hcn : (countW (outP { p with pages := pg, hand := hd } m).pages 1 : Int) + 1 ≤ (outP { p with pages := pg, hand := hd } m).limit := by
    have h1 : countW (outP { p with pages := pg, hand := hd } m).pages 1 + 1 = countW pg 1 := ho.2.2.1
    have h2 := hU.count 1
    have h3 := h.count
    show _ ≤ p.limit
    omega
   obtain ⟨i1, i2, i3, i4, i5⟩ := inP_ok ho.1 hn hpn ho.2.2.2 hcn
   have hpi : ∀ j, pageAt (inP (outP { p with pages := pg, hand := hd } m) n).1.pages j = if j = n then ⟨1, freeP (outP { p with pages := pg, hand := hd } m).kern.infos, true⟩ else if j = m then ⟨2, freeSlot p.swap, false⟩ else pageAt pg j := fun j => by
    rw [i5, pageAt_set]
    by_cases e : j = n
    ·rw [if_pos ⟨e, by rw [ho.1.pagel]; exact hn⟩, if_pos e]
    ·rw [if_neg (fun h => e h.1), if_neg e, hpo]
   refine ⟨i1, ?_, ?_, fun a ha => ?_, ?_, ⟨m, .inr ⟨hI.2, ?_, hf'⟩, fun j hj h1 h2 => ?_⟩, fun j hj hjw hju hj2 => ?_⟩
   ·rw [hpi, if_pos rfl]
   ·rw [hpi, if_pos rfl]
   ·rw [i3 a ha, ho.2.1 a ha, hU.word]
   ·rw [(inP_eq ho.1 hn hpn ho.2.2.2).1]; rfl
   ·rw [hpi, if_neg (fun e => hmn e.symm), if_pos rfl]
   ·rw [hpi, if_neg h1, if_neg h2]
    exact ⟨hU.w j, hU.at' j⟩
   ·rw [hpi] at hj2
    by_cases e1 : j = n
    ·rw [if_pos e1] at hj2; cases hj2
    ·rw [if_neg e1] at hj2
     by_cases e2 : j = m
     ·subst e2
      intro x hx hxw
      cases hxu : (pageAt p.pages x).u
      ·rw [(hFst x hx hxw hxu).2] at hju
       cases hju
      ·rfl
     ·rw [if_neg e2, hU.w, hjw] at hj2
      cases hj2
  ·have e : touchP p n = inP p n := by
    unfold touchP
    rw [if_neg hw, if_neg hno, if_neg hf]
   rw [e]
   unfold fullP at hf
   simp only [Bool.or_eq_true, decide_eq_true_eq, not_or] at hf
   have := h.count
   have hcc : (countW p.pages 1 : Int) + 1 ≤ p.limit := by omega
   have hff : 0 ≤ freeP p.kern.infos := by omega
   obtain ⟨i1, i2, i3, i4, i5⟩ := inP_ok h hn hw hff hcc
   have hpi : ∀ j, pageAt (inP p n).1.pages j = if j = n then ⟨1, freeP p.kern.infos, true⟩ else pageAt p.pages j := fun j => by
    rw [i5, pageAt_set]
    by_cases e : j = n
    ·rw [if_pos ⟨e, by rw [h.pagel]; exact hn⟩, if_pos e]
    ·rw [if_neg (fun h => e h.1), if_neg e]
   refine ⟨i1, ?_, ?_, i3, ?_, ⟨n, .inl rfl, fun j hj h1 _ => ?_⟩, fun j hj hjw hju hj2 => ?_⟩
   ·rw [hpi, if_pos rfl]
   ·rw [hpi, if_pos rfl]
   ·rw [(inP_eq h hn hw hff).1]
   ·rw [hpi, if_neg h1]; exact ⟨rfl, rfl⟩
   ·rw [hpi] at hj2
    by_cases e1 : j = n
    ·rw [if_pos e1] at hj2; cases hj2
    ·rw [if_neg e1, hjw] at hj2
     cases hj2
theorem POk.walk {p : PagerV} (h : POk p) {a : Nat} (ha : a < 64) (hw : (pageAt p.pages (a / 4)).w = 1) : walkP p.kern.mem (rootOf p.kern 0).toNat a = (0, (pageAt p.pages (a / 4)).a.toNat, true) := by
 obtain ⟨l0, l1, l2, _⟩ := h.lows (a / 16) (by omega)
 obtain ⟨x1, x2, x3⟩ := ent_names l0 l1
 rcases h.pages (a / 4) (by omega) with ⟨y, _⟩ | ⟨_, b, c, _⟩ | ⟨y, _⟩
 ·omega
 ·obtain ⟨y1, y2, y3⟩ := ent_names b.1 b.2
  have e1 : a / 4 / 4 = a / 16 := by omega
  have c' : wdAt p.kern.mem (lowAt p.low (a / 16)).toNat (a / 4 % 4) = ent (pageAt p.pages (a / 4)).a := by rw [← e1]; exact c
  unfold walkP
  rw [l2, if_pos x1, x2, c', if_pos y1, y2, x3, y3]
  rfl
 ·omega
theorem use_pg {k : KernV} {kind : Int} (hk : kind = 10 ∨ kind = 11) {a b : Int} : callP k (pgCall kind a b 0) = useP k (pgCall kind a b 0) := by
 unfold callP
 rw [if_neg (show ¬ (pgCall kind a b 0).k = 1 by show ¬ kind = 1; omega), if_neg (by rw [show inB (pgCall kind a b 0).k 2 6 = false from inB_no.2 (by show kind < 2 ∨ 6 < kind; omega)]; simp), if_neg (show ¬ (pgCall kind a b 0).k = 7 by show ¬ kind = 7; omega),
  if_neg (show ¬ (pgCall kind a b 0).k = 8 by show ¬ kind = 8; omega), if_neg (show ¬ (pgCall kind a b 0).k = 9 by show ¬ kind = 9; omega), if_pos (show (pgCall kind a b 0).k = 10 ∨ (pgCall kind a b 0).k = 11 from hk)]
def usedC (c : List CachedV) (e p : Int) (f : Nat) (w : Bool) : List CachedV := if findC c e p < 0 then putC c ⟨e, p, f, w⟩ else c
theorem load_done {p : PagerV} (h : POk p) {a : Nat} (ha : a < 64) (hw : (pageAt p.pages (a / 4)).w = 1) :
 callP p.kern (pgCall 10 (a : Int) 0 0) = ({ p.kern with cache := usedC p.kern.cache 0 ((a / 4 : Nat) : Int) (pageAt p.pages (a / 4)).a.toNat true }, wdAt p.kern.mem (pageAt p.pages (a / 4)).a.toNat (a % 4), 0) := by
 rw [use_pg (.inl rfl)]
 have hwk := h.walk ha hw
 have hr := h.root
 unfold useP
 have e0 : (envAt p.kern.envs (pgCall 10 (a : Int) 0 0).e.toNat).root = rootOf p.kern 0 := rfl
 have e1 : (pgCall 10 (a : Int) 0 0).a.toNat = a := rfl
 have e2 : (pgCall 10 (a : Int) 0 0).a / 4 = ((a / 4 : Nat) : Int) := by show (a : Int) / 4 = _; omega
 have e3 : ((pgCall 10 (a : Int) 0 0).a % 4).toNat = a % 4 := by show ((a : Int) % 4).toNat = _; omega
 simp only [e0, e1, e2, e3, hwk]
 rw [if_neg, if_neg (by decide), if_neg, if_neg]
 ·rfl
 ·show ¬ (10 : Int) = 11; decide
 ·rintro ⟨_, x⟩; cases x
 ·rintro (x | x | ⟨x, _⟩)
  ·rw [show inB (pgCall 10 (a : Int) 0 0).a 0 63 = true from inB_iff.2 ⟨by show (0 : Int) ≤ (a : Int); omega, by show (a : Int) ≤ 63; omega⟩] at x; cases x
  ·omega
  ·exact absurd (show (10 : Int) = 11 from x) (by decide)
theorem store_done {p : PagerV} (h : POk p) {a : Nat} (ha : a < 64) (hw : (pageAt p.pages (a / 4)).w = 1) {w : Int} (hwd : wordOk w = true) :
 callP p.kern (pgCall 11 (a : Int) w 0) = ({ p.kern with mem := setWd p.kern.mem (pageAt p.pages (a / 4)).a.toNat (a % 4) w, cache := usedC p.kern.cache 0 ((a / 4 : Nat) : Int) (pageAt p.pages (a / 4)).a.toNat true }, 0, 0) := by
 rw [use_pg (.inr rfl)]
 have hwk := h.walk ha hw
 have hr := h.root
 unfold useP
 have e0 : (envAt p.kern.envs (pgCall 11 (a : Int) w 0).e.toNat).root = rootOf p.kern 0 := rfl
 have e1 : (pgCall 11 (a : Int) w 0).a.toNat = a := rfl
 have e2 : (pgCall 11 (a : Int) w 0).a / 4 = ((a / 4 : Nat) : Int) := by show (a : Int) / 4 = _; omega
 have e3 : ((pgCall 11 (a : Int) w 0).a % 4).toNat = a % 4 := by show ((a : Int) % 4).toNat = _; omega
 simp only [e0, e1, e2, e3, hwk]
 rw [if_neg, if_neg (by decide), if_neg, if_pos]
 ·rfl
 ·rfl
 ·rintro ⟨_, x⟩; cases x
 ·rintro (x | x | ⟨_, x⟩)
  ·rw [show inB (pgCall 11 (a : Int) w 0).a 0 63 = true from inB_iff.2 ⟨by show (0 : Int) ≤ (a : Int); omega, by show (a : Int) ≤ 63; omega⟩] at x; cases x
  ·omega
  ·rw [show wordOk (pgCall 11 (a : Int) w 0).b = true from hwd] at x; cases x
theorem POk.cache {p : PagerV} (h : POk p) {c : List CachedV} (hk : KOk { p.kern with cache := c }) : POk { p with kern := { p.kern with cache := c } } :=
 ⟨hk, h.swapl, h.swapr, h.may, h.alone, h.root, h.lowl, h.mroot, h.lows, h.pagel, h.slots, fun n hn => h.pages n hn, h.hand, h.limit, h.count⟩
theorem load_ok {p : PagerV} (h : POk p) {a : Nat} (ha : a < 64) (hy : (touchP p (a / 4)).2 = true) :
 (loadP p a).2.2 = true ∧ (loadP p a).2.1 = wordP p a ∧ POk (loadP p a).1 ∧ ∀ b, b < 64 → wordP (loadP p a).1 b = wordP p b := by
 have T := touch_ok h (n := a / 4) (by omega) hy
 have hd := load_done T.ok ha T.w
 have hk := callP_pg (k := (touchP p (a / 4)).1.kern) T.ok.k (kind := 10) (a := (a : Int)) (b := 0) (c := 0)
 rw [hd] at hk
 unfold loadP
 simp only [hy, if_true, hd]
 refine ⟨trivial, ?_, T.ok.cache hk, fun b hb => ?_⟩
 ·rw [← T.words a ha]
  unfold wordP
  rw [if_pos T.w]
 ·rw [← T.words b hb]; rfl
theorem load_no {p : PagerV} (h : POk p) {a : Nat} (ha : a < 64) (hy : (touchP p (a / 4)).2 = false) : loadP p a = (p, 0, false) := by
 have := touch_same h (n := a / 4) (by omega) hy
 unfold loadP
 simp [hy, this]
theorem store_no {p : PagerV} (h : POk p) {a : Nat} (ha : a < 64) {w : Int} (hy : (touchP p (a / 4)).2 = false) : storeP p a w = (p, false) := by
 have := touch_same h (n := a / 4) (by omega) hy
 unfold storeP
 simp [hy, this]
theorem addr_eq {a b : Nat} (h1 : a / 4 = b / 4) (h2 : a % 4 = b % 4) : a = b := by omega
theorem POk.put {p : PagerV} (h : POk p) {a : Nat} (ha : a < 64) (hw : (pageAt p.pages (a / 4)).w = 1) {w : Int} {c : List CachedV} (hk : KOk { p.kern with mem := setWd p.kern.mem (pageAt p.pages (a / 4)).a.toNat (a % 4) w, cache := c }) :
 POk { p with kern := { p.kern with mem := setWd p.kern.mem (pageAt p.pages (a / 4)).a.toNat (a % 4) w, cache := c } } ∧
 ∀ b, b < 64 → wordP { p with kern := { p.kern with mem := setWd p.kern.mem (pageAt p.pages (a / 4)).a.toNat (a % 4) w, cache := c } } b = if b = a then w else wordP p b := by
 have fk := h.frame_kind (n := a / 4) (by omega) hw
 have hat : ∀ f i, wdAt (setWd p.kern.mem (pageAt p.pages (a / 4)).a.toNat (a % 4) w) f i = if f = (pageAt p.pages (a / 4)).a.toNat ∧ i = a % 4 then w else wdAt p.kern.mem f i := fun f i => setWd_at (by rw [h.meml]; exact fk.1) (by rw [h.rowl fk.1]; omega)
 refine ⟨⟨hk, h.swapl, h.swapr, h.may, h.alone, h.root, h.lowl, h.mroot, fun i hi => ?_, h.pagel, h.slots, fun n hn => ?_, h.hand, h.limit, h.count⟩, fun b hb => ?_⟩
 ·obtain ⟨x1, x2, x3, x4⟩ := h.lows i hi
  refine ⟨x1, x2, ?_, x4⟩
  show wdAt (setWd p.kern.mem _ _ w) (rootOf p.kern 0).toNat i = _
  rw [hat, if_neg (fun e => h.root_ne (n := a / 4) (by omega) hw e.1)]
  exact x3
 ·have e : tabWord { p with kern := { p.kern with mem := setWd p.kern.mem (pageAt p.pages (a / 4)).a.toNat (a % 4) w, cache := c } } n = tabWord p n := by
   unfold tabWord
   show wdAt (setWd p.kern.mem _ _ w) (lowAt p.low (n / 4)).toNat (n % 4) = _
   rw [hat, if_neg (fun e => h.lows_ne (n := a / 4) (i := n / 4) (by omega) hw (by omega) e.1)]
  have := h.pages n hn
  unfold PageOk at this ⊢
  rw [e]
  exact this
 ·unfold wordP
  show (if (pageAt p.pages (b / 4)).w = 1 then wdAt (setWd p.kern.mem _ _ w) (pageAt p.pages (b / 4)).a.toNat (b % 4) else if (pageAt p.pages (b / 4)).w = 2 then _ else _) = _
  by_cases e : b = a
  ·subst e
   rw [if_pos hw, if_pos rfl, hat, if_pos ⟨rfl, rfl⟩]
  ·rw [if_neg e]
   by_cases w1 : (pageAt p.pages (b / 4)).w = 1
   ·rw [if_pos w1, if_pos w1, hat, if_neg]
    rintro ⟨x, y⟩
    exact e (addr_eq (h.frame_inj (by omega) (by omega) w1 hw x) y)
   ·rw [if_neg w1, if_neg w1]
theorem store_ok {p : PagerV} (h : POk p) {a : Nat} (ha : a < 64) {w : Int} (hwd : wordOk w = true) (hy : (touchP p (a / 4)).2 = true) :
 (storeP p a w).2 = true ∧ POk (storeP p a w).1 ∧ (∀ b, b < 64 → wordP (storeP p a w).1 b = if b = a then w else wordP p b) ∧ (pageAt (storeP p a w).1.pages (a / 4)).w = 1 := by
 have T := touch_ok h (n := a / 4) (by omega) hy
 have hd := store_done T.ok ha T.w hwd
 have hk := callP_pg (k := (touchP p (a / 4)).1.kern) T.ok.k (kind := 11) (a := (a : Int)) (b := w) (c := 0)
 rw [hd] at hk
 have P := T.ok.put ha T.w (w := w) hk
 unfold storeP
 simp only [hy, if_true, hd]
 refine ⟨trivial, P.1, fun b hb => ?_, T.w⟩
 rw [← T.words b hb]
 exact P.2 b hb
theorem load_pok {p : PagerV} (h : POk p) {a : Nat} (ha : a < 64) : POk (loadP p a).1 := by
 cases hy : (touchP p (a / 4)).2
 ·rw [load_no h ha hy]; exact h
 ·exact (load_ok h ha hy).2.2.1
theorem store_pok {p : PagerV} (h : POk p) {a : Nat} (ha : a < 64) {w : Int} (hwd : wordOk w = true) : POk (storeP p a w).1 := by
 cases hy : (touchP p (a / 4)).2
 ·rw [store_no h ha hy]; exact h
 ·exact (store_ok h ha hwd hy).2.1
theorem touch_pok {p : PagerV} (h : POk p) {n : Nat} (hn : n < 16) : POk (touchP p n).1 := by
 cases hy : (touchP p n).2
 ·rw [touch_same h hn hy]; exact h
 ·exact (touch_ok h hn hy).ok
end Go.Proofs.YtjacdlekgdnndaaGreatDoor
