/-
  A region that draws its order, by what each operation's value is: one proof an operation, whatever the order.
-/
import Derived.Test.YtgdehdfbdjgmdaaGreatDoorGen2
import Derived.StillTailTactics
set_option linter.unusedVariables false
namespace Go.Proofs.YtgdehdfbdjgmdaaGreatDoor
open Go.RowKit

theorem Tryz.mixed : Tryz.prog.follows .mixedOrders = true := by kernel_rfl

section
variable {P : Program}

/-- The slot that operation i writes. -/
def dstOf (l : List Oper) (i : Nat) : Nat := ((l[i]?).bind (·.dst)).getD 0

/-- The frame with the values of the operations named. -/
def fillAt (l : List Oper) (is : List Nat) (vs : Nat → Value) (b : Array Value) : Array Value := is.foldl (fun b i => b.setIfInBounds (dstOf l i) (vs i)) b

/-- The first n operations have slots of their own; what follows them is one chain. -/
def postsB (l : List Oper) (n : Nat) : Bool :=
  decide (n < l.length) && Region.sinkB .any l.toArray n && Region.chainB .any l.toArray n &&
  ((List.range n).all fun i => match l[i]? with | some o => o.dst.isSome | none => false) &&
  ((List.range n).all fun i => (List.range n).all fun j => i == j || dstOf l i != dstOf l j) &&
  Region.seqB .any l.toArray (l.length - n) n (Array.ofFn (n := l.length) fun i => decide (i.val < n)) &&
  ((List.range l.length).all fun j => match l[j]? with | some o => o.after.all fun e => decide (e.on < j) | none => false)

/-- One operation more has come up. -/
def upd (L : Nat → Bool) (i : Nat) : Nat → Bool := fun j => if j = i then true else L j
theorem upd_no {L : Nat → Bool} {i j : Nat} (h : upd L i j = false) : L j = false := by
  unfold upd at h
  split at h
  · cases h
  · exact h
/-- What must be shown of operation i in state a: it runs, or its guard bars it. -/
def Does (P : Program) (l : List Oper) (o : Oper) (a : Act) (w : World) (K : Act → World → Prop) (Q : Exit → Act → World → Prop) : Prop :=
  (Region.wanted o (yielded l.toArray a.tmps) = true → Oper.wp P o a w K Q) ∧ (Region.wanted o (yielded l.toArray a.tmps) = false → K (a.put o.dst undef) w)
theorem Does.of {P : Program} {l : List Oper} {o : Oper} {a : Act} {w : World} {K : Act → World → Prop} {Q : Exit → Act → World → Prop} (hg : o.guard = none) (h : Oper.wp P o a w K Q) : Does P l o a w K Q :=
  ⟨fun _ => h, fun hw => by simp [Region.wanted, hg] at hw⟩
theorem yield_at {l : List Oper} {tmps : Array Value} {g d : Nat} {b : Bool} (hd : (l[g]?).bind (·.dst) = some d) (hv : tmps[d]?.getD undef = .bool b) : yielded l.toArray tmps g = some b := by
  have h : (l.toArray[g]?).bind (·.dst) = some d := by simpa using hd
  cases hx : tmps[d]? with
  | none => rw [hx] at hv; simp [undef] at hv
  | some x =>
    rw [hx] at hv
    simp at hv
    subst hv
    unfold yielded
    rw [h, Option.bind_some, hx]
theorem Does.yes {P : Program} {l : List Oper} {o : Oper} {a : Act} {w : World} {K : Act → World → Prop} {Q : Exit → Act → World → Prop} {g d : Nat} {b : Bool} (hg : o.guard = some (g, b)) (hd : (l[g]?).bind (·.dst) = some d) (hv : a.tmps[d]?.getD undef = .bool b) (h : Oper.wp P o a w K Q) : Does P l o a w K Q :=
  ⟨fun _ => h, fun hw => by simp [Region.wanted, hg, yield_at hd hv] at hw⟩
theorem Does.no {P : Program} {l : List Oper} {o : Oper} {a : Act} {w : World} {K : Act → World → Prop} {Q : Exit → Act → World → Prop} {g d : Nat} {b : Bool} (hg : o.guard = some (g, b)) (hd : (l[g]?).bind (·.dst) = some d) (hv : a.tmps[d]?.getD undef = .bool (!b)) (h : K (a.put o.dst undef) w) : Does P l o a w K Q :=
  ⟨fun hw => by rw [Region.wanted, hg] at hw; simp only [yield_at hd hv] at hw; cases b <;> simp at hw, fun _ => h⟩

theorem eval_tmp {a : Act} {t : Nat} {v : Value} (h : a.tmps[t]?.getD undef = v) : a.eval (.tmp t) = v := by
  show a.tmps.getD t undef = v
  rw [Array.getD_eq_getD_getElem?]
  exact h
theorem wp_append_run {P : Program} {o : Oper} {a : Act} {w w' : World} {K : Act → World → Prop} {Q : Exit → Act → World → Prop} {s x : Operand} {t : TypeId} (ho : o.op = .call { callee := .builtin .append, args := #[s, x], argTypes := #[t, t] })
    {v u v' : Value} (hs : a.eval s = v) (hx : a.eval x = u) (hrun : (Builtin.append_ #[t, t] o.type #[v, u]).run P w = .ok v' w') (h : K (a.put o.dst v') w') : Oper.wp P o a w K Q := by
  unfold Oper.wp execOp
  simp only [ho, resolve, invoke, builtin, Sem.run_bind, Sem.run_pure, Result.andThen_ok, List.map_toArray, List.map_cons, List.map_nil, hs, hx, hrun]
  exact h

/-- What is so on the way: which operations have come up, the frame, what their values are. -/
structure PostInv (l : List Oper) (n : Nat) (a0 : Act) (R : Nat → Value → World → Prop) (G : (Nat → Bool) → World → Prop) (listed : Array Bool) (a : Act) (w : World) : Prop where
  head : HeadInv .any l.toArray n listed
  defers : a.defers = a0.defers
  size : a.tmps.size = a0.tmps.size
  base : ∀ t, (∀ i, i < n → dstOf l i ≠ t) → a.tmps[t]? = a0.tmps[t]?
  post : ∀ i, i < n → listed.getD i false = true → R i (a.tmps.getD (dstOf l i) undef) w
  glob : G (fun j => listed.getD j false) w

theorem getD_set_self {listed : Array Bool} {i : Nat} (h : i < listed.size) (d : Bool) : (listed.setIfInBounds i true).getD i d = true := by
  simp [h]

theorem PostInv.wpAny {l : List Oper} {n : Nat} {a0 : Act} {R : Nat → Value → World → Prop} {G : (Nat → Bool) → World → Prop} {Q : Exit → Act → World → Prop}
    (hB : postsB l n = true) (hdst : ∀ i, i < n → dstOf l i < a0.tmps.size)
    (hstep : ∀ i, i < n → ∀ o, l[i]? = some o → ∀ a w, a.defers = a0.defers → a.tmps.size = a0.tmps.size → (∀ t, (∀ i, i < n → dstOf l i ≠ t) → a.tmps[t]? = a0.tmps[t]?) →
      (∀ j, Region.waitsFor .any l.toArray i j = true → R j (a.tmps.getD (dstOf l j) undef) w) → ∀ L : Nat → Bool, L i = false → (∀ j, Region.waitsFor .any l.toArray i j = true → L j = true) → (∀ j j', L j = true → Region.waitsFor .any l.toArray j j' = true → L j' = true) → G L w →
      ∀ K : Act → World → Prop, (∀ v w', R i v w' → G (upd L i) w' → (∀ j u, j ≠ i → j < n → L j = true → R j u w → R j u w') → K (a.put o.dst v) w') → Does P l o a w K Q)
    (htail : ∀ a w, a.defers = a0.defers → a.tmps.size = a0.tmps.size → (∀ t, (∀ i, i < n → dstOf l i ≠ t) → a.tmps[t]? = a0.tmps[t]?) →
      (∀ i, i < n → R i (a.tmps.getD (dstOf l i) undef) w) → ∀ L : Nat → Bool, (∀ i, i < n → L i = true) → G L w → wpList P l.toArray Q (l.drop n) a w) :
    ∀ (f : Nat) (listed : Array Bool) (a : Act) (w : World), f = (l.length - n) + ((List.range n).filter fun i => !listed.getD i false).length → PostInv l n a0 R G listed a w → Go.wpAny P .any l.toArray Q f listed a w := by
  simp only [postsB, Bool.and_eq_true, decide_eq_true_eq] at hB
  obtain ⟨⟨⟨⟨⟨⟨hn, hs⟩, hc⟩, hg⟩, hdis⟩, hseq⟩, hback⟩ := hB
  have hgd : ∀ i, i < n → ∃ o d, l[i]? = some o ∧ o.dst = some d ∧ dstOf l i = d := by
    intro i hi
    have := List.all_eq_true.1 hg i (List.mem_range.2 hi)
    cases ho : l[i]? with
    | none => rw [ho] at this; cases this
    | some o =>
      rw [ho] at this
      simp only [Option.isSome_iff_exists] at this
      obtain ⟨d, h2⟩ := this
      exact ⟨o, d, rfl, h2, by simp [dstOf, ho, h2]⟩
  have hne : ∀ i j, i < n → j < n → i ≠ j → dstOf l i ≠ dstOf l j := by
    intro i j hi hj hij
    have := List.all_eq_true.1 (List.all_eq_true.1 hdis i (List.mem_range.2 hi)) j (List.mem_range.2 hj)
    simpa [hij] using this
  have hn' : n < l.toArray.size := by simpa using hn
  intro f
  induction f with
  | zero => intro listed a w hf _; omega
  | succ f ih =>
    intro listed a w hf inv
    by_cases hall : ∀ i, i < n → listed.getD i false = true
    · have hlisted : listed = Array.ofFn (n := l.length) fun i => decide (i.val < n) := by
        have hsz : listed.size = l.length := by have := inv.head.size; simpa using this
        apply Array.ext
        · simp [hsz]
        · intro i h1 h2
          simp only [Array.getElem_ofFn]
          by_cases hi : i < n
          · have := hall i hi
            simp [h1] at this
            simp [hi, this]
          · have := inv.head.tail i (by omega) (by simpa [hsz] using h1)
            simp [h1] at this
            simp [hi, this]
      have h0 : ((List.range n).filter fun i => !listed.getD i false) = [] := by
        rw [List.filter_eq_nil_iff]
        intro i hi
        simp [hall i (List.mem_range.1 hi)]
      have hT := htail a w inv.defers inv.size inv.base (fun i hi => inv.post i hi (hall i hi)) _ hall inv.glob
      have hW := wpAny_of_seq (P := P) (md := .any) (ops := l.toArray) (Q' := Q) (l.drop n) n listed a w (fun j => by simp [List.getElem?_drop]) (by rw [hlisted]; simpa using hseq) hT
      have e : (l.drop n).length = f + 1 := by rw [h0] at hf; simp at hf ⊢; omega
      rw [e] at hW
      exact hW
    · obtain ⟨i0, hi0⟩ := Classical.not_forall.1 hall
      obtain ⟨hi0n, hi0l⟩ := Classical.not_imp.1 hi0
      have hi0f : listed.getD i0 false = false := by simpa using hi0l
      have hsz : listed.size = l.length := by have := inv.head.size; simpa using this
      have hi0t : listed.getD i0 true = false := getD_in (by omega) hi0f
      refine ⟨fun hr => ?_, fun i hi => ?_⟩
      · exfalso
        have : ∀ k, k ≤ l.length → ∀ i, i < k → i < n → listed.getD i true = false → False := by
          intro k
          induction k with
          | zero => intro _ i hi; omega
          | succ k ihk =>
            intro hk i hik hin hun
            have hnr : i ∉ Region.ready .any l.toArray listed := by rw [hr]; simp
            obtain ⟨o, d, ho, _, _⟩ := hgd i hin
            apply hnr
            rw [mem_ready]
            refine ⟨hun, o, by simpa using ho, fun e he hb => ?_⟩
            have hlt : e.on < i := by
              have := List.all_eq_true.1 hback i (List.mem_range.2 (by omega))
              rw [ho] at this
              simpa using Array.all_eq_true'.1 this e he
            cases hx : listed.getD e.on false with
            | true => rfl
            | false => exact (ihk (by omega) e.on (by omega) (by omega) (getD_in (by omega) hx)).elim
        exact this l.length (Nat.le_refl _) i0 (by omega) hi0n hi0t
      · have hin : i < n := by
          rcases Nat.lt_or_ge i n with h | h
          · exact h
          · exact absurd hi (tail_waits hs hc hn' inv.head _ i0 rfl hi0n hi0t i h)
        obtain ⟨o, d, ho, hod, hdo⟩ := hgd i hin
        obtain ⟨hun, o', ho', hdep⟩ := mem_ready.1 hi
        obtain rfl : o' = o := by
          have : l[i]? = some o' := by simpa using ho'
          rw [ho] at this
          exact (Option.some.inj this).symm
        have hdeps : ∀ j, Region.waitsFor .any l.toArray i j = true → R j (a.tmps.getD (dstOf l j) undef) w := by
          intro j hj
          obtain ⟨oj, hoj, e, he, hb, rfl⟩ := Region.waitsFor_spec hj
          obtain rfl : oj = o' := Option.some.inj (hoj.symm.trans ho')
          have hlt : e.on < i := by
            have := List.all_eq_true.1 hback i (List.mem_range.2 (by omega))
            rw [ho] at this
            simpa using Array.all_eq_true'.1 this e he
          exact inv.post e.on (by omega) (hdep e he hb)
        unfold Go.wpOp
        rw [ho']
        have hlis : ∀ j, Region.waitsFor .any l.toArray i j = true → listed.getD j false = true := by
          intro j hj
          obtain ⟨oj, hoj, e, he, hb, rfl⟩ := Region.waitsFor_spec hj
          obtain rfl : oj = o' := Option.some.inj (hoj.symm.trans ho')
          exact hdep e he hb
        suffices H : ∀ K : Act → World → Prop, (∀ v w', R i v w' → G (upd (fun j => listed.getD j false) i) w' → (∀ j u, j ≠ i → j < n → listed.getD j false = true → R j u w → R j u w') → K (a.put o'.dst v) w') → Does P l o' a w K Q by
          have hK := H (Go.wpAny P .any l.toArray Q f (listed.setIfInBounds i true)) ?_
          · cases hwt : Region.wanted o' (yielded l.toArray a.tmps) with
            | true => dsimp only; rw [hwt, if_pos rfl]; exact .inl (hK.1 hwt)
            | false => dsimp only; rw [hwt, if_neg Bool.false_ne_true]; exact hK.2 hwt
          · intro v w' hR hG' hkeep
            have hcount : f = (l.length - n) + ((List.range n).filter fun k => !(listed.setIfInBounds i true).getD k false).length := by
              have hone : ((List.range n).filter fun k => !listed.getD k false).length = ((List.range n).filter fun k => !(listed.setIfInBounds i true).getD k false).length + 1 := by
                have hmem : i ∈ (List.range n).filter fun k => !listed.getD k false := by
                  rw [List.mem_filter]
                  exact ⟨List.mem_range.2 hin, by simp [getD_both hun]⟩
                have hnd : ((List.range n).filter fun k => !listed.getD k false).Nodup := List.nodup_range.filter _
                have he : ((List.range n).filter fun k => !(listed.setIfInBounds i true).getD k false) = ((List.range n).filter fun k => !listed.getD k false).erase i := by
                  rw [hnd.erase_eq_filter, List.filter_filter]
                  refine List.filter_congr fun k hk => ?_
                  by_cases hki : k = i
                  · subst hki
                    simp [getD_set_self (show k < listed.size by omega)]
                  · rw [getD_set_ne false (Ne.symm hki)]
                    simp [hki]
                rw [he, List.length_erase_of_mem hmem]
                have := List.length_pos_of_mem hmem
                omega
              omega
            refine ih _ _ _ hcount ⟨inv.head.set hi hin, ?_, ?_, ?_, ?_, ?_⟩
            · rw [hod]; exact inv.defers
            · rw [hod]; simpa [Act.put] using inv.size
            · intro t ht
              rw [hod]
              simp only [Act.put]
              rw [Array.getElem?_setIfInBounds_ne (by rw [← hdo]; exact ht i hin)]
              exact inv.base t ht
            · intro j hj hjl
              rw [hod]
              simp only [Act.put]
              by_cases hji : j = i
              · subst hji
                rw [hdo]
                have : d < a.tmps.size := by rw [← hdo, inv.size]; exact hdst j hj
                simpa [this] using hR
              · have hjl' : listed.getD j false = true := by rwa [getD_set_ne false (Ne.symm hji)] at hjl
                have h1 := hkeep j _ hji hj hjl' (inv.post j hj hjl')
                have e : (a.tmps.setIfInBounds d v).getD (dstOf l j) undef = a.tmps.getD (dstOf l j) undef := by
                  have : d ≠ dstOf l j := by rw [← hdo]; exact hne i j hin hj (Ne.symm hji)
                  simp only [Array.getD_eq_getD_getElem?]
                  rw [Array.getElem?_setIfInBounds_ne this]
                rw [e]
                exact h1
            · have eL : (fun j => (listed.setIfInBounds i true).getD j false) = upd (fun j => listed.getD j false) i := by
                funext j
                unfold upd
                by_cases hji : j = i
                · subst hji
                  rw [if_pos rfl, getD_set_self (by omega)]
                · rw [if_neg hji, getD_set_ne false (Ne.symm hji)]
              rw [eL]
              exact hG'

        have hclo : ∀ j j', listed.getD j false = true → Region.waitsFor .any l.toArray j j' = true → listed.getD j' false = true := by
          intro j j' hj hw
          obtain ⟨oj, hoj, e, he, hb, rfl⟩ := Region.waitsFor_spec hw
          exact inv.head.closed j oj hoj hj e he hb
        exact fun K hK => hstep i hin o' ho a w inv.defers inv.size inv.base hdeps _ (getD_both hun) hlis hclo inv.glob K hK

theorem fillAt_size (l : List Oper) (is : List Nat) (vs : Nat → Value) (b : Array Value) : (fillAt l is vs b).size = b.size := by
  unfold fillAt
  induction is generalizing b with
  | nil => rfl
  | cons i is ih => rw [List.foldl_cons, ih]; simp

theorem fillAt_get (l : List Oper) (vs : Nat → Value) : ∀ (is : List Nat) (b : Array Value) (t : Nat),
    (∀ i, i ∈ is → dstOf l i ≠ t) → (fillAt l is vs b)[t]? = b[t]? := by
  intro is
  induction is with
  | nil => intro b t _; rfl
  | cons i is ih =>
    intro b t h
    show (fillAt l is vs (b.setIfInBounds (dstOf l i) (vs i)))[t]? = _
    rw [ih _ t (fun j hj => h j (List.mem_cons_of_mem _ hj)), Array.getElem?_setIfInBounds_ne (h i (List.mem_cons_self ..))]

theorem fillAt_eq (l : List Oper) : ∀ (is : List Nat) (b c : Array Value), c.size = b.size → (∀ t, (∀ i, i ∈ is → dstOf l i ≠ t) → c[t]? = b[t]?) →
    c = fillAt l is (fun i => c.getD (dstOf l i) undef) b := by
  intro is
  induction is with
  | nil =>
    intro b c hs h
    exact Array.ext_getElem? fun t => h t (fun i hi => by cases hi)
  | cons i is ih =>
    intro b c hs h
    show c = fillAt l is _ (b.setIfInBounds (dstOf l i) (c.getD (dstOf l i) undef))
    refine ih _ c (by simpa using hs) fun t ht => ?_
    by_cases hti : dstOf l i = t
    · subst hti
      rcases Nat.lt_or_ge (dstOf l i) c.size with h' | h'
      · have : dstOf l i < b.size := by omega
        simp [h', this]
      · have : b.size ≤ dstOf l i := by omega
        simp [h', this]
    · rw [Array.getElem?_setIfInBounds_ne hti]
      exact h t fun j hj => by
        rcases List.mem_cons.1 hj with rfl | hj
        · exact hti
        · exact ht j hj

def dstB (l : List Oper) (n N : Nat) : Bool := (List.range n).all fun i => decide (dstOf l i < N)

/-- A region that draws its order. R i v w: v is what operation i may yield. -/
theorem wp_region_posts {id : Nat} {Q : Exit → Act → World → Prop} {a0 : Act} {w0 : World} {l : List Oper} (n : Nat) (hm : P.follows .mixedOrders = true) (hB : postsB l n = true)
    (N : Nat) (hN : a0.tmps.size = N) (hD : dstB l n N = true) (R : Nat → Value → World → Prop) (G : (Nat → Bool) → World → Prop) (hG : G (fun _ => false) { w0 with drawn := w0.drawn + 1 })
    (hstep : ∀ i, i < n → ∀ o, l[i]? = some o → ∀ a w, Hid (a.defers = a0.defers ∧ a.tmps.size = a0.tmps.size ∧ ∀ t, (∀ i, i < n → dstOf l i ≠ t) → a.tmps[t]? = a0.tmps[t]?) →
      Hid (∀ j, Region.waitsFor .any l.toArray i j = true → R j (a.tmps[dstOf l j]?.getD undef) w) → ∀ L : Nat → Bool, Hid (L i = false ∧ (∀ j, Region.waitsFor .any l.toArray i j = true → L j = true) ∧ ∀ j j', L j = true → Region.waitsFor .any l.toArray j j' = true → L j' = true) → G L w →
      ∀ K : Act → World → Prop, Hid (∀ v w', R i v w' → G (upd L i) w' → (∀ j u, j ≠ i → j < n → L j = true → R j u w → R j u w') → K (a.put o.dst v) w') → Does P l o a w K Q)
    (htail : ∀ (vs : Nat → Value) w, (∀ i, i < n → R i (vs i) w) → ∀ L : Nat → Bool, (∀ i, i < n → L i = true) → G L w → wpList P l.toArray Q (l.drop n) { a0 with tmps := fillAt l (List.range n) vs a0.tmps } w) :
    (Code.region id l.toArray true).wp P Q a0 w0 := by
  have hdst : ∀ i, i < n → dstOf l i < a0.tmps.size := fun i hi => by
    have := List.all_eq_true.1 hD i (List.mem_range.2 hi)
    rw [hN]
    simpa using this
  refine wp_region_any hm ?_
  refine PostInv.wpAny (a0 := a0) (R := R) (G := G) hB hdst (fun i hi o ho a w h1 h2 h3 h4 L h6 h7 h8 h5 K hK => hstep i hi o ho a w (Lib.hid ⟨h1, h2, h3⟩) (Lib.hid fun j hj => by have := h4 j hj; rwa [Array.getD_eq_getD_getElem?] at this) L (Lib.hid ⟨h6, h7, h8⟩) h5 K (Lib.hid hK)) (fun a w h1 h2 h3 h4 L h6 h5 => ?_) _ _ _ _ ?_ ⟨⟨by simp, fun j oj _ hl => (by rw [getD_replicate_false] at hl; cases hl), fun t _ ht => getD_in (by simpa using ht) (getD_replicate_false _ _)⟩, rfl, rfl, fun _ _ => rfl, fun i _ hl => (by rw [getD_replicate_false] at hl; cases hl), (show G (fun j => (Array.replicate l.toArray.size false).getD j false) _ from (funext fun j => getD_replicate_false _ _ : (fun j => (Array.replicate l.toArray.size false).getD j false) = fun _ => false) ▸ hG)⟩
  · have e := fillAt_eq l (List.range n) a0.tmps a.tmps h2 (fun t ht => h3 t fun i hi => ht i (List.mem_range.2 hi))
    have := htail (fun i => a.tmps.getD (dstOf l i) undef) w h4 L h6 h5
    rw [← e] at this
    obtain ⟨tm, df⟩ := a
    dsimp only at h1 this
    subst h1
    exact this
  · have hn : n < l.length := by
      simp only [postsB, Bool.and_eq_true, decide_eq_true_eq] at hB
      exact hB.1.1.1.1.1.1
    have : ((List.range n).filter fun i => !(Array.replicate l.toArray.size false).getD i false) = List.range n := by
      rw [List.filter_eq_self]
      intro i _
      rw [getD_replicate_false]
      rfl
    rw [this]
    simp
    omega
end
end Go.Proofs.YtgdehdfbdjgmdaaGreatDoor
