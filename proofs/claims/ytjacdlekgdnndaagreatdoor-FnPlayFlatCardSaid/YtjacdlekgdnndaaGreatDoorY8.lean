/-
  Packed: 6 texts.
-/
import Derived.Deep.DeepCutAuto
import Derived.Test.YtjacdlekgdnndaaGreatDoorY6
import Derived.Test.YtjacdlekgdnndaaGreatDoorY5
import Derived.Test.YtjacdlekgdnndaaGreatDoorY7
import Derived.Lib.Strings
import Derived.WalkKit
set_option linter.unusedVariables false
namespace Go.Proofs.YtjacdlekgdnndaaGreatDoor
open Go.RowKit
def usersTo (k : KernV) (a j : Nat) : List Nat := (List.range j).filter fun e => (reachL k.mem (envAt k.envs e).root).contains a
theorem usersTo_no {k : KernV} {a j : Nat} (h : (reachL k.mem (envAt k.envs j).root).contains a = false) : usersTo k a (j + 1) = usersTo k a j := by
 unfold usersTo
 rw [List.range_succ, List.filter_append]
 simp only [List.filter_cons, h, List.filter_nil]
 simp
theorem usersTo_yes {k : KernV} {a j : Nat} (h : (reachL k.mem (envAt k.envs j).root).contains a = true) : usersTo k a (j + 1) = usersTo k a j ++ [j] := by
 unfold usersTo
 rw [List.range_succ, List.filter_append]
 simp only [List.filter_cons, h, List.filter_nil]
 simp
theorem usersTo_len {k : KernV} {a j : Nat} : (usersTo k a j).length ≤ j := by
 unfold usersTo
 exact Nat.le_trans (List.length_filter_le _ _) (by simp)
theorem users_three {k : KernV} {a : Nat} : usersTo k a 3 = usersP k a := rfl
theorem contains_ints {ts l : List Nat} {a : Nat} (h : ∀ g, g ∈ ts ↔ g ∈ l) : (ints ts).contains (a : Int) = l.contains a := by
 rw [Bool.eq_iff_iff, List.contains_iff_mem, List.contains_iff_mem, mem_ints_iff, h]
def dropsC (es : List Nat) (c : List CachedV) : List CachedV := es.foldl (fun c e => dropC c (e : Nat)) c
theorem dropsC_ok {c : List CachedV} (es : List Nat) (h : cacheOk c = true) : cacheOk (dropsC es c) = true := drops_ok h
theorem dropsC_take {es : List Nat} {c : List CachedV} {j : Nat} (h : j < es.length) : dropsC (es.take (j + 1)) c = dropC (dropsC (es.take j) c) ((es.getD j 0 : Nat) : Int) := by
 unfold dropsC
 rw [take_one (getD_lt (d := 0) h), List.foldl_append]
 rfl
theorem setP_eq {k : KernV} {c : CallV} : setP k c =
 if tabK (infoAt k.infos c.a.toNat).k = false ∨ inB c.b 0 3 = false ∨ wordFits k c = false then (k, 0, 3)
 else if (usersP k c.a.toNat).all (fun e => allowedP k.infos (neededP k c.c) (envAt k.envs e).rights) = false then (k, 0, 1)
 else if entG c.c = true ∧ mayE k c.e (infoAt k.infos (entF c.c)).g = false then (k, 0, 1)
 else ({ k with mem := setWd k.mem c.a.toNat c.b.toNat c.c, infos := refer1 (refer1 k.infos (wdAt k.mem c.a.toNat c.b.toNat) (-1)) c.c 1, cache := dropsC (usersP k c.a.toNat) k.cache }, 0, 0) := rfl
theorem small_refs {infos : List InfoV} (h : infosOk infos = true) : SmallR infos 50 := by
 intro f hf
 have := (infosOk_iff.1 h).2 f (by rw [← (infosOk_iff.1 h).1]; exact hf)
 unfold infoOk at this
 simp only [Bool.or_eq_true, Bool.and_eq_true, decide_eq_true_eq, inB_iff] at this
 rcases this with h | h
 ·rw [h]; decide
 ·omega
theorem SmallR.refer {infos : List InfoV} {b x n : Int} (h : SmallR infos b) (hl : infos.length = 12) (hn : n = 1 ∨ n = -1) : SmallR (refer1 infos x n) (b + 1) := by
 intro f hf
 rw [refer1_len] at hf
 have := h f hf
 rw [refer1_at hl]
 show -(b + 1) ≤ (infoAt infos f).r + n * ((b2n (names f x) : Nat) : Int) ∧ (infoAt infos f).r + n * ((b2n (names f x) : Nat) : Int) ≤ b + 1
 unfold b2n
 split <;> rcases hn with rfl | rfl <;> omega
theorem SmallR.mono {infos : List InfoV} {b b' : Int} (h : SmallR infos b) (hb : b ≤ b') : SmallR infos b' := fun f hf => by have := h f hf; omega
theorem own_keepI {lo : Nat} {w : World} {v u : Value} {xs : List Int} {g j : Nat} (h : OwnInts lo w v xs) (hg : g < lo) : OwnInts lo (w.setCell ⟨g, j, none⟩ u) v xs :=
 own_grown h (grown_set w g j u) (by
  rcases hv : v.ownBlock with _ | b
  ·exact .inl rfl
  ·refine .inr fun e => ?_
   cases e
   have := (World.ownsRow.lt h g hv).1
   omega)
set_option maxHeartbeats 1000000 in
theorem CS.refer {lo g b0 : Nat} {call : CallV} {w W : World} {m e c : Value} {k : KernV} {gi cap : Nat} (h : CS lo g b0 call w W m (.slice (some ⟨gi, 0, none⟩) 12 cap) e c k) (x n : Int) (hx : x ≤ 9223372036854775807) (hl : k.infos.length = 12) (hn : n = 1 ∨ n = -1) (hs : SmallR k.infos 1000) :
 Calls Tryz.prog 274 #[call.on g, .int .i64 x, .int .i64 n] W fun r w' => r = .returned (.tuple #[]) ∧ CS lo g b0 call w w' m (.slice (some ⟨gi, 0, none⟩) 12 cap) e c { k with infos := refer1 k.infos x n } ∧ W.grownBy w' (some gi) := by
 have Hb1 := Lib.hid (below1 W (.cells (call.onCells g) 150))
 have N := heap_alloc_new W (.cells (call.onCells g) 150)
 have hb := below1 W (.cells (call.onCells g) 150)
 have h1 := h.below hb
 have hnb : -1 ≤ n ∧ n ≤ 1 := by omega
 have CE := Lib.hid (fun W => EntryGet_any x W hx)
 have ngi := h1.row_ne h1.ink.2.2.2.1 rfl (by decide) (by decide)
 obtain ⟨cur, hcur⟩ := own_type h1.ink.2.2.2.1 gi rfl
 have hgb : gi ≠ W.heap.size := by
  have := h.gi_lt
  omega
 have hbg : W.heap.size ≠ gi := hgb.symm
 have hgg : g ≠ W.heap.size := by
  have := h.lts.2.1
  omega
 obtain ⟨k1, e1, a1, b1, c1, nm1⟩ := call
 simp only [CallV.on, CallV.onCells] at N hb h1 Hb1 ⊢
 obtain ⟨y0, y1, y2, y3, y4, y5, y6⟩ := on_cells (c := ⟨k1, e1, a1, b1, c1, nm1⟩) N
 cases hg : entG x
 ·have V := Lib.hid (entV_no hg)
  have S := Lib.hid (show refer1 k.infos x n = k.infos by simp [refer1, hg])
  have H1 := Lib.hid h1
  clear hg h h1 hs hn y0 y1 y2 y3 y4 y5 y6 N hl ngi hcur
  go_enter Tryz.func274, Tryz.ntmps274
  go_wp2_with (go_at_call 118; refine (CE.out _).mono ?_; rintro e w' ⟨rfl, rfl⟩; rw [V.out])
  go_returns
  exact ⟨rfl, by rw [S.out]; exact H1.out, grown_below Hb1.out _⟩
 ·have hF := entF_lt hg
  have V := Lib.hid (entV_yes hg)
  have S := Lib.hid (show refer1 k.infos x n = modAt k.infos (entF x) (addR n) by unfold refer1; rw [hg, if_pos rfl])
  generalize entF x = f at *
  have hfl : f < k.infos.length := by omega
  obtain ⟨s1, s2⟩ := hs f hfl
  obtain ⟨_, _, d2⟩ := h1.infoAt hfl
  have T := Lib.hid (h1.info hl.symm hfl n)
  have x1 := h1.xs.2.1
  have Fr := h1.fzi (f * 3 + 2)
  have hfi : (f : Int) < 12 := by omega
  clear hg h h1 hs hn N y1 y2 y3 y4 y5 y6 hl ngi hcur
  go_enter Tryz.func274, Tryz.ntmps274
  go_wp2_with (go_at_call 118; refine (CE.out _).mono ?_; rintro e w' ⟨rfl, rfl⟩; rw [V.out])
  go_returns
  exact ⟨rfl, by rw [S.out]; exact T.out, grown_trans (grown_below Hb1.out _) (grown_set _ _ _ _)⟩
set_option maxRecDepth 100000 in
set_option maxHeartbeats 8000000 in
theorem setC_any {lo g : Nat} {w : World} {m i e c : Value} {k : KernV} (h : InK lo w g m i e c k) (hlo : lo ≤ w.heap.size) (hK : KOk k) (call : CallV) (he : 0 ≤ call.e) (hn : call.e < 3) (ha : 0 ≤ call.a ∧ call.a < 12) (hcc : call.c ≤ 9223372036854775807) :
 Calls Tryz.prog 228 #[call.on g] w (Ends1 lo g w (setP k call)) := by
 have S0 := CS.start h hlo call
 have P := setP_eq (k := k) (c := call)
 obtain ⟨k1, e1, a1, b1, c1, nm⟩ := call
 obtain ⟨en, rfl⟩ : ∃ n : Nat, e1 = (n : Int) := ⟨e1.toNat, by simp only at he; omega⟩
 obtain ⟨an, rfl⟩ : ∃ n : Nat, a1 = (n : Int) := ⟨a1.toNat, by simp only at ha; omega⟩
 have hen : en < 3 := by simp only at hn; omega
 have han : an < 12 := by simp only at ha; omega
 simp only [CallV.on, CallV.onCells] at S0 P hcc ⊢
 simp only [Int.toNat_natCast] at P
 obtain ⟨ge, cap, e9, _, ⟨⟨nge1, nge2⟩, nge3, nge4⟩, _⟩ := S0.envs (by rw [hK.envl]; omega)
 rw [hK.envl] at e9
 obtain ⟨gi, capi, e8, _, _, ⟨⟨ngi1, ngi2⟩, ngi3, ngi4⟩, _⟩ := S0.infos (by rw [hK.len]; omega)
 rw [hK.len] at e8
 obtain ⟨gm, capm, e7, _, ⟨ngm1, ngm2⟩, ngm3, ngm4⟩ := S0.mems (kok_parts hK).1
 subst e7 e8 e9
 obtain ⟨y0, y1, y2, y3, y4, y5, y6⟩ := S0.ys
 have HK := Lib.hid hK
 have HS := Lib.hid S0
 have HP := Lib.hid P
 have hai : (an : Int) < 12 := by omega
 have CEn := Lib.hid (fun W => EntryGet_any c1 W hcc)
 replace y3 := cell_regrown y3
 replace y4 := cell_regrown y4
 replace y5 := cell_regrown y5
 clear hK h S0 hlo he hn P y0 y1 y2 y6 ha
 go_enter Tryz.func228, Tryz.ntmps228
 go_wp2_with fail
 generalize w.alloc _ = W0 at *
 refine wp_region_quiet_below Tryz.mixed (by kernel_rfl) ?_
 repeat (go_big_quiet_step (fail))
 refine wpQuiet_nil ?_
 intro _ hw'
 obtain ⟨⟨dq, osq⟩, hw''⟩ := hw'
 subst hw''
 have bq := below_regrown W0 dq osq
 generalize Sort.grow (redrawn W0 dq) osq = wq at bq
 clear y3 y4 y5
 have S2 := Lib.hid (HS.out.below bq)
 obtain ⟨W2, rfl⟩ : ∃ W2 : World, W2 = wq := ⟨_, rfl⟩
 clear bq
 obtain ⟨y0, _, _, _, _, _, _⟩ := S2.out.ys
 obtain ⟨x0, x1, _, _⟩ := S2.out.xs
 obtain ⟨d0, _, _⟩ := S2.out.infoAt (f := an) (by rw [HK.out.len]; exact han)
 have cT := RegS (w1 := W2) (fun W => isTable_any (infoAt k.infos an).k W)
 have cP := RegS (w1 := W2) (fun W => isPlace_any b1 W)
 have cN := RegS (w1 := W2) (fun W => TableNeeds_any (infoAt k.infos an).k W)
 cases hg : entG c1
 ·have V := Lib.hid (entV_no hg)
  have Hent := Lib.hid hg
  have hnd : neededP k c1 = [] := by unfold neededP; rw [hg]; rfl
  have Hnd := Lib.hid hnd
  have hwf : wordFits k ⟨k1, (en : Int), (an : Int), b1, c1, nm⟩ = decide (c1 = 0) := by unfold wordFits; rw [hg]; rfl
  clear hg hnd
  go_wp2_with (go_at_call 118; refine (CEn.out _).mono ?_; rintro e w' ⟨rfl, rfl⟩; rw [V.out])
  clear x1 d0 y0 x0
  cases ht : tabK (infoAt k.infos an).k
  ·rw [ht] at cT
   have E := Lib.hid (show setP k ⟨k1, (en : Int), (an : Int), b1, c1, nm⟩ = (k, 0, 3) by rw [HP.out, if_pos (.inl ht)])
   refine wp_region_quiet_below Tryz.mixed (by kernel_rfl) ?_
   repeat (go_big_quiet_step (first | exact cT _ _ | exact cP _ _ | exact cN _ _))
   refine wpQuiet_nil ?_
   intro _ hw'
   obtain ⟨⟨dq, osq⟩, hw''⟩ := hw'
   subst hw''
   have bq := below_regrown W2 dq osq
   generalize Sort.grow (redrawn W2 dq) osq = wq at bq
   go_wp2_with fail
   go_ret
   exact Ends1.bad E.out (by decide) (S2.out.below bq).bel
  ·rw [ht] at cT
   cases hb : inB b1 0 3
   ·rw [hb] at cP
    have E := Lib.hid (show setP k ⟨k1, (en : Int), (an : Int), b1, c1, nm⟩ = (k, 0, 3) by rw [HP.out, if_pos (.inr (.inl hb))])
    refine wp_region_quiet_below Tryz.mixed (by kernel_rfl) ?_
    repeat (go_big_quiet_step (first | exact cT _ _ | exact cP _ _ | exact cN _ _))
    refine wpQuiet_nil ?_
    intro _ hw'
    obtain ⟨⟨dq, osq⟩, hw''⟩ := hw'
    subst hw''
    have bq := below_regrown W2 dq osq
    generalize Sort.grow (redrawn W2 dq) osq = wq at bq
    go_wp2_with fail
    go_ret
    exact Ends1.bad E.out (by decide) (S2.out.below bq).bel
   ·rw [hb] at cP
    by_cases h0 : c1 = 0
    ·have t0 : (c1 != 0) = false := by simp [h0]
     have HP2 := Lib.hid (show setP k ⟨k1, (en : Int), (an : Int), b1, c1, nm⟩ = _ by rw [HP.out, if_neg (by rintro (x | x | x); (· rw [ht] at x; cases x); (· rw [hb] at x; cases x); (· rw [hwf, h0] at x; cases x))])
     obtain ⟨bn, rfl⟩ : ∃ n : Nat, b1 = (n : Int) := ⟨b1.toNat, by have := (inB_iff.1 hb).1; omega⟩
     have hb4 : bn < 4 := by have := (inB_iff.1 hb).2; omega
     simp only [Int.toNat_natCast] at HP2
     have Hc0 := Lib.hid h0
     clear hwf ht hb h0
     refine wp_region_quiet_below Tryz.mixed (by kernel_rfl) ?_
     repeat (go_big_quiet_step (first | exact cT _ _ | exact cP _ _ | exact cN _ _))
     refine wpQuiet_nil ?_
     intro _ hw'
     obtain ⟨⟨dq, osq⟩, hw''⟩ := hw'
     subst hw''
     have bq := below_regrown W2 dq osq
     generalize Sort.grow (redrawn W2 dq) osq = wq at bq
     clear cT cP cN t0
     have S5 := Lib.hid (S2.out.below bq)
     obtain ⟨W5, rfl⟩ : ∃ W5 : World, W5 = wq := ⟨_, rfl⟩
     clear bq S2
     have N10 := Lib.hid (World.ownsRow_nil W5 W5.heap.size 3 1)
     have N10 : Hid (OwnInts W5.heap.size W5 (.slice none 0 0) (ints [])) := Lib.hid N10.out
     obtain ⟨ts, hts⟩ : ∃ ts : List Nat, ts = [] := ⟨_, rfl⟩
     have Hm := Lib.hid (show ∀ g, g ∈ ts ↔ g ∈ neededP k c1 by rw [hts, Hnd.out]; exact fun _ => Iff.rfl)
     have Ht := Lib.hid (show ∀ g, g ∈ ts → g < 12 by rw [hts]; intro g hg; cases hg)
     rw [← hts] at N10
     clear hts
     obtain ⟨y0, _, _, _, _, _, _⟩ := S5.out.ys
     obtain ⟨_, _, x2, _⟩ := S5.out.xs
     go_wp2_with fail
     clear y0 x2
     go_loopw [11, 99] (fun s11 s99 wr => ∃ j : Nat, j ≤ 3 ∧ s99 = .int .i64 j ∧ OwnInts W5.heap.size wr s11 (ints (usersTo k an j)) ∧ Below W5.heap.size W5 wr ∧ ∀ e, e ∈ usersTo k an j → allowedP k.infos (neededP k c1) (envAt k.envs e).rights = true) (fun _ s99 _ => 3 - (intOf s99).toNat)
     case atStart => exact ⟨0, Nat.zero_le _, rfl, World.ownsRow_nil _ _ _ _, Below.refl _ _, fun e he => by cases he⟩
     case round =>
      obtain ⟨j, hj, rfl, hO, hbel, hall⟩ := hrel
      have Hall := Lib.hid hall
      clear hall
      have hl6 := usersTo_len (k := k) (a := an) (j := j)
      have S6 := Lib.hid (S5.out.below hbel)
      have HO := Lib.hid hO
      have Hbel := Lib.hid hbel
      obtain ⟨a11, c11, rfl, _, _, _⟩ := hO.rd.open
      rw [ints_len] at HO ⊢
      clear hO hbel
      by_cases hlt : j < 3
      ·obtain ⟨ua, uc, D05, D15, R5⟩ := S5.out.env (j := j) (by rw [HK.out.envl]; exact hlt)
       have D0 := (Hbel.out.cell (World.block_lt_of_cell? _ _ D05)).trans D05
       have D1 := (Hbel.out.cell (World.block_lt_of_cell? _ _ D15)).trans D15
       have R := RdF.below R5 Hbel.out
       have HR5 := Lib.hid R5
       clear D05 D15 R5
       have hbN := below1 wr (.cells #[.slice ua (envAt k.envs j).rights.length uc, .int .i64 (envAt k.envs j).root] 80)
       have NE := heap_alloc_new wr (.cells #[.slice ua (envAt k.envs j).rights.length uc, .int .i64 (envAt k.envs j).root] 80)
       have S7 := Lib.hid (S6.out.below hbN)
       have hlt3 : (j : Int) < 3 := by omega
       obtain ⟨y0, _, _, _, _, _, _⟩ := S7.out.ys
       obtain ⟨x0, x1, _, _⟩ := S7.out.xs
       obtain ⟨hlr, hgr, _, _⟩ := S7.out.lts
       have hm12 := root_lt HK.out hlt
       have RM := RdRows.below S6.out.ink.2.2.rd.1 hbN
       have RIn : RdInfos _ _ k.infos := S7.out.ink.2.2.2.1.rd
       have R7 := RdF.below R hbN
       have HNE := Lib.hid NE
       have hqr := blk_lt NE
       have n0 := cell_of_row _ _ 0 _ _ _ NE
       have n1 := cell_of_row _ _ 1 _ _ _ NE
       have HbN := Lib.hid hbN
       clear hbN NE R
       go_wp2_with fail
       clear D0 D1
       generalize wr.alloc _ = W7 at *
       obtain ⟨qe, hqe⟩ : ∃ q, q = wr.heap.size := ⟨_, rfl⟩
       rw [← hqe] at HNE hqr n0 n1 ⊢
       have CX := Lib.hid (fun W (hW : Below W7.heap.size W7 W) => reached_root _ k.mem (envAt k.envs j).root W (RM.below hW) (kok_parts HK.out).1 hm12)
       have hG0 := HbN.out
       cases hbu : (reachL k.mem (envAt k.envs j).root).contains an
       ·have Hbu : Hid ((reachL k.mem (envAt k.envs j).root).contains an = false) := Lib.hid hbu
        have HU := Lib.hid (usersTo_no hbu)
        clear hbu hqe
        refine wp_region_grow 10 Tryz.mixed (by kernel_rfl) 188 rfl (by kernel_rfl) (fun ix vv ww => match ix with
         | 0 => vv = .pointer (some ⟨w.heap.size, 0, none⟩)
         | 1 => vv = .pointer (some ⟨g, 0, none⟩)
         | 2 => vv = .pointer (some ⟨g, 0, none⟩)
         | 3 => vv = .pointer (some ⟨g, 0, none⟩)
         | 4 => vv = .slice (some ⟨gm, 0, none⟩) 12 capm
         | 5 => vv = .pointer (some ⟨qe, 1, none⟩)
         | 6 => vv = .int .i64 ((envAt k.envs j).root)
         | 7 => ReachIn wr.heap.size k.mem (envAt k.envs j).root ww vv
         | 8 => vv = .int .i64 ((an : Int))
         | 9 => vv = .bool false
         | _ => True) ?_ ?_ ?_
        ·intro i hi vv wz ww' hbz hz
         match i, hi with
         | 0, _ | 1, _ | 2, _ | 3, _ | 4, _ | 5, _ | 6, _ => exact hz
         | 7, _ => exact (ReachIn.below hz hbz)
         | 8, _ | 9, _ => exact hz
        ·intro i hi o ho a wx Hb Hd hG K HK
         match i, hi with
         | 0, _ => exact dF ho rfl (gn rfl) HK rfl fA150_0 (eb (Hb.out.2.2 1 (by decide))) rfl
         | 1, _ => exact dL ho rfl (gn rfl) HK rfl (et (Hd.out 0 (by kernel_rfl))) (lA148 (bc hG hlr y0)) rfl
         | 2, _ => exact dC ho rfl (gn rfl) HK rfl (et (Hd.out 1 (by kernel_rfl))) rfl
         | 3, _ => exact dF ho rfl (gn rfl) HK rfl fA33_0 (et (Hd.out 2 (by kernel_rfl))) rfl
         | 4, _ => exact dL ho rfl (gn rfl) HK rfl (et (Hd.out 3 (by kernel_rfl))) (lA28 (bc hG hgr x0)) rfl
         | 5, _ => exact dF ho rfl (gn rfl) HK rfl fA80_1 (eb (Hb.out.2.2 13 (by decide))) rfl
         | 6, _ => exact dL ho rfl (gn rfl) HK rfl (et (Hd.out 5 (by kernel_rfl))) (lA3 (bc hG hqr n1)) rfl
         | 7, _ =>
          obtain rfl := Option.some.inj ho
          have d4 : (a.tmps[108]?.getD undef) = .slice (some ⟨gm, 0, none⟩) 12 capm := Hd.out 4 (by kernel_rfl)
          have d6 : (a.tmps[110]?.getD undef) = .int .i64 ((envAt k.envs j).root) := Hd.out 6 (by kernel_rfl)
          clear Hd Hb
          refine Does.of rfl ?_
          go_simp
          refine (CX.out _ hG).mono ?_; rintro e w_ ⟨v', ts', rfl, hO, hmem, _, hb2⟩
          exact HK.out _ _ ⟨ts', own_loV hO (Nat.le_trans hG0.size hG.size), hmem⟩ hb2
         | 8, _ => exact dM ho rfl (gn rfl) HK rfl (eb (Hb.out.2.2 3 (by decide))) rfl
         | 9, _ =>
          obtain rfl := Option.some.inj ho
          have d7 : ReachIn wr.heap.size k.mem (envAt k.envs j).root wx (a.tmps[111]?.getD undef) := Hd.out 7 (by kernel_rfl)
          have d8 : (a.tmps[112]?.getD undef) = .int .i64 ((an : Int)) := Hd.out 8 (by kernel_rfl)
          clear Hd Hb
          generalize e111 : a.tmps[111]?.getD undef = v2 at d7
          obtain ⟨ts', hO, hmem⟩ := d7
          have CC := same_below (ContainsInts_any v2 ts' (an : Int) wx (OwnInts.rd hO))
          rw [contains_ints hmem, Hbu.out] at CC
          refine Does.of rfl ?_
          go_simp
          refine CC.mono ?_; rintro e w_ ⟨rfl, hb2⟩
          exact HK.out _ _ rfl hb2
        ·intro vs wx hR hG
         have q9 : (vs 9) = .bool false := hR 9 (by decide)
         clear hR
         simp only [fillAt, dstOf, List.range, List.range.loop, List.foldl_cons, List.foldl_nil, q9]
         simp
         clear q9
         have hbx := hG0.trans (hG.mono hG0.size)
         have HOx := Lib.hid (HO.out.below hbx)
         have Hbx := Lib.hid (Hbel.out.trans (hbx.mono Hbel.out.size))
         clear hG hbx y0 x0 x1 n0 n1 hG0 RM RIn R7
         go_wp2_with fail
         go_roundw
         case rel => exact ⟨j + 1, by omega, by go_num, by rw [HU.out]; exact HOx.out, Hbx.out, by rw [HU.out]; exact Hall.out⟩
         case measure => simp [intOf]; omega
       ·have Hbu : Hid ((reachL k.mem (envAt k.envs j).root).contains an = true) := Lib.hid hbu
        have HU := Lib.hid (usersTo_yes hbu)
        have hju : j ∈ usersP k an := by rw [← users_three]; exact List.mem_filter.2 ⟨List.mem_range.2 hlt, hbu⟩
        clear hbu hqe
        refine wp_region_grow 10 Tryz.mixed (by kernel_rfl) 188 rfl (by kernel_rfl) (fun ix vv ww => match ix with
         | 0 => vv = .pointer (some ⟨w.heap.size, 0, none⟩)
         | 1 => vv = .pointer (some ⟨g, 0, none⟩)
         | 2 => vv = .pointer (some ⟨g, 0, none⟩)
         | 3 => vv = .pointer (some ⟨g, 0, none⟩)
         | 4 => vv = .slice (some ⟨gm, 0, none⟩) 12 capm
         | 5 => vv = .pointer (some ⟨qe, 1, none⟩)
         | 6 => vv = .int .i64 ((envAt k.envs j).root)
         | 7 => ReachIn wr.heap.size k.mem (envAt k.envs j).root ww vv
         | 8 => vv = .int .i64 ((an : Int))
         | 9 => vv = .bool true
         | _ => True) ?_ ?_ ?_
        ·intro i hi vv wz ww' hbz hz
         match i, hi with
         | 0, _ | 1, _ | 2, _ | 3, _ | 4, _ | 5, _ | 6, _ => exact hz
         | 7, _ => exact (ReachIn.below hz hbz)
         | 8, _ | 9, _ => exact hz
        ·intro i hi o ho a wx Hb Hd hG K HK
         match i, hi with
         | 0, _ => exact dF ho rfl (gn rfl) HK rfl fA150_0 (eb (Hb.out.2.2 1 (by decide))) rfl
         | 1, _ => exact dL ho rfl (gn rfl) HK rfl (et (Hd.out 0 (by kernel_rfl))) (lA148 (bc hG hlr y0)) rfl
         | 2, _ => exact dC ho rfl (gn rfl) HK rfl (et (Hd.out 1 (by kernel_rfl))) rfl
         | 3, _ => exact dF ho rfl (gn rfl) HK rfl fA33_0 (et (Hd.out 2 (by kernel_rfl))) rfl
         | 4, _ => exact dL ho rfl (gn rfl) HK rfl (et (Hd.out 3 (by kernel_rfl))) (lA28 (bc hG hgr x0)) rfl
         | 5, _ => exact dF ho rfl (gn rfl) HK rfl fA80_1 (eb (Hb.out.2.2 13 (by decide))) rfl
         | 6, _ => exact dL ho rfl (gn rfl) HK rfl (et (Hd.out 5 (by kernel_rfl))) (lA3 (bc hG hqr n1)) rfl
         | 7, _ =>
          obtain rfl := Option.some.inj ho
          have d4 : (a.tmps[108]?.getD undef) = .slice (some ⟨gm, 0, none⟩) 12 capm := Hd.out 4 (by kernel_rfl)
          have d6 : (a.tmps[110]?.getD undef) = .int .i64 ((envAt k.envs j).root) := Hd.out 6 (by kernel_rfl)
          clear Hd Hb
          refine Does.of rfl ?_
          go_simp
          refine (CX.out _ hG).mono ?_; rintro e w_ ⟨v', ts', rfl, hO, hmem, _, hb2⟩
          exact HK.out _ _ ⟨ts', own_loV hO (Nat.le_trans hG0.size hG.size), hmem⟩ hb2
         | 8, _ => exact dM ho rfl (gn rfl) HK rfl (eb (Hb.out.2.2 3 (by decide))) rfl
         | 9, _ =>
          obtain rfl := Option.some.inj ho
          have d7 : ReachIn wr.heap.size k.mem (envAt k.envs j).root wx (a.tmps[111]?.getD undef) := Hd.out 7 (by kernel_rfl)
          have d8 : (a.tmps[112]?.getD undef) = .int .i64 ((an : Int)) := Hd.out 8 (by kernel_rfl)
          clear Hd Hb
          generalize e111 : a.tmps[111]?.getD undef = v2 at d7
          obtain ⟨ts', hO, hmem⟩ := d7
          have CC := same_below (ContainsInts_any v2 ts' (an : Int) wx (OwnInts.rd hO))
          rw [contains_ints hmem, Hbu.out] at CC
          refine Does.of rfl ?_
          go_simp
          refine CC.mono ?_; rintro e w_ ⟨rfl, hb2⟩
          exact HK.out _ _ rfl hb2
        ·intro vs wx hR hG
         have q9 : (vs 9) = .bool true := hR 9 (by decide)
         clear hR
         simp only [fillAt, dstOf, List.range, List.range.loop, List.foldl_cons, List.foldl_nil, q9]
         simp
         clear q9
         have hbx := hG0.trans (hG.mono hG0.size)
         have HOx := HO.out.below hbx
         have Hbx := Lib.hid (Hbel.out.trans (hbx.mono Hbel.out.size))
         have b1 := below1 wx (.cells #[.int .i64 (j : Int)] 3)
         have O1 := Lib.hid (show (wx.alloc (.cells #[.int .i64 (j : Int)] 3)).ownsRow W5.heap.size 3 1 (.slice a11 (usersTo k an j).length c11) (usersTo k an j).length ((ints (usersTo k an j)).map (Value.int .i64)) by have := HOx.below b1; unfold OwnInts at this; rwa [ints_len] at this)
         have L1 := Lib.hid (show Rd (wx.alloc (.cells #[.int .i64 (j : Int)] 3)) (.slice (some ⟨wx.heap.size, 0, none⟩) 1 1) 1 1 ((ints [j]).map (Value.int .i64)) from OwnInts.rd (own_lit1 wx (j : Int)))
         have s5 := Hbx.out.size
         have hnb := Lib.hid (show ∀ b, (Value.slice a11 (usersTo k an j).length c11).ownBlock = some b → W5.heap.size ≤ b from fun b hb => (World.ownsRow.lt HO.out b hb).1)
         have S8 := Lib.hid ((S7.out.below hG).below b1)
         have HNE8 := Lib.hid (blk_below (blk_below HNE.out hG) b1)
         have Rx := Lib.hid (RdF.below (RdF.below R7 hG) b1)
         have hOa := Lib.hid HOx
         have HB8 := Lib.hid (Hbx.out.trans (b1.mono s5))
         clear hG hbx y0 x0 x1 n0 n1 hG0 RM RIn R7 HOx b1
         go_wp2_with (at_builtin; go_must (refine wp_append (lo := W5.heap.size) (v := .slice a11 (usersTo k an j).length c11) (n := (usersTo k an j).length) (xs := (ints (usersTo k an j)).map (Value.int .i64)) (m := 1) (news := (ints [j]).map (Value.int .i64)) rfl rfl 3 (.int .i64 0) 1 8 Tryz.underlying38 Tryz.infoInt rfl (by decide) rfl O1.out rfl L1.out mem_ints (by unfold maxLen; omega) (by omega) (by simp; omega) ?_; intro o11 W9 k1_ k2_ k3_; have y0 := (grown_cell (o := 0) k2_ S8.out.lts.1 (own_row_ne O1.out S8.out.blk (by decide))).trans S8.out.ys.1; have n0 := (grown_cell (o := 0) k2_ (blk_lt HNE8.out) (own_row_ne O1.out HNE8.out (by decide))).trans (cell_of_row _ _ 0 _ _ _ HNE8.out)))
         have HB9 := Lib.hid (HB8.out.trans k3_)
         have S9 := Lib.hid (S5.out.below HB9.out)
         have O9 := Lib.hid (app_ints (a := usersTo k an j) (b := [j]) k1_)
         have CAl := allowed_any g _ (.slice none 0 0) _ (envAt k.envs j).rights ts k.infos W9 S9.out.xs.2.1 (RdF.below HR5.out HB9.out) (RdF.below S5.out.ink.2.2.2.1.rd HB9.out) (RdInts.below (OwnInts.rd N10.out) HB9.out) (fun g hg => by rw [HK.out.len]; exact Ht.out g hg)
         rw [allowed_mem Hm.out] at CAl
         clear y0 n0 k1_ k2_ k3_ O1 L1
         cases hal : allowedP k.infos (neededP k c1) (envAt k.envs j).rights
         ·have Hal := Lib.hid hal
          have E := Lib.hid (show setP k ⟨k1, (en : Int), (an : Int), (bn : Int), c1, nm⟩ = (k, 0, 1) by rw [HP2.out, if_pos (List.all_eq_false.2 ⟨j, hju, by rw [hal]; decide⟩)])
          rw [hal] at CAl
          clear hal
          refine CAl.mono ?_; rintro r w10 ⟨rfl, hb10⟩
          go_wp2_with fail
          go_ret
          exact Ends1.bad E.out (by decide) (S9.out.below hb10).bel
         ·have Hal := Lib.hid hal
          rw [hal] at CAl
          clear hal
          refine CAl.mono ?_; rintro r w10 ⟨rfl, hb10⟩
          have O10 := Lib.hid (O9.out.below hb10)
          have H10 := Lib.hid (HB9.out.trans (hb10.mono HB9.out.size))
          clear hb10
          go_wp2_with fail
          go_roundw
          case rel => exact ⟨j + 1, by omega, by go_num, by rw [HU.out]; exact O10.out, H10.out, fun e he => by
           rw [HU.out, List.mem_append, List.mem_singleton] at he
           rcases he with he | rfl
           ·exact Hall.out e he
           ·exact Hal.out⟩
          case measure => simp [intOf]; omega
      ·obtain rfl : j = 3 := by omega
       rw [users_three] at HO Hall ⊢
       obtain ⟨us, hus⟩ : ∃ us, us = usersP k an := ⟨_, rfl⟩
       have husl : us.length ≤ 3 := by rw [hus, ← users_three]; exact usersTo_len
       rw [← hus] at HO Hall ⊢
       have HP3 := Lib.hid (show setP k ⟨k1, (en : Int), (an : Int), (bn : Int), c1, nm⟩ = _ by rw [HP2.out, if_neg (by rw [Bool.not_eq_false, List.all_eq_true, ← hus]; exact Hall.out)])
       rw [← hus] at HP3
       clear hus hl6
       obtain ⟨W6, rfl⟩ : ∃ W6 : World, W6 = wr := ⟨_, rfl⟩
       go_wp2_with fail
       have HP4 := Lib.hid (show setP k ⟨k1, (en : Int), (an : Int), (bn : Int), c1, nm⟩ = _ by rw [HP3.out, if_neg (by rintro ⟨x, _⟩; rw [Hent.out] at x; cases x)])
       refine wp_region_quiet_below Tryz.mixed (by kernel_rfl) ?_
       repeat (go_big_quiet_step (fail))
       refine wpQuiet_nil ?_
       intro _ hw'
       obtain ⟨⟨dq, osq⟩, hw''⟩ := hw'
       subst hw''
       have bq := below_regrown W6 dq osq
       generalize Sort.grow (redrawn W6 dq) osq = wq at bq
       have S7 := Lib.hid (S6.out.below bq)
       obtain ⟨W7, rfl⟩ : ∃ W7 : World, W7 = wq := ⟨_, rfl⟩
       have HO7 := Lib.hid (HO.out.below bq)
       have hs5 := Nat.le_trans Hbel.out.size bq.size
       obtain ⟨y0, y1, y2, y3, y4, y5, y6⟩ := S7.out.ys
       obtain ⟨x0, _, _, _⟩ := S7.out.xs
       obtain ⟨gw, capw, Dw, hgw, hcw, Dj, fzw, ⟨⟨ngw1, ngw2⟩, ngw3, ngw4⟩, _, hT, SW⟩ := S7.out.mrow (kok_parts HK.out).1 (f := an) han
       have Dv := Dj bn hb4
       have fz := fzw bn
       have S8 := Lib.hid (SW bn c1 hb4)
       have hb4i : (bn : Int) < 4 := by omega
       have how := Lib.hid (HK.out.word (f := an) (i := bn) han hb4)
       have hgw5 : gw < W5.heap.size := by
        obtain ⟨gw', capw', Dw', hgw', _⟩ := S5.out.mrow (kok_parts HK.out).1 (f := an) han
        have := ((Hbel.out.trans (bq.mono Hbel.out.size)).cell (World.block_lt_of_cell? _ _ Dw')).trans Dw'
        rw [Dw] at this
        simp at this
        rw [this.1]; exact hgw'
       have HO8 := Lib.hid (show OwnInts W5.heap.size (W7.setCell ⟨gw, bn, none⟩ (.int .i64 c1)) (.slice a11 us.length c11) (ints us) from own_grown HO7.out (grown_set _ _ _ _) (by
        rcases hv : (Value.slice a11 us.length c11).ownBlock with _ | b
        ·exact .inl rfl
        ·refine .inr fun e => ?_
         cases e
         have := (World.ownsRow.lt HO7.out gw hv).1
         omega))
       clear bq Dj fzw SW hT
       go_wp2_with fail
       clear y0 y1 y2 y3 y4 y5 y6 x0 Dw Dv fz
       generalize W7.setCell _ _ = W8 at *
       have CR := S8.out.refer (wdAt k.mem an bn) (-1) (by have := how.out.2; omega) HK.out.len (.inr rfl) ((small_refs (kok_parts HK.out).2.1).mono (by decide))
       simp only [CallV.on, CallV.onCells] at CR
       refine CR.mono ?_; rintro r w9 ⟨rfl, S9, hg9⟩
       have S9 := Lib.hid S9
       have hgi5 := S5.out.gi_lt
       have HO9 := Lib.hid (show OwnInts W5.heap.size w9 (.slice a11 us.length c11) (ints us) from own_grown HO8.out hg9 (by
        rcases hv : (Value.slice a11 us.length c11).ownBlock with _ | b
        ·exact .inl rfl
        ·refine .inr fun e => ?_
         cases e
         have := (World.ownsRow.lt HO8.out gi hv).1
         omega))
       clear hg9 CR
       obtain ⟨y0, y1, y2, y3, y4, y5, y6⟩ := S9.out.ys
       go_wp2_with fail
       clear y0 y1 y2 y3 y4 y5 y6
       have CR := S9.out.refer c1 1 hcc (by simp only [refer1_len]; exact HK.out.len) (.inl rfl) (SmallR.mono (SmallR.refer (small_refs (kok_parts HK.out).2.1) HK.out.len (.inr rfl)) (by decide))
       simp only [CallV.on, CallV.onCells] at CR
       refine CR.mono ?_; rintro r w10 ⟨rfl, S10, hg10⟩
       have S10 := Lib.hid S10
       have HO10 := Lib.hid (show OwnInts W5.heap.size w10 (.slice a11 us.length c11) (ints us) from own_grown HO9.out hg10 (by
        rcases hv : (Value.slice a11 us.length c11).ownBlock with _ | b
        ·exact .inl rfl
        ·refine .inr fun e => ?_
         cases e
         have := (World.ownsRow.lt HO9.out gi hv).1
         omega))
       have hg5 := S5.out.lts.2.1
       clear hg10 CR
       go_wp2_with fail
       go_loopw [172] (fun s172 wr => ∃ j : Nat, j ≤ us.length ∧ s172 = .int .i64 j ∧ OwnInts W5.heap.size wr (.slice a11 us.length c11) (ints us) ∧ ∃ c', CS lo g w.heap.size ⟨k1, (en : Int), (an : Int), (bn : Int), c1, nm⟩ w wr (.slice (some ⟨gm, 0, none⟩) 12 capm) (.slice (some ⟨gi, 0, none⟩) 12 capi) (.slice (some ⟨ge, 0, none⟩) 3 cap) c' { k with mem := setWd k.mem an bn c1, infos := refer1 (refer1 k.infos (wdAt k.mem an bn) (-1)) c1 1, cache := dropsC (us.take j) k.cache }) (fun s172 _ => us.length - (intOf s172).toNat)
       case atStart => exact ⟨0, Nat.zero_le _, rfl, HO10.out, c, S10.out⟩
       case round =>
        obtain ⟨j, hj, rfl, hO, c', hS⟩ := hrel
        have HOr := Lib.hid hO
        have S := Lib.hid hS
        clear hS
        by_cases hlt : j < us.length
        ·obtain ⟨ax, cx, hvx, _, _, H0⟩ := hO.rd.open
         rw [ints_len] at hvx
         simp only [Value.slice.injEq] at hvx
         obtain ⟨rfl, _, rfl⟩ := hvx
         obtain ⟨bx, offx, rfl, DX⟩ := H0.at (k := j) (by rw [ints_len]; exact hlt)
         rw [nth_ints hlt] at DX
         obtain ⟨un, hun⟩ : ∃ u, u = us.getD j 0 := ⟨_, rfl⟩
         rw [← hun] at DX
         have HUN := Lib.hid hun
         obtain ⟨cc, hcc'⟩ : ∃ cc, cc = dropsC (us.take j) k.cache := ⟨_, rfl⟩
         have HCC := Lib.hid hcc'
         clear hun
         have hjl : (j : Int) < us.length := by omega
         obtain ⟨y0, _, _, _, _, _, _⟩ := S.out.ys
         obtain ⟨_, _, _, x3⟩ := S.out.xs
         obtain ⟨hlr, hgr, ngb, nbg⟩ := S.out.lts
         have RC : RdCache wr c' cc := by rw [hcc']; exact S.out.ink.2.2.2.2.2.rd
         clear hcc'
         have CD := Lib.hid (fun W (hW : Below wr.heap.size wr W) => CacheDrop_any c' cc (un : Int) W (RdF.below RC hW) (by rw [HCC.out]; exact dropsC_ok _ (kok_parts HK.out).2.2))
         clear RC H0 hO
         go_wp2_with fail
         clear DX
         refine wp_region_grow 11 Tryz.mixed (by kernel_rfl) 188 rfl (by kernel_rfl) (fun ix vv ww => match ix with
          | 0 => vv = .pointer (some ⟨w.heap.size, 0, none⟩)
          | 1 => vv = .pointer (some ⟨g, 0, none⟩)
          | 2 => vv = .pointer (some ⟨w.heap.size, 0, none⟩)
          | 3 => vv = .pointer (some ⟨g, 0, none⟩)
          | 4 => vv = .pointer (some ⟨g, 0, none⟩)
          | 5 => vv = .pointer (some ⟨g, 3, none⟩)
          | 6 => vv = c'
          | 7 => vv = .int .i64 ((un : Int))
          | 8 => OwnF wr.heap.size 94 4 cachedCs ww vv (dropC cc (un : Int))
          | 9 => vv = .pointer (some ⟨g, 0, none⟩)
          | 10 => vv = .pointer (some ⟨g, 3, none⟩)
          | _ => True) ?_ ?_ ?_
         ·intro i hi vv wz ww' hbz hz
          match i, hi with
          | 0, _ | 1, _ | 2, _ | 3, _ | 4, _ | 5, _ | 6, _ | 7, _ => exact hz
          | 8, _ => exact (OwnF.below hz hbz)
          | 9, _ | 10, _ => exact hz
         ·intro i hi o ho a wx Hb Hd hG K HK
          match i, hi with
          | 0, _ => exact dF ho rfl (gn rfl) HK rfl fA150_0 (eb (Hb.out.2.2 1 (by decide))) rfl
          | 1, _ => exact dL ho rfl (gn rfl) HK rfl (et (Hd.out 0 (by kernel_rfl))) (lA148 (bc hG hlr y0)) rfl
          | 2, _ => exact dF ho rfl (gn rfl) HK rfl fA150_0 (eb (Hb.out.2.2 1 (by decide))) rfl
          | 3, _ => exact dL ho rfl (gn rfl) HK rfl (et (Hd.out 2 (by kernel_rfl))) (lA148 (bc hG hlr y0)) rfl
          | 4, _ => exact dC ho rfl (gn rfl) HK rfl (et (Hd.out 3 (by kernel_rfl))) rfl
          | 5, _ => exact dF ho rfl (gn rfl) HK rfl fA33_3 (et (Hd.out 4 (by kernel_rfl))) rfl
          | 6, _ => exact dL ho rfl (gn rfl) HK rfl (et (Hd.out 5 (by kernel_rfl))) (lA31 (bc hG hgr x3)) rfl
          | 7, _ => exact dM ho rfl (gn rfl) HK rfl (eb (Hb.out.2.2 16 (by decide))) rfl
          | 8, _ =>
           obtain rfl := Option.some.inj ho
           have d6 : (a.tmps[182]?.getD undef) = c' := Hd.out 6 (by kernel_rfl)
           have d7 : (a.tmps[183]?.getD undef) = .int .i64 ((un : Int)) := Hd.out 7 (by kernel_rfl)
           clear Hd Hb
           refine Does.of rfl ?_
           go_simp
           refine (CD.out _ hG).mono ?_; rintro e w_ ⟨v', rfl, hO, hb2⟩
           exact HK.out _ _ (hO.lower hG.size) hb2
          | 9, _ => exact dC ho rfl (gn rfl) HK rfl (et (Hd.out 1 (by kernel_rfl))) rfl
          | 10, _ => exact dF ho rfl (gn rfl) HK rfl fA33_3 (et (Hd.out 9 (by kernel_rfl))) rfl
         ·intro vs wx hR hG
          have q1 : (vs 1) = .pointer (some ⟨g, 0, none⟩) := hR 1 (by decide)
          have q8 : OwnF wr.heap.size 94 4 cachedCs wx (vs 8) (dropC cc (un : Int)) := hR 8 (by decide)
          have q9 : (vs 9) = .pointer (some ⟨g, 0, none⟩) := hR 9 (by decide)
          have q10 : (vs 10) = .pointer (some ⟨g, 3, none⟩) := hR 10 (by decide)
          clear hR
          simp only [fillAt, dstOf, List.range, List.range.loop, List.foldl_cons, List.foldl_nil, q1, q9, q10]
          simp
          generalize vs 8 = z8 at q8 ⊢
          clear q1 q9 q10
          rw [HCC.out, HUN.out, ← dropsC_take hlt] at q8
          have S8 := Lib.hid (S.out.cache hG q8)
          have HOn := Lib.hid (own_keepI (j := 3) (u := z8) (OwnInts.below HOr.out hG) hg5)
          have fzg := blk_frozen (S.out.below hG).ink.1
          have x3w := (S.out.below hG).xs.2.2.2
          obtain ⟨_, _, rfl, _, _⟩ := q8.rd.shape
          clear q8 hG y0 x3
          go_wp2_with fail
          go_roundw
          case rel => exact ⟨j + 1, by omega, by go_num, HOn.out, _, S8.out⟩
          case measure => simp [intOf]; omega
        ·obtain rfl : j = us.length := by omega
         rw [List.take_length] at S
         have HE := Lib.hid (show setP k ⟨k1, (en : Int), (an : Int), (bn : Int), c1, nm⟩ = ({ k with mem := setWd k.mem an bn c1, infos := refer1 (refer1 k.infos (wdAt k.mem an bn) (-1)) c1 1, cache := dropsC us k.cache }, 0, 0) from HP4.out)
         go_wp2_with fail
         go_ret
         exact ⟨by rw [HE.out] <;> rfl, fun _ => ⟨_, _, _, _, by rw [HE.out]; exact S.out.ink⟩, S.out.bel⟩
    ·have t0 : (c1 != 0) = true := by simp [h0]
     have E := Lib.hid (show setP k ⟨k1, (en : Int), (an : Int), b1, c1, nm⟩ = (k, 0, 3) by rw [HP.out, if_pos (.inr (.inr (by rw [hwf]; simp [h0])))])
     refine wp_region_quiet_below Tryz.mixed (by kernel_rfl) ?_
     repeat (go_big_quiet_step (first | exact cT _ _ | exact cP _ _ | exact cN _ _))
     refine wpQuiet_nil ?_
     intro _ hw'
     obtain ⟨⟨dq, osq⟩, hw''⟩ := hw'
     subst hw''
     have bq := below_regrown W2 dq osq
     generalize Sort.grow (redrawn W2 dq) osq = wq at bq
     go_wp2_with fail
     go_ret
     exact Ends1.bad E.out (by decide) (S2.out.below bq).bel
 ·have hF := entF_lt hg
  have V := Lib.hid (entV_yes hg)
  have Hent := Lib.hid hg
  have hwf : wordFits k ⟨k1, (en : Int), (an : Int), b1, c1, nm⟩ = decide ((infoAt k.infos (entF c1)).k = (infoAt k.infos an).k - 1) := by unfold wordFits; rw [hg]; rfl
  have h0 : c1 ≠ 0 := by rintro rfl; cases hg
  have t0 : (c1 != 0) = true := by simp [h0]
  have HN := Lib.hid (show neededP k c1 = entF c1 :: (if tabK (infoAt k.infos (entF c1)).k then named (rowAt k.mem (entF c1)) else []) by unfold neededP; rw [hg]; rfl)
  clear hg
  obtain ⟨f, hfe⟩ : ∃ f, f = entF c1 := ⟨_, rfl⟩
  have HF := Lib.hid hfe.symm
  rw [← hfe] at V HN hwf hF
  clear hfe
  obtain ⟨df0, _, _⟩ := S2.out.infoAt (f := f) (by rw [HK.out.len]; exact hF)
  have hfi : (f : Int) < 12 := by omega
  go_wp2_with (go_at_call 118; refine (CEn.out _).mono ?_; rintro e w' ⟨rfl, rfl⟩; rw [V.out])
  replace y0 := cell_regrown y0
  replace x1 := cell_regrown x1
  replace df0 := cell_regrown df0
  clear d0 x0
  cases ht : tabK (infoAt k.infos an).k
  ·rw [ht] at cT
   have E := Lib.hid (show setP k ⟨k1, (en : Int), (an : Int), b1, c1, nm⟩ = (k, 0, 3) by rw [HP.out, if_pos (.inl ht)])
   refine wp_region_quiet_below Tryz.mixed (by kernel_rfl) ?_
   repeat (go_big_quiet_step (first | exact cT _ _ | exact cP _ _ | exact cN _ _))
   refine wpQuiet_nil ?_
   intro _ hw'
   obtain ⟨⟨dq, osq⟩, hw''⟩ := hw'
   subst hw''
   have bq := below_regrown W2 dq osq
   generalize Sort.grow (redrawn W2 dq) osq = wq at bq
   go_wp2_with fail
   go_ret
   exact Ends1.bad E.out (by decide) (S2.out.below bq).bel
  ·rw [ht] at cT
   rw [needs_tab ht] at cN
   cases hb : inB b1 0 3
   ·rw [hb] at cP
    have E := Lib.hid (show setP k ⟨k1, (en : Int), (an : Int), b1, c1, nm⟩ = (k, 0, 3) by rw [HP.out, if_pos (.inr (.inl hb))])
    refine wp_region_quiet_below Tryz.mixed (by kernel_rfl) ?_
    repeat (go_big_quiet_step (first | exact cT _ _ | exact cP _ _ | exact cN _ _))
    refine wpQuiet_nil ?_
    intro _ hw'
    obtain ⟨⟨dq, osq⟩, hw''⟩ := hw'
    subst hw''
    have bq := below_regrown W2 dq osq
    generalize Sort.grow (redrawn W2 dq) osq = wq at bq
    go_wp2_with fail
    go_ret
    exact Ends1.bad E.out (by decide) (S2.out.below bq).bel
   ·rw [hb] at cP
    by_cases h0 : (infoAt k.infos f).k = (infoAt k.infos an).k - 1
    ·have t2 : ((infoAt k.infos f).k != (infoAt k.infos an).k - 1) = false := by simp [h0]
     have HP2 := Lib.hid (show setP k ⟨k1, (en : Int), (an : Int), b1, c1, nm⟩ = _ by rw [HP.out, if_neg (by rintro (x | x | x); (· rw [ht] at x; cases x); (· rw [hb] at x; cases x); (· rw [hwf, decide_eq_true h0] at x; cases x))])
     obtain ⟨bn, rfl⟩ : ∃ n : Nat, b1 = (n : Int) := ⟨b1.toNat, by have := (inB_iff.1 hb).1; omega⟩
     have hb4 : bn < 4 := by have := (inB_iff.1 hb).2; omega
     simp only [Int.toNat_natCast] at HP2
     have hf12 := hF
     clear hwf ht hb h0 hF
     refine wp_region_quiet_below Tryz.mixed (by kernel_rfl) ?_
     repeat (go_big_quiet_step (first | exact cT _ _ | exact cP _ _ | exact cN _ _))
     refine wpQuiet_nil ?_
     intro _ hw'
     obtain ⟨⟨dq, osq⟩, hw''⟩ := hw'
     subst hw''
     have bq := below_regrown W2 dq osq
     generalize Sort.grow (redrawn W2 dq) osq = wq at bq
     clear cT cP cN t0 t2 y0 x1 df0
     have S3 := Lib.hid (S2.out.below bq)
     obtain ⟨W3, rfl⟩ : ∃ W3 : World, W3 = wq := ⟨_, rfl⟩
     clear bq S2
     have b1_ := below1 W3 (.cells #[.int .i64 (f : Int)] 3)
     have O4 := Lib.hid (own_lit1 W3 (f : Int))
     have S4 := Lib.hid (S3.out.below b1_)
     have HB4 := Lib.hid b1_
     clear b1_
     obtain ⟨y0, _, _, _, _, _, _⟩ := S4.out.ys
     obtain ⟨x0, x1, _, _⟩ := S4.out.xs
     obtain ⟨df0, _, _⟩ := S4.out.infoAt (f := f) (by rw [HK.out.len]; exact hf12)
     have CT := Lib.hid (fun W => isTable_any (infoAt k.infos f).k W)
     go_wp2_with fail
     refine (CT.out _).mono ?_; rintro r w9 ⟨rfl, rfl⟩
     generalize W3.alloc _ = W4 at *
     go_upto_if 83 with fail
     go_cut [10] (fun s10 wx => ∃ ts b3, OwnInts b3 wx s10 (ints ts) ∧ (∀ g, g ∈ ts ↔ g ∈ neededP k c1) ∧ (∀ g, g ∈ ts → g < 12) ∧ CS lo g w.heap.size ⟨k1, (en : Int), (an : Int), (bn : Int), c1, nm⟩ w wx (.slice (some ⟨gm, 0, none⟩) 12 capm) (.slice (some ⟨gi, 0, none⟩) 12 capi) (.slice (some ⟨ge, 0, none⟩) 3 cap) c k)
     case first =>
      cases htf : tabK (infoAt k.infos f).k
      ·go_wp2_with fail
       go_meet
       case rel => exact ⟨[f], _, O4.out, by rw [HN.out, htf]; exact fun _ => Iff.rfl, by intro g hg; rw [List.mem_singleton] at hg; omega, S4.out⟩
      ·have RM := S4.out.ink.2.2.rd.1
       have CN := named_any _ (.slice (some ⟨W3.heap.size, 0, none⟩) 1 1) k.mem [f] W4 RM (kok_parts HK.out).1 (OwnInts.rd O4.out) (by simpa using hf12) (by simp)
       have hacc := accN_len (kok_parts HK.out).1 (ns := [f]) (by simpa using hf12)
       go_wp2_with fail
       refine CN.mono ?_; rintro r w5 ⟨v5, t5, rfl, P5, m5, l5, hb5⟩
       have O5 := Lib.hid (show w5.ownsRow W3.heap.size 3 1 (.slice (some ⟨W3.heap.size, 0, none⟩) 1 1) 1 ((ints [f]).map (Value.int .i64)) from O4.out.below hb5)
       have R5 := Lib.hid (show Rd w5 v5 1 t5.length ((ints t5).map (Value.int .i64)) by have := OwnInts.rd P5; unfold RdInts at this; rwa [ints_len] at this)
       have hlo5 : W3.heap.size ≤ w5.heap.size := Nat.le_trans (by have := (World.ownsRow.lt O4.out _ rfl); omega) hb5.size
       have S5_ := Lib.hid (S4.out.below hb5)
       have HB5 := Lib.hid (HB4.out.trans (hb5.mono HB4.out.size))
       have h5 : t5.length ≤ 4 := by simp at hacc; omega
       have Hm := Lib.hid (show ∀ g, g ∈ [f] ++ t5 ↔ g ∈ neededP k c1 by
        intro g
        rw [HN.out, htf, if_pos rfl, List.mem_append, List.mem_singleton, List.mem_cons, m5]
        simp [accN])
       have Ht := Lib.hid (show ∀ g, g ∈ [f] ++ t5 → g < 12 by
        intro g hg
        rw [List.mem_append, List.mem_singleton] at hg
        rcases hg with rfl | hg
        ·exact hf12
        ·obtain ⟨_, _, hg⟩ := accN_mem.1 ((m5 g).1 hg)
         exact named_lt hg)
       clear htf O4 S4 x0 x1 y0 df0 CT RM P5 m5 l5 hb5 hacc CN
       go_wp2_with (at_builtin; go_must (refine wp_append (lo := W3.heap.size) (v := .slice (some ⟨W3.heap.size, 0, none⟩) 1 1) (n := 1) (xs := (ints [f]).map (Value.int .i64)) (m := t5.length) (news := (ints t5).map (Value.int .i64)) rfl rfl 3 (.int .i64 0) 1 8 Tryz.underlying38 Tryz.infoInt rfl (by decide) rfl O5.out rfl R5.out mem_ints (by unfold maxLen; omega) (by omega) (by omega) ?_; intro o10 W5 k1_ k2_ k3_; have y0 := (grown_cell (o := 0) k2_ S5_.out.lts.1 (own_row_ne O5.out S5_.out.blk (by decide))).trans S5_.out.ys.1; have x2 := (grown_cell (o := 2) k2_ S5_.out.lts.2.1 (own_row_ne O5.out S5_.out.ink.1 (by decide))).trans S5_.out.xs.2.2.1))
       go_meet
       case rel => exact ⟨[f] ++ t5, _, app_ints (a := [f]) (b := t5) k1_, Hm.out, Ht.out, S3.out.below (HB5.out.trans k3_)⟩
     case rest =>
     obtain ⟨ts, b3, n10, hm_, ht_, s5_⟩ := hcut
     have N10 := Lib.hid n10
     have Hm := Lib.hid hm_
     have Ht := Lib.hid ht_
     have S5 := Lib.hid s5_
     obtain ⟨W5, rfl⟩ : ∃ W5 : World, W5 = wc := ⟨_, rfl⟩
     clear n10 hm_ ht_ s5_ O4 S4 x0 x1 y0 df0 CT
     obtain ⟨y0, _, _, _, _, _, _⟩ := S5.out.ys
     obtain ⟨_, _, x2, _⟩ := S5.out.xs
     go_wp2_with fail
     clear y0 x2
     go_loopw [11, 99] (fun s11 s99 wr => ∃ j : Nat, j ≤ 3 ∧ s99 = .int .i64 j ∧ OwnInts W5.heap.size wr s11 (ints (usersTo k an j)) ∧ Below W5.heap.size W5 wr ∧ ∀ e, e ∈ usersTo k an j → allowedP k.infos (neededP k c1) (envAt k.envs e).rights = true) (fun _ s99 _ => 3 - (intOf s99).toNat)
     case atStart => exact ⟨0, Nat.zero_le _, rfl, World.ownsRow_nil _ _ _ _, Below.refl _ _, fun e he => by cases he⟩
     case round =>
      obtain ⟨j, hj, rfl, hO, hbel, hall⟩ := hrel
      have Hall := Lib.hid hall
      clear hall
      have hl6 := usersTo_len (k := k) (a := an) (j := j)
      have S6 := Lib.hid (S5.out.below hbel)
      have HO := Lib.hid hO
      have Hbel := Lib.hid hbel
      obtain ⟨a11, c11, rfl, _, _, _⟩ := hO.rd.open
      rw [ints_len] at HO ⊢
      clear hO hbel
      by_cases hlt : j < 3
      ·obtain ⟨ua, uc, D05, D15, R5⟩ := S5.out.env (j := j) (by rw [HK.out.envl]; exact hlt)
       have D0 := (Hbel.out.cell (World.block_lt_of_cell? _ _ D05)).trans D05
       have D1 := (Hbel.out.cell (World.block_lt_of_cell? _ _ D15)).trans D15
       have R := RdF.below R5 Hbel.out
       have HR5 := Lib.hid R5
       clear D05 D15 R5
       have hbN := below1 wr (.cells #[.slice ua (envAt k.envs j).rights.length uc, .int .i64 (envAt k.envs j).root] 80)
       have NE := heap_alloc_new wr (.cells #[.slice ua (envAt k.envs j).rights.length uc, .int .i64 (envAt k.envs j).root] 80)
       have S7 := Lib.hid (S6.out.below hbN)
       have hlt3 : (j : Int) < 3 := by omega
       obtain ⟨y0, _, _, _, _, _, _⟩ := S7.out.ys
       obtain ⟨x0, x1, _, _⟩ := S7.out.xs
       obtain ⟨hlr, hgr, _, _⟩ := S7.out.lts
       have hm12 := root_lt HK.out hlt
       have RM := RdRows.below S6.out.ink.2.2.rd.1 hbN
       have RIn : RdInfos _ _ k.infos := S7.out.ink.2.2.2.1.rd
       have R7 := RdF.below R hbN
       have HNE := Lib.hid NE
       have hqr := blk_lt NE
       have n0 := cell_of_row _ _ 0 _ _ _ NE
       have n1 := cell_of_row _ _ 1 _ _ _ NE
       have HbN := Lib.hid hbN
       clear hbN NE R
       go_wp2_with fail
       clear D0 D1
       generalize wr.alloc _ = W7 at *
       obtain ⟨qe, hqe⟩ : ∃ q, q = wr.heap.size := ⟨_, rfl⟩
       rw [← hqe] at HNE hqr n0 n1 ⊢
       have CX := Lib.hid (fun W (hW : Below W7.heap.size W7 W) => reached_root _ k.mem (envAt k.envs j).root W (RM.below hW) (kok_parts HK.out).1 hm12)
       have hG0 := HbN.out
       cases hbu : (reachL k.mem (envAt k.envs j).root).contains an
       ·have Hbu : Hid ((reachL k.mem (envAt k.envs j).root).contains an = false) := Lib.hid hbu
        have HU := Lib.hid (usersTo_no hbu)
        clear hbu hqe
        refine wp_region_grow 10 Tryz.mixed (by kernel_rfl) 188 rfl (by kernel_rfl) (fun ix vv ww => match ix with
         | 0 => vv = .pointer (some ⟨w.heap.size, 0, none⟩)
         | 1 => vv = .pointer (some ⟨g, 0, none⟩)
         | 2 => vv = .pointer (some ⟨g, 0, none⟩)
         | 3 => vv = .pointer (some ⟨g, 0, none⟩)
         | 4 => vv = .slice (some ⟨gm, 0, none⟩) 12 capm
         | 5 => vv = .pointer (some ⟨qe, 1, none⟩)
         | 6 => vv = .int .i64 ((envAt k.envs j).root)
         | 7 => ReachIn wr.heap.size k.mem (envAt k.envs j).root ww vv
         | 8 => vv = .int .i64 ((an : Int))
         | 9 => vv = .bool false
         | _ => True) ?_ ?_ ?_
        ·intro i hi vv wz ww' hbz hz
         match i, hi with
         | 0, _ | 1, _ | 2, _ | 3, _ | 4, _ | 5, _ | 6, _ => exact hz
         | 7, _ => exact (ReachIn.below hz hbz)
         | 8, _ | 9, _ => exact hz
        ·intro i hi o ho a wx Hb Hd hG K HK
         match i, hi with
         | 0, _ => exact dF ho rfl (gn rfl) HK rfl fA150_0 (eb (Hb.out.2.2 1 (by decide))) rfl
         | 1, _ => exact dL ho rfl (gn rfl) HK rfl (et (Hd.out 0 (by kernel_rfl))) (lA148 (bc hG hlr y0)) rfl
         | 2, _ => exact dC ho rfl (gn rfl) HK rfl (et (Hd.out 1 (by kernel_rfl))) rfl
         | 3, _ => exact dF ho rfl (gn rfl) HK rfl fA33_0 (et (Hd.out 2 (by kernel_rfl))) rfl
         | 4, _ => exact dL ho rfl (gn rfl) HK rfl (et (Hd.out 3 (by kernel_rfl))) (lA28 (bc hG hgr x0)) rfl
         | 5, _ => exact dF ho rfl (gn rfl) HK rfl fA80_1 (eb (Hb.out.2.2 13 (by decide))) rfl
         | 6, _ => exact dL ho rfl (gn rfl) HK rfl (et (Hd.out 5 (by kernel_rfl))) (lA3 (bc hG hqr n1)) rfl
         | 7, _ =>
          obtain rfl := Option.some.inj ho
          have d4 : (a.tmps[108]?.getD undef) = .slice (some ⟨gm, 0, none⟩) 12 capm := Hd.out 4 (by kernel_rfl)
          have d6 : (a.tmps[110]?.getD undef) = .int .i64 ((envAt k.envs j).root) := Hd.out 6 (by kernel_rfl)
          clear Hd Hb
          refine Does.of rfl ?_
          go_simp
          refine (CX.out _ hG).mono ?_; rintro e w_ ⟨v', ts', rfl, hO, hmem, _, hb2⟩
          exact HK.out _ _ ⟨ts', own_loV hO (Nat.le_trans hG0.size hG.size), hmem⟩ hb2
         | 8, _ => exact dM ho rfl (gn rfl) HK rfl (eb (Hb.out.2.2 3 (by decide))) rfl
         | 9, _ =>
          obtain rfl := Option.some.inj ho
          have d7 : ReachIn wr.heap.size k.mem (envAt k.envs j).root wx (a.tmps[111]?.getD undef) := Hd.out 7 (by kernel_rfl)
          have d8 : (a.tmps[112]?.getD undef) = .int .i64 ((an : Int)) := Hd.out 8 (by kernel_rfl)
          clear Hd Hb
          generalize e111 : a.tmps[111]?.getD undef = v2 at d7
          obtain ⟨ts', hO, hmem⟩ := d7
          have CC := same_below (ContainsInts_any v2 ts' (an : Int) wx (OwnInts.rd hO))
          rw [contains_ints hmem, Hbu.out] at CC
          refine Does.of rfl ?_
          go_simp
          refine CC.mono ?_; rintro e w_ ⟨rfl, hb2⟩
          exact HK.out _ _ rfl hb2
        ·intro vs wx hR hG
         have q9 : (vs 9) = .bool false := hR 9 (by decide)
         clear hR
         simp only [fillAt, dstOf, List.range, List.range.loop, List.foldl_cons, List.foldl_nil, q9]
         simp
         clear q9
         have hbx := hG0.trans (hG.mono hG0.size)
         have HOx := Lib.hid (HO.out.below hbx)
         have Hbx := Lib.hid (Hbel.out.trans (hbx.mono Hbel.out.size))
         clear hG hbx y0 x0 x1 n0 n1 hG0 RM RIn R7
         go_wp2_with fail
         go_roundw
         case rel => exact ⟨j + 1, by omega, by go_num, by rw [HU.out]; exact HOx.out, Hbx.out, by rw [HU.out]; exact Hall.out⟩
         case measure => simp [intOf]; omega
       ·have Hbu : Hid ((reachL k.mem (envAt k.envs j).root).contains an = true) := Lib.hid hbu
        have HU := Lib.hid (usersTo_yes hbu)
        have hju : j ∈ usersP k an := by rw [← users_three]; exact List.mem_filter.2 ⟨List.mem_range.2 hlt, hbu⟩
        clear hbu hqe
        refine wp_region_grow 10 Tryz.mixed (by kernel_rfl) 188 rfl (by kernel_rfl) (fun ix vv ww => match ix with
         | 0 => vv = .pointer (some ⟨w.heap.size, 0, none⟩)
         | 1 => vv = .pointer (some ⟨g, 0, none⟩)
         | 2 => vv = .pointer (some ⟨g, 0, none⟩)
         | 3 => vv = .pointer (some ⟨g, 0, none⟩)
         | 4 => vv = .slice (some ⟨gm, 0, none⟩) 12 capm
         | 5 => vv = .pointer (some ⟨qe, 1, none⟩)
         | 6 => vv = .int .i64 ((envAt k.envs j).root)
         | 7 => ReachIn wr.heap.size k.mem (envAt k.envs j).root ww vv
         | 8 => vv = .int .i64 ((an : Int))
         | 9 => vv = .bool true
         | _ => True) ?_ ?_ ?_
        ·intro i hi vv wz ww' hbz hz
         match i, hi with
         | 0, _ | 1, _ | 2, _ | 3, _ | 4, _ | 5, _ | 6, _ => exact hz
         | 7, _ => exact (ReachIn.below hz hbz)
         | 8, _ | 9, _ => exact hz
        ·intro i hi o ho a wx Hb Hd hG K HK
         match i, hi with
         | 0, _ => exact dF ho rfl (gn rfl) HK rfl fA150_0 (eb (Hb.out.2.2 1 (by decide))) rfl
         | 1, _ => exact dL ho rfl (gn rfl) HK rfl (et (Hd.out 0 (by kernel_rfl))) (lA148 (bc hG hlr y0)) rfl
         | 2, _ => exact dC ho rfl (gn rfl) HK rfl (et (Hd.out 1 (by kernel_rfl))) rfl
         | 3, _ => exact dF ho rfl (gn rfl) HK rfl fA33_0 (et (Hd.out 2 (by kernel_rfl))) rfl
         | 4, _ => exact dL ho rfl (gn rfl) HK rfl (et (Hd.out 3 (by kernel_rfl))) (lA28 (bc hG hgr x0)) rfl
         | 5, _ => exact dF ho rfl (gn rfl) HK rfl fA80_1 (eb (Hb.out.2.2 13 (by decide))) rfl
         | 6, _ => exact dL ho rfl (gn rfl) HK rfl (et (Hd.out 5 (by kernel_rfl))) (lA3 (bc hG hqr n1)) rfl
         | 7, _ =>
          obtain rfl := Option.some.inj ho
          have d4 : (a.tmps[108]?.getD undef) = .slice (some ⟨gm, 0, none⟩) 12 capm := Hd.out 4 (by kernel_rfl)
          have d6 : (a.tmps[110]?.getD undef) = .int .i64 ((envAt k.envs j).root) := Hd.out 6 (by kernel_rfl)
          clear Hd Hb
          refine Does.of rfl ?_
          go_simp
          refine (CX.out _ hG).mono ?_; rintro e w_ ⟨v', ts', rfl, hO, hmem, _, hb2⟩
          exact HK.out _ _ ⟨ts', own_loV hO (Nat.le_trans hG0.size hG.size), hmem⟩ hb2
         | 8, _ => exact dM ho rfl (gn rfl) HK rfl (eb (Hb.out.2.2 3 (by decide))) rfl
         | 9, _ =>
          obtain rfl := Option.some.inj ho
          have d7 : ReachIn wr.heap.size k.mem (envAt k.envs j).root wx (a.tmps[111]?.getD undef) := Hd.out 7 (by kernel_rfl)
          have d8 : (a.tmps[112]?.getD undef) = .int .i64 ((an : Int)) := Hd.out 8 (by kernel_rfl)
          clear Hd Hb
          generalize e111 : a.tmps[111]?.getD undef = v2 at d7
          obtain ⟨ts', hO, hmem⟩ := d7
          have CC := same_below (ContainsInts_any v2 ts' (an : Int) wx (OwnInts.rd hO))
          rw [contains_ints hmem, Hbu.out] at CC
          refine Does.of rfl ?_
          go_simp
          refine CC.mono ?_; rintro e w_ ⟨rfl, hb2⟩
          exact HK.out _ _ rfl hb2
        ·intro vs wx hR hG
         have q9 : (vs 9) = .bool true := hR 9 (by decide)
         clear hR
         simp only [fillAt, dstOf, List.range, List.range.loop, List.foldl_cons, List.foldl_nil, q9]
         simp
         clear q9
         have hbx := hG0.trans (hG.mono hG0.size)
         have HOx := HO.out.below hbx
         have Hbx := Lib.hid (Hbel.out.trans (hbx.mono Hbel.out.size))
         have b1 := below1 wx (.cells #[.int .i64 (j : Int)] 3)
         have O1 := Lib.hid (show (wx.alloc (.cells #[.int .i64 (j : Int)] 3)).ownsRow W5.heap.size 3 1 (.slice a11 (usersTo k an j).length c11) (usersTo k an j).length ((ints (usersTo k an j)).map (Value.int .i64)) by have := HOx.below b1; unfold OwnInts at this; rwa [ints_len] at this)
         have L1 := Lib.hid (show Rd (wx.alloc (.cells #[.int .i64 (j : Int)] 3)) (.slice (some ⟨wx.heap.size, 0, none⟩) 1 1) 1 1 ((ints [j]).map (Value.int .i64)) from OwnInts.rd (own_lit1 wx (j : Int)))
         have s5 := Hbx.out.size
         have hnb := Lib.hid (show ∀ b, (Value.slice a11 (usersTo k an j).length c11).ownBlock = some b → W5.heap.size ≤ b from fun b hb => (World.ownsRow.lt HO.out b hb).1)
         have S8 := Lib.hid ((S7.out.below hG).below b1)
         have HNE8 := Lib.hid (blk_below (blk_below HNE.out hG) b1)
         have Rx := Lib.hid (RdF.below (RdF.below R7 hG) b1)
         have hOa := Lib.hid HOx
         have HB8 := Lib.hid (Hbx.out.trans (b1.mono s5))
         clear hG hbx y0 x0 x1 n0 n1 hG0 RM RIn R7 HOx b1
         go_wp2_with (at_builtin; go_must (refine wp_append (lo := W5.heap.size) (v := .slice a11 (usersTo k an j).length c11) (n := (usersTo k an j).length) (xs := (ints (usersTo k an j)).map (Value.int .i64)) (m := 1) (news := (ints [j]).map (Value.int .i64)) rfl rfl 3 (.int .i64 0) 1 8 Tryz.underlying38 Tryz.infoInt rfl (by decide) rfl O1.out rfl L1.out mem_ints (by unfold maxLen; omega) (by omega) (by simp; omega) ?_; intro o11 W9 k1_ k2_ k3_; have y0 := (grown_cell (o := 0) k2_ S8.out.lts.1 (own_row_ne O1.out S8.out.blk (by decide))).trans S8.out.ys.1; have n0 := (grown_cell (o := 0) k2_ (blk_lt HNE8.out) (own_row_ne O1.out HNE8.out (by decide))).trans (cell_of_row _ _ 0 _ _ _ HNE8.out)))
         have HB9 := Lib.hid (HB8.out.trans k3_)
         have S9 := Lib.hid (S5.out.below HB9.out)
         have O9 := Lib.hid (app_ints (a := usersTo k an j) (b := [j]) k1_)
         have CAl := allowed_any g _ _ _ (envAt k.envs j).rights ts k.infos W9 S9.out.xs.2.1 (RdF.below HR5.out HB9.out) (RdF.below S5.out.ink.2.2.2.1.rd HB9.out) (RdInts.below (OwnInts.rd N10.out) HB9.out) (fun g hg => by rw [HK.out.len]; exact Ht.out g hg)
         rw [allowed_mem Hm.out] at CAl
         clear y0 n0 k1_ k2_ k3_ O1 L1
         cases hal : allowedP k.infos (neededP k c1) (envAt k.envs j).rights
         ·have Hal := Lib.hid hal
          have E := Lib.hid (show setP k ⟨k1, (en : Int), (an : Int), (bn : Int), c1, nm⟩ = (k, 0, 1) by rw [HP2.out, if_pos (List.all_eq_false.2 ⟨j, hju, by rw [hal]; decide⟩)])
          rw [hal] at CAl
          clear hal
          refine CAl.mono ?_; rintro r w10 ⟨rfl, hb10⟩
          go_wp2_with fail
          go_ret
          exact Ends1.bad E.out (by decide) (S9.out.below hb10).bel
         ·have Hal := Lib.hid hal
          rw [hal] at CAl
          clear hal
          refine CAl.mono ?_; rintro r w10 ⟨rfl, hb10⟩
          have O10 := Lib.hid (O9.out.below hb10)
          have H10 := Lib.hid (HB9.out.trans (hb10.mono HB9.out.size))
          clear hb10
          go_wp2_with fail
          go_roundw
          case rel => exact ⟨j + 1, by omega, by go_num, by rw [HU.out]; exact O10.out, H10.out, fun e he => by
           rw [HU.out, List.mem_append, List.mem_singleton] at he
           rcases he with he | rfl
           ·exact Hall.out e he
           ·exact Hal.out⟩
          case measure => simp [intOf]; omega
      ·obtain rfl : j = 3 := by omega
       rw [users_three] at HO Hall ⊢
       obtain ⟨us, hus⟩ : ∃ us, us = usersP k an := ⟨_, rfl⟩
       have husl : us.length ≤ 3 := by rw [hus, ← users_three]; exact usersTo_len
       rw [← hus] at HO Hall ⊢
       have HP3 := Lib.hid (show setP k ⟨k1, (en : Int), (an : Int), (bn : Int), c1, nm⟩ = _ by rw [HP2.out, if_neg (by rw [Bool.not_eq_false, List.all_eq_true, ← hus]; exact Hall.out)])
       rw [← hus] at HP3
       clear hus hl6
       obtain ⟨W6, rfl⟩ : ∃ W6 : World, W6 = wr := ⟨_, rfl⟩
       go_wp2_with fail
       have CM := RegB (w1 := W6) (fun W hW => may_c (S6.out.below hW).ink ⟨k1, (en : Int), (an : Int), (bn : Int), c1, nm⟩ (infoAt k.infos f).g (by simp) (by rw [HK.out.envl]; simp only; omega))
       simp only [CallV.on, CallV.onCells] at CM
       obtain ⟨y0, y1, y2, y3, y4, y5, y6⟩ := S6.out.ys
       replace y0 := cell_regrown y0
       replace y1 := cell_regrown y1
       replace y2 := cell_regrown y2
       replace y3 := cell_regrown y3
       replace y4 := cell_regrown y4
       replace y5 := cell_regrown y5
       replace y6 := cell_regrown y6
       have x1 := cell_regrown S6.out.xs.2.1
       have dg := cell_regrown (S6.out.infoAt (f := f) (by rw [HK.out.len]; exact hf12)).2.1
       cases hmy : mayE k (en : Int) (infoAt k.infos f).g
       ·have HMy := Lib.hid hmy
        have E := Lib.hid (show setP k ⟨k1, (en : Int), (an : Int), (bn : Int), c1, nm⟩ = (k, 0, 1) by rw [HP3.out, if_pos ⟨Hent.out, by rw [HF.out]; exact hmy⟩])
        rw [hmy] at CM
        clear hmy
        refine wp_region_quiet_below Tryz.mixed (by kernel_rfl) ?_
        repeat (go_big_quiet_step (exact CM _ _))
        refine wpQuiet_nil ?_
        intro _ hw'
        obtain ⟨⟨dq, osq⟩, hw''⟩ := hw'
        subst hw''
        have bq := below_regrown W6 dq osq
        generalize Sort.grow (redrawn W6 dq) osq = wq at bq
        clear y0 y1 y2 y3 y4 y5 y6 x1 dg
        go_wp2_with fail
        go_ret
        exact Ends1.bad E.out (by decide) (S6.out.below bq).bel
       have HMy := Lib.hid hmy
       rw [hmy] at CM
       clear hmy
       have HP4 := Lib.hid (show setP k ⟨k1, (en : Int), (an : Int), (bn : Int), c1, nm⟩ = _ by rw [HP3.out, if_neg (by rintro ⟨_, x⟩; rw [HF.out, HMy.out] at x; cases x)])
       refine wp_region_quiet_below Tryz.mixed (by kernel_rfl) ?_
       repeat (go_big_quiet_step (exact CM _ _))
       refine wpQuiet_nil ?_
       intro _ hw'
       obtain ⟨⟨dq, osq⟩, hw''⟩ := hw'
       subst hw''
       have bq := below_regrown W6 dq osq
       generalize Sort.grow (redrawn W6 dq) osq = wq at bq
       clear y0 y1 y2 y3 y4 y5 y6 x1 dg CM
       have S7 := Lib.hid (S6.out.below bq)
       obtain ⟨W7, rfl⟩ : ∃ W7 : World, W7 = wq := ⟨_, rfl⟩
       have HO7 := Lib.hid (HO.out.below bq)
       have hs5 := Nat.le_trans Hbel.out.size bq.size
       obtain ⟨y0, y1, y2, y3, y4, y5, y6⟩ := S7.out.ys
       obtain ⟨x0, _, _, _⟩ := S7.out.xs
       obtain ⟨gw, capw, Dw, hgw, hcw, Dj, fzw, ⟨⟨ngw1, ngw2⟩, ngw3, ngw4⟩, _, hT, SW⟩ := S7.out.mrow (kok_parts HK.out).1 (f := an) han
       have Dv := Dj bn hb4
       have fz := fzw bn
       have S8 := Lib.hid (SW bn c1 hb4)
       have hb4i : (bn : Int) < 4 := by omega
       have how := Lib.hid (HK.out.word (f := an) (i := bn) han hb4)
       have hgw5 : gw < W5.heap.size := by
        obtain ⟨gw', capw', Dw', hgw', _⟩ := S5.out.mrow (kok_parts HK.out).1 (f := an) han
        have := ((Hbel.out.trans (bq.mono Hbel.out.size)).cell (World.block_lt_of_cell? _ _ Dw')).trans Dw'
        rw [Dw] at this
        simp at this
        rw [this.1]; exact hgw'
       have HO8 := Lib.hid (show OwnInts W5.heap.size (W7.setCell ⟨gw, bn, none⟩ (.int .i64 c1)) (.slice a11 us.length c11) (ints us) from own_grown HO7.out (grown_set _ _ _ _) (by
        rcases hv : (Value.slice a11 us.length c11).ownBlock with _ | b
        ·exact .inl rfl
        ·refine .inr fun e => ?_
         cases e
         have := (World.ownsRow.lt HO7.out gw hv).1
         omega))
       clear bq Dj fzw SW hT
       go_wp2_with fail
       clear y0 y1 y2 y3 y4 y5 y6 x0 Dw Dv fz
       generalize W7.setCell _ _ = W8 at *
       have CR := S8.out.refer (wdAt k.mem an bn) (-1) (by have := how.out.2; omega) HK.out.len (.inr rfl) ((small_refs (kok_parts HK.out).2.1).mono (by decide))
       simp only [CallV.on, CallV.onCells] at CR
       refine CR.mono ?_; rintro r w9 ⟨rfl, S9, hg9⟩
       have S9 := Lib.hid S9
       have hgi5 := S5.out.gi_lt
       have HO9 := Lib.hid (show OwnInts W5.heap.size w9 (.slice a11 us.length c11) (ints us) from own_grown HO8.out hg9 (by
        rcases hv : (Value.slice a11 us.length c11).ownBlock with _ | b
        ·exact .inl rfl
        ·refine .inr fun e => ?_
         cases e
         have := (World.ownsRow.lt HO8.out gi hv).1
         omega))
       clear hg9 CR
       obtain ⟨y0, y1, y2, y3, y4, y5, y6⟩ := S9.out.ys
       go_wp2_with fail
       clear y0 y1 y2 y3 y4 y5 y6
       have CR := S9.out.refer c1 1 hcc (by simp only [refer1_len]; exact HK.out.len) (.inl rfl) (SmallR.mono (SmallR.refer (small_refs (kok_parts HK.out).2.1) HK.out.len (.inr rfl)) (by decide))
       simp only [CallV.on, CallV.onCells] at CR
       refine CR.mono ?_; rintro r w10 ⟨rfl, S10, hg10⟩
       have S10 := Lib.hid S10
       have HO10 := Lib.hid (show OwnInts W5.heap.size w10 (.slice a11 us.length c11) (ints us) from own_grown HO9.out hg10 (by
        rcases hv : (Value.slice a11 us.length c11).ownBlock with _ | b
        ·exact .inl rfl
        ·refine .inr fun e => ?_
         cases e
         have := (World.ownsRow.lt HO9.out gi hv).1
         omega))
       have hg5 := S5.out.lts.2.1
       clear hg10 CR
       go_wp2_with fail
       go_loopw [172] (fun s172 wr => ∃ j : Nat, j ≤ us.length ∧ s172 = .int .i64 j ∧ OwnInts W5.heap.size wr (.slice a11 us.length c11) (ints us) ∧ ∃ c', CS lo g w.heap.size ⟨k1, (en : Int), (an : Int), (bn : Int), c1, nm⟩ w wr (.slice (some ⟨gm, 0, none⟩) 12 capm) (.slice (some ⟨gi, 0, none⟩) 12 capi) (.slice (some ⟨ge, 0, none⟩) 3 cap) c' { k with mem := setWd k.mem an bn c1, infos := refer1 (refer1 k.infos (wdAt k.mem an bn) (-1)) c1 1, cache := dropsC (us.take j) k.cache }) (fun s172 _ => us.length - (intOf s172).toNat)
       case atStart => exact ⟨0, Nat.zero_le _, rfl, HO10.out, c, S10.out⟩
       case round =>
        obtain ⟨j, hj, rfl, hO, c', hS⟩ := hrel
        have HOr := Lib.hid hO
        have S := Lib.hid hS
        clear hS
        by_cases hlt : j < us.length
        ·obtain ⟨ax, cx, hvx, _, _, H0⟩ := hO.rd.open
         rw [ints_len] at hvx
         simp only [Value.slice.injEq] at hvx
         obtain ⟨rfl, _, rfl⟩ := hvx
         obtain ⟨bx, offx, rfl, DX⟩ := H0.at (k := j) (by rw [ints_len]; exact hlt)
         rw [nth_ints hlt] at DX
         obtain ⟨un, hun⟩ : ∃ u, u = us.getD j 0 := ⟨_, rfl⟩
         rw [← hun] at DX
         have HUN := Lib.hid hun
         obtain ⟨cc, hcc'⟩ : ∃ cc, cc = dropsC (us.take j) k.cache := ⟨_, rfl⟩
         have HCC := Lib.hid hcc'
         clear hun
         have hjl : (j : Int) < us.length := by omega
         obtain ⟨y0, _, _, _, _, _, _⟩ := S.out.ys
         obtain ⟨_, _, _, x3⟩ := S.out.xs
         obtain ⟨hlr, hgr, ngb, nbg⟩ := S.out.lts
         have RC : RdCache wr c' cc := by rw [hcc']; exact S.out.ink.2.2.2.2.2.rd
         clear hcc'
         have CD := Lib.hid (fun W (hW : Below wr.heap.size wr W) => CacheDrop_any c' cc (un : Int) W (RdF.below RC hW) (by rw [HCC.out]; exact dropsC_ok _ (kok_parts HK.out).2.2))
         clear RC H0 hO
         go_wp2_with fail
         clear DX
         refine wp_region_grow 11 Tryz.mixed (by kernel_rfl) 188 rfl (by kernel_rfl) (fun ix vv ww => match ix with
          | 0 => vv = .pointer (some ⟨w.heap.size, 0, none⟩)
          | 1 => vv = .pointer (some ⟨g, 0, none⟩)
          | 2 => vv = .pointer (some ⟨w.heap.size, 0, none⟩)
          | 3 => vv = .pointer (some ⟨g, 0, none⟩)
          | 4 => vv = .pointer (some ⟨g, 0, none⟩)
          | 5 => vv = .pointer (some ⟨g, 3, none⟩)
          | 6 => vv = c'
          | 7 => vv = .int .i64 ((un : Int))
          | 8 => OwnF wr.heap.size 94 4 cachedCs ww vv (dropC cc (un : Int))
          | 9 => vv = .pointer (some ⟨g, 0, none⟩)
          | 10 => vv = .pointer (some ⟨g, 3, none⟩)
          | _ => True) ?_ ?_ ?_
         ·intro i hi vv wz ww' hbz hz
          match i, hi with
          | 0, _ | 1, _ | 2, _ | 3, _ | 4, _ | 5, _ | 6, _ | 7, _ => exact hz
          | 8, _ => exact (OwnF.below hz hbz)
          | 9, _ | 10, _ => exact hz
         ·intro i hi o ho a wx Hb Hd hG K HK
          match i, hi with
          | 0, _ => exact dF ho rfl (gn rfl) HK rfl fA150_0 (eb (Hb.out.2.2 1 (by decide))) rfl
          | 1, _ => exact dL ho rfl (gn rfl) HK rfl (et (Hd.out 0 (by kernel_rfl))) (lA148 (bc hG hlr y0)) rfl
          | 2, _ => exact dF ho rfl (gn rfl) HK rfl fA150_0 (eb (Hb.out.2.2 1 (by decide))) rfl
          | 3, _ => exact dL ho rfl (gn rfl) HK rfl (et (Hd.out 2 (by kernel_rfl))) (lA148 (bc hG hlr y0)) rfl
          | 4, _ => exact dC ho rfl (gn rfl) HK rfl (et (Hd.out 3 (by kernel_rfl))) rfl
          | 5, _ => exact dF ho rfl (gn rfl) HK rfl fA33_3 (et (Hd.out 4 (by kernel_rfl))) rfl
          | 6, _ => exact dL ho rfl (gn rfl) HK rfl (et (Hd.out 5 (by kernel_rfl))) (lA31 (bc hG hgr x3)) rfl
          | 7, _ => exact dM ho rfl (gn rfl) HK rfl (eb (Hb.out.2.2 16 (by decide))) rfl
          | 8, _ =>
           obtain rfl := Option.some.inj ho
           have d6 : (a.tmps[182]?.getD undef) = c' := Hd.out 6 (by kernel_rfl)
           have d7 : (a.tmps[183]?.getD undef) = .int .i64 ((un : Int)) := Hd.out 7 (by kernel_rfl)
           clear Hd Hb
           refine Does.of rfl ?_
           go_simp
           refine (CD.out _ hG).mono ?_; rintro e w_ ⟨v', rfl, hO, hb2⟩
           exact HK.out _ _ (hO.lower hG.size) hb2
          | 9, _ => exact dC ho rfl (gn rfl) HK rfl (et (Hd.out 1 (by kernel_rfl))) rfl
          | 10, _ => exact dF ho rfl (gn rfl) HK rfl fA33_3 (et (Hd.out 9 (by kernel_rfl))) rfl
         ·intro vs wx hR hG
          have q1 : (vs 1) = .pointer (some ⟨g, 0, none⟩) := hR 1 (by decide)
          have q8 : OwnF wr.heap.size 94 4 cachedCs wx (vs 8) (dropC cc (un : Int)) := hR 8 (by decide)
          have q9 : (vs 9) = .pointer (some ⟨g, 0, none⟩) := hR 9 (by decide)
          have q10 : (vs 10) = .pointer (some ⟨g, 3, none⟩) := hR 10 (by decide)
          clear hR
          simp only [fillAt, dstOf, List.range, List.range.loop, List.foldl_cons, List.foldl_nil, q1, q9, q10]
          simp
          generalize vs 8 = z8 at q8 ⊢
          clear q1 q9 q10
          rw [HCC.out, HUN.out, ← dropsC_take hlt] at q8
          have S8 := Lib.hid (S.out.cache hG q8)
          have HOn := Lib.hid (own_keepI (j := 3) (u := z8) (OwnInts.below HOr.out hG) hg5)
          have fzg := blk_frozen (S.out.below hG).ink.1
          have x3w := (S.out.below hG).xs.2.2.2
          obtain ⟨_, _, rfl, _, _⟩ := q8.rd.shape
          clear q8 hG y0 x3
          go_wp2_with fail
          go_roundw
          case rel => exact ⟨j + 1, by omega, by go_num, HOn.out, _, S8.out⟩
          case measure => simp [intOf]; omega
        ·obtain rfl : j = us.length := by omega
         rw [List.take_length] at S
         have HE := Lib.hid (show setP k ⟨k1, (en : Int), (an : Int), (bn : Int), c1, nm⟩ = ({ k with mem := setWd k.mem an bn c1, infos := refer1 (refer1 k.infos (wdAt k.mem an bn) (-1)) c1 1, cache := dropsC us k.cache }, 0, 0) from HP4.out)
         go_wp2_with fail
         go_ret
         exact ⟨by rw [HE.out] <;> rfl, fun _ => ⟨_, _, _, _, by rw [HE.out]; exact S.out.ink⟩, S.out.bel⟩
    ·have t2 : ((infoAt k.infos f).k != (infoAt k.infos an).k - 1) = true := by simp [h0]
     have E := Lib.hid (show setP k ⟨k1, (en : Int), (an : Int), b1, c1, nm⟩ = (k, 0, 3) by rw [HP.out, if_pos (.inr (.inr (by rw [hwf]; exact decide_eq_false h0)))])
     refine wp_region_quiet_below Tryz.mixed (by kernel_rfl) ?_
     repeat (go_big_quiet_step (first | exact cT _ _ | exact cP _ _ | exact cN _ _))
     refine wpQuiet_nil ?_
     intro _ hw'
     obtain ⟨⟨dq, osq⟩, hw''⟩ := hw'
     subst hw''
     have bq := below_regrown W2 dq osq
     generalize Sort.grow (redrawn W2 dq) osq = wq at bq
     go_wp2_with fail
     go_ret
     exact Ends1.bad E.out (by decide) (S2.out.below bq).bel
def frameQ (k : KernV) (c : CallV) : Res :=
 if c.k = 2 then giveP k c
 else if c.k = 3 then pokeP k c
 else if c.k = 4 then pinnedP k (pinP k.mem k.infos c.a.toNat c.b (envAt k.envs c.e.toNat).rights)
 else if c.k = 5 then pinnedP k (unpinP k.mem k.infos c.a.toNat)
 else setP k c
theorem pinCode_ne {n : Int} (h : n ≠ 0) : pinCode n ≠ 0 := by
 unfold pinCode
 rw [if_neg h]
 split <;> decide
set_option maxRecDepth 100000 in
set_option maxHeartbeats 4000000 in
theorem frameC_any {lo g : Nat} {w : World} {m i e c : Value} {k : KernV} (h : InK lo w g m i e c k) (hlo : lo ≤ w.heap.size) (hK : KOk k) (call : CallV) (he : 0 ≤ call.e) (hn : call.e < 3) (hk : 2 ≤ call.k ∧ call.k ≤ 6) (ha : 0 ≤ call.a ∧ call.a < 12) (hk4 : call.k = 4 → tabK call.b = true) (hcc : call.c ≤ 9223372036854775807) :
 Calls Tryz.prog 176 #[call.on g] w (Ends1 lo g w (frameQ k call)) := by
 have S0 := CS.start h hlo call
 have P : frameQ k call = if call.k = 2 then giveP k call else if call.k = 3 then pokeP k call else if call.k = 4 then pinnedP k (pinP k.mem k.infos call.a.toNat call.b (envAt k.envs call.e.toNat).rights) else if call.k = 5 then pinnedP k (unpinP k.mem k.infos call.a.toNat) else setP k call := rfl
 have CS6 := fun (W : World) (hW : Below (w.alloc (.cells (call.onCells g) 150)).heap.size (w.alloc (.cells (call.onCells g) 150)) W) => setC_any (S0.below hW).ink (S0.below hW).lo hK call he hn ha hcc
 obtain ⟨k1, e1, a1, b1, c1, nm⟩ := call
 obtain ⟨en, rfl⟩ : ∃ n : Nat, e1 = (n : Int) := ⟨e1.toNat, by simp only at he; omega⟩
 obtain ⟨an, rfl⟩ : ∃ n : Nat, a1 = (n : Int) := ⟨a1.toNat, by simp only at ha; omega⟩
 have hen : en < 3 := by simp only at hn; omega
 have han : an < 12 := by simp only at ha; omega
 simp only [CallV.on, CallV.onCells] at S0 P hk hk4 CS6 ⊢
 simp only [Int.toNat_natCast] at P
 obtain ⟨ge, cap, e9, _, ⟨⟨nge1, nge2⟩, nge3, nge4⟩, _⟩ := S0.envs (by rw [hK.envl]; omega)
 rw [hK.envl] at e9
 obtain ⟨gi, capi, e8, _, _, ⟨⟨ngi1, ngi2⟩, ngi3, ngi4⟩, _⟩ := S0.infos (by rw [hK.len]; omega)
 rw [hK.len] at e8
 obtain ⟨gm, capm, e7, _, ⟨ngm1, ngm2⟩, ngm3, ngm4⟩ := S0.mems (kok_parts hK).1
 subst e7 e8 e9
 obtain ⟨y0, y1, y2, y3, y4, y5, y6⟩ := S0.ys
 obtain ⟨x0, x1, x2, x3⟩ := S0.xs
 obtain ⟨d0, d1, d2⟩ := S0.infoAt (f := an) (by rw [hK.len]; exact han)
 have hani : (an : Int) < 12 := by omega
 obtain ⟨hl2, hgl2, ngb, nbg⟩ := S0.lts
 have HK := Lib.hid hK
 have HS := Lib.hid S0
 clear hK h S0 hlo he hn
 obtain ⟨kk1, kk2⟩ := hk
 have k5 : k1 = 2 ∨ k1 = 3 ∨ k1 = 4 ∨ k1 = 5 ∨ k1 = 6 := by omega
 clear kk1 kk2
 rcases k5 with rfl | rfl | rfl | rfl | rfl
 ·have HP := Lib.hid (show frameQ k ⟨2, (en : Int), (an : Int), b1, c1, nm⟩ = giveP k ⟨2, (en : Int), (an : Int), b1, c1, nm⟩ from P)
  have HG := Lib.hid (show giveP k ⟨2, (en : Int), (an : Int), b1, c1, nm⟩ = if (infoAt k.infos an).k ≠ 1 then (k, 0, 3) else if (infoAt k.infos an).r ≠ 0 then (k, 0, 2) else ({ k with infos := k.infos.set an InfoV.zero }, 0, 0) from rfl)
  clear P CS6
  by_cases h1 : (infoAt k.infos an).k = 1
  ·have t1 : ((infoAt k.infos an).k == 1) = true := by simp [h1]
   by_cases h2 : (infoAt k.infos an).r = 0
   ·have E := Lib.hid (show frameQ k ⟨2, (en : Int), (an : Int), b1, c1, nm⟩ = ({ k with infos := k.infos.set an InfoV.zero }, 0, 0) by rw [HP.out, HG.out, if_neg (by simp [h1]), if_neg (by simp [h2])])
    have H1 := Lib.hid h1
    have H2 := Lib.hid h2
    clear h1 h2
    go_enter Tryz.func176, Tryz.ntmps176
    go_wp2_with fail
    generalize w.alloc _ = W0 at *
    have CG := Lib.hid (InfosGive_yes _ k.infos an W0 HS.out.ink.2.2.2.1.rd (kok_parts HK.out).2.1 han H1.out H2.out)
    refine CG.out.mono ?_; rintro r w1 ⟨v', rfl, hO, hb⟩
    have S2 := Lib.hid (HS.out.newInfos hb hO)
    have fz := blk_frozen (HS.out.below hb).ink.1
    have x1 := (HS.out.below hb).xs.2.1
    have y0 := (HS.out.below hb).ys.1
    obtain ⟨_, _, rfl, _, _⟩ := hO.rd.shape
    rw [List.length_set] at S2
    clear hO hb
    go_wp2_with fail
    go_ret
    exact ⟨by rw [E.out] <;> rfl, fun _ => ⟨_, _, _, _, by rw [E.out]; exact S2.out.ink⟩, S2.out.bel⟩
   ·have E := Lib.hid (show frameQ k ⟨2, (en : Int), (an : Int), b1, c1, nm⟩ = (k, 0, 2) by rw [HP.out, HG.out, if_neg (by simp [h1]), if_pos h2])
    have H1 := Lib.hid h1
    have H2 := Lib.hid h2
    clear h1 h2
    go_enter Tryz.func176, Tryz.ntmps176
    go_wp2_with fail
    generalize w.alloc _ = W0 at *
    have CG := Lib.hid (InfosGive_no _ k.infos an W0 HS.out.ink.2.2.2.1.rd (kok_parts HK.out).2.1 han H1.out H2.out)
    refine CG.out.mono ?_; rintro r w1 ⟨rfl, hb⟩
    have S2 := Lib.hid (HS.out.below hb)
    go_wp2_with fail
    go_ret
    exact Ends1.bad E.out (by decide) S2.out.bel
  ·have t1 : ((infoAt k.infos an).k == 1) = false := by simp [h1]
   have E := Lib.hid (show frameQ k ⟨2, (en : Int), (an : Int), b1, c1, nm⟩ = (k, 0, 3) by rw [HP.out, HG.out, if_pos h1])
   clear h1
   go_enter Tryz.func176, Tryz.ntmps176
   go_wp2_with fail
   go_ret
   exact Ends1.bad E.out (by decide) HS.out.bel
 ·have HP := Lib.hid (show frameQ k ⟨3, (en : Int), (an : Int), b1, c1, nm⟩ = pokeP k ⟨3, (en : Int), (an : Int), b1, c1, nm⟩ from P)
  have HG := Lib.hid (show pokeP k ⟨3, (en : Int), (an : Int), b1, c1, nm⟩ = if (infoAt k.infos an).k ≠ 1 ∨ inB b1 0 3 = false ∨ wordOk c1 = false then (k, 0, 3) else ({ k with mem := setWd k.mem an b1.toNat c1 }, 0, 0) from rfl)
  clear P CS6
  have C0 := Lib.hid (fun W => same_below (isPlace_any b1 W))
  have C1 := Lib.hid (fun W => same_below (isWord_any c1 W))
  by_cases h1 : (infoAt k.infos an).k = 1
  ·have t1 : ((infoAt k.infos an).k == 1) = true := by simp [h1]
   have H1 := Lib.hid h1
   clear h1
   go_enter Tryz.func176, Tryz.ntmps176
   go_wp2_with fail
   generalize w.alloc _ = W0 at *
   cases h2 : inB b1 0 3
   ·have E := Lib.hid (show frameQ k ⟨3, (en : Int), (an : Int), b1, c1, nm⟩ = (k, 0, 3) by rw [HP.out, HG.out, if_pos (.inr (.inl h2))])
    have T := Lib.hid h2
    clear h2
    refine (C0.out _).mono ?_; rintro r w1 ⟨rfl, hb⟩; rw [T.out]
    have S2 := Lib.hid (HS.out.below hb)
    clear y0 y1 y2 y3 y4 y5 y6 x0 x1 x2 x3 d0 d1 d2
    go_wp2_with fail
    go_ret
    exact Ends1.bad E.out (by decide) S2.out.bel
   ·have T := Lib.hid h2
    have hbb := inB_iff.1 h2
    obtain ⟨bn, rfl⟩ : ∃ n : Nat, b1 = (n : Int) := ⟨b1.toNat, by omega⟩
    have hb4 : bn < 4 := by omega
    clear h2 hbb
    refine (C0.out _).mono ?_; rintro r W1 ⟨rfl, hb⟩; rw [T.out]
    have S1 := Lib.hid (HS.out.below hb)
    clear y0 y1 y2 y3 y4 y5 y6 x0 x1 x2 x3 d0 d1 d2 hb
    obtain ⟨y0, y1, y2, y3, y4, y5, y6⟩ := S1.out.ys
    go_wp2_with fail
    cases h3 : inB c1 0 9999
    ·have E := Lib.hid (show frameQ k ⟨3, (en : Int), (an : Int), (bn : Int), c1, nm⟩ = (k, 0, 3) by rw [HP.out, HG.out, if_pos (.inr (.inr h3))])
     have T3 := Lib.hid h3
     clear h3
     refine (C1.out _).mono ?_; rintro r w1 ⟨rfl, hb⟩; rw [T3.out]
     have S2 := Lib.hid (S1.out.below hb)
     clear y0 y1 y2 y3 y4 y5 y6
     go_wp2_with fail
     go_ret
     exact Ends1.bad E.out (by decide) S2.out.bel
    ·have T3 := Lib.hid h3
     have E := Lib.hid (show frameQ k ⟨3, (en : Int), (an : Int), (bn : Int), c1, nm⟩ = ({ k with mem := setWd k.mem an bn c1 }, 0, 0) by rw [HP.out, HG.out, if_neg (by rintro (x | x | x); (· exact x H1.out); (· rw [T.out] at x; cases x); (· rw [show wordOk c1 = true from h3] at x; cases x)), Int.toNat_natCast])
     clear h3
     refine (C1.out _).mono ?_; rintro r W2 ⟨rfl, hb⟩; rw [T3.out]
     have S2 := Lib.hid (S1.out.below hb)
     clear y0 y1 y2 y3 y4 y5 y6 hb
     obtain ⟨y0, _, _, _, y4, y5, _⟩ := S2.out.ys
     obtain ⟨x0, _, _, _⟩ := S2.out.xs
     obtain ⟨hl2, hgl2, _, _⟩ := S2.out.lts
     obtain ⟨gw, capw, Dw, hgw, hcw, Dj, fzw, ⟨⟨ngw1, ngw2⟩, ngw3, ngw4⟩, _, _, _⟩ := S2.out.mrow (kok_parts HK.out).1 (f := an) han
     have hgm2 := World.block_lt_of_cell? _ _ Dw
     have hb4i : (bn : Int) < 4 := by omega
     clear Dj fzw
     go_wp2_with fail
     refine wp_region_grow 15 Tryz.mixed (by kernel_rfl) 139 rfl (by kernel_rfl) (fun ix vv ww => match ix with
      | 0 => vv = .pointer (some ⟨w.heap.size, 0, none⟩)
      | 1 => vv = .pointer (some ⟨g, 0, none⟩)
      | 2 => vv = .pointer (some ⟨g, 0, none⟩)
      | 3 => vv = .pointer (some ⟨g, 0, none⟩)
      | 4 => vv = .slice (some ⟨gm, 0, none⟩) 12 capm
      | 5 => vv = .int .i64 ((an : Int))
      | 6 => vv = .pointer (some ⟨gm, an, none⟩)
      | 7 => vv = .slice (some ⟨gw, 0, none⟩) 4 capw
      | 8 => vv = .pointer (some ⟨w.heap.size, 1, none⟩)
      | 9 => vv = .pointer (some ⟨w.heap.size, 4, none⟩)
      | 10 => vv = .int .i64 ((bn : Int))
      | 11 => vv = .pointer (some ⟨w.heap.size, 1, none⟩)
      | 12 => vv = .pointer (some ⟨w.heap.size, 5, none⟩)
      | 13 => vv = .int .i64 c1
      | 14 => vv = .pointer (some ⟨gw, bn, none⟩)
      | _ => True) ?_ ?_ ?_
     ·intro i hi vv wz ww' hbz hz
      match i, hi with
      | 0, _ | 1, _ | 2, _ | 3, _ | 4, _ | 5, _ | 6, _ | 7, _ | 8, _ | 9, _ | 10, _ | 11, _ | 12, _ | 13, _ | 14, _ => exact hz
      | _ + 15, hq => exact absurd hq (by omega)
     ·intro i hi o ho a wx Hb Hd hG K HK
      match i, hi with
      | 0, _ => exact dF ho rfl (gn rfl) HK rfl fA150_0 (eb (Hb.out.2.2 1 (by decide))) rfl
      | 1, _ => exact dL ho rfl (gn rfl) HK rfl (et (Hd.out 0 (by kernel_rfl))) (lA148 (bc hG hl2 y0)) rfl
      | 2, _ => exact dC ho rfl (gn rfl) HK rfl (et (Hd.out 1 (by kernel_rfl))) rfl
      | 3, _ => exact dF ho rfl (gn rfl) HK rfl fA33_0 (et (Hd.out 2 (by kernel_rfl))) rfl
      | 4, _ => exact dL ho rfl (gn rfl) HK rfl (et (Hd.out 3 (by kernel_rfl))) (lA28 (bc hG hgl2 x0)) rfl
      | 5, _ => exact dM ho rfl (gn rfl) HK rfl (eb (Hb.out.2.2 3 (by decide))) rfl
      | 6, _ =>
       obtain rfl := Option.some.inj ho
       have d4 : (a.tmps[72]?.getD undef) = .slice (some ⟨gm, 0, none⟩) 12 capm := Hd.out 4 (by kernel_rfl)
       have d5 : (a.tmps[73]?.getD undef) = .int .i64 ((an : Int)) := Hd.out 5 (by kernel_rfl)
       clear Hd Hb
       refine Does.of rfl ?_
       go_simp
       exact HK.out _ _ rfl (Below.refl _ _)
      | 7, _ => exact dL ho rfl (gn rfl) HK rfl (et (Hd.out 6 (by kernel_rfl))) (lA38 (bc hG hgm2 Dw)) rfl
      | 8, _ => exact dF ho rfl (gn rfl) HK rfl fA150_1 (eb (Hb.out.2.2 1 (by decide))) rfl
      | 9, _ => exact dF ho rfl (gn rfl) HK rfl fA60_3 (et (Hd.out 8 (by kernel_rfl))) rfl
      | 10, _ => exact dL ho rfl (gn rfl) HK rfl (et (Hd.out 9 (by kernel_rfl))) (lA3 (bc hG hl2 y4)) rfl
      | 11, _ => exact dF ho rfl (gn rfl) HK rfl fA150_1 (eb (Hb.out.2.2 1 (by decide))) rfl
      | 12, _ => exact dF ho rfl (gn rfl) HK rfl fA60_4 (et (Hd.out 11 (by kernel_rfl))) rfl
      | 13, _ => exact dL ho rfl (gn rfl) HK rfl (et (Hd.out 12 (by kernel_rfl))) (lA3 (bc hG hl2 y5)) rfl
      | 14, _ =>
       obtain rfl := Option.some.inj ho
       have d7 : (a.tmps[75]?.getD undef) = .slice (some ⟨gw, 0, none⟩) 4 capw := Hd.out 7 (by kernel_rfl)
       have d10 : (a.tmps[78]?.getD undef) = .int .i64 ((bn : Int)) := Hd.out 10 (by kernel_rfl)
       clear Hd Hb
       refine Does.of rfl ?_
       go_simp
       exact HK.out _ _ rfl (Below.refl _ _)
      | _ + 15, hq => exact absurd hq (by omega)
     ·intro vs wx hR hG
      have q13 : (vs 13) = .int .i64 c1 := hR 13 (by decide)
      have q14 : (vs 14) = .pointer (some ⟨gw, bn, none⟩) := hR 14 (by decide)
      clear hR
      simp only [fillAt, dstOf, List.range, List.range.loop, List.foldl_cons, List.foldl_nil, q13, q14]
      simp
      clear q13 q14
      have S3 := Lib.hid (S2.out.below hG)
      obtain ⟨gw', capw', Dw', _, _, Dj, fzw, _, _, _, SW⟩ := S3.out.mrow (kok_parts HK.out).1 (f := an) han
      have hsame := (hG.cell (p := ⟨gm, an, none⟩) hgm2).trans Dw
      rw [hsame] at Dw'
      have hgg : gw = gw' := by simp at Dw'; exact Dw'.1
      subst hgg
      have Dv := Dj bn hb4
      have fz := fzw bn
      have S4 := Lib.hid (SW bn c1 hb4)
      clear hG y0 y4 y5 x0 Dw Dw' hsame Dj fzw SW
      go_wp2_with fail
      go_ret
      exact ⟨by rw [E.out] <;> rfl, fun _ => ⟨_, _, _, _, by rw [E.out]; exact S4.out.ink⟩, S4.out.bel⟩
  ·have t1 : ((infoAt k.infos an).k == 1) = false := by simp [h1]
   have E := Lib.hid (show frameQ k ⟨3, (en : Int), (an : Int), b1, c1, nm⟩ = (k, 0, 3) by rw [HP.out, HG.out, if_pos (.inl h1)])
   clear h1
   go_enter Tryz.func176, Tryz.ntmps176
   go_wp2_with fail
   go_ret
   exact Ends1.bad E.out (by decide) HS.out.bel
 ·have hkt := hk4 rfl
  have HP := Lib.hid (show frameQ k ⟨4, (en : Int), (an : Int), b1, c1, nm⟩ = pinnedP k (pinP k.mem k.infos an b1 (envAt k.envs en).rights) from P)
  obtain ⟨xs, cd, hp⟩ : ∃ xs cd, pinP k.mem k.infos an b1 (envAt k.envs en).rights = (xs, cd) := ⟨_, _, rfl⟩
  have HPp := Lib.hid hp
  clear P CS6 hp
  by_cases h1 : (infoAt k.infos an).k = 1
  all_goals
   first
   | have t1 : ((infoAt k.infos an).k == 1) = true := by simp [h1]
   | have t1 : ((infoAt k.infos an).k == 1) = false := by simp [h1]
   clear h1
   go_enter Tryz.func176, Tryz.ntmps176
   go_wp2_with fail
   generalize w.alloc _ = W2 at *
   have hge := HS.out.ge_lt
   obtain ⟨ua, uc, D0, D1, R⟩ := HS.out.env (j := en) (by rw [HK.out.envl]; exact hen)
   have CE := Lib.hid (fun W (hW : Below W2.heap.size W2 W) => HS.out.callEnv (en := en) rfl hen W hW)
   simp only [CallV.on, CallV.onCells] at CE
   have CT0 := fun W (hW : Below W2.heap.size W2 W) => TablePin_any _ _ _ k.mem k.infos an b1 (envAt k.envs en).rights W (RdRows.below HS.out.ink.2.2.rd.1 hW) (kok_parts HK.out).1 (RdF.below HS.out.ink.2.2.2.1.rd hW) (kok_parts HK.out).2.1 han hkt (RdF.below R hW) (small_rights (HK.out.rights en hen)) (HK.out.rights en hen)
   rw [HPp.out] at CT0
   unfold PinRes at CT0
   simp only at CT0
   have CT := Lib.hid CT0
   clear CT0 R D1
   refine wp_region_grow 24 Tryz.mixed (by kernel_rfl) 139 rfl (by kernel_rfl) (fun ix vv ww => match ix with
    | 0 => vv = .pointer (some ⟨w.heap.size, 0, none⟩)
    | 1 => vv = .pointer (some ⟨g, 0, none⟩)
    | 2 => vv = .pointer (some ⟨g, 0, none⟩)
    | 3 => vv = .pointer (some ⟨g, 0, none⟩)
    | 4 => vv = .slice (some ⟨gm, 0, none⟩) 12 capm
    | 5 => vv = .pointer (some ⟨w.heap.size, 0, none⟩)
    | 6 => vv = .pointer (some ⟨g, 0, none⟩)
    | 7 => vv = .pointer (some ⟨g, 0, none⟩)
    | 8 => vv = .pointer (some ⟨g, 1, none⟩)
    | 9 => vv = .slice (some ⟨gi, 0, none⟩) 12 capi
    | 10 => vv = .int .i64 ((an : Int))
    | 11 => vv = .pointer (some ⟨w.heap.size, 1, none⟩)
    | 12 => vv = .pointer (some ⟨w.heap.size, 4, none⟩)
    | 13 => vv = .int .i64 b1
    | 14 => vv = .agg #[.pointer (some ⟨g, 0, none⟩), .int .i64 4, .int .i64 ((en : Int)), .int .i64 ((an : Int)), .int .i64 b1, .int .i64 c1, .string nm]
    | 15 => vv = .pointer (some ⟨ge, en * 2, none⟩)
    | 16 => vv = .pointer (some ⟨ge, en * 2, none⟩)
    | 17 => vv = .pointer (some ⟨ge, en * 2, none⟩)
    | 18 => vv = .slice ua (envAt k.envs en).rights.length uc
    | 19 => ∃ v', vv = .tuple #[v', .int .i64 cd] ∧ OwnF W2.heap.size 89 3 infoCs ww v' xs
    | 20 => ∃ v', vv = .tuple #[v', .int .i64 cd] ∧ OwnF W2.heap.size 89 3 infoCs ww v' xs
    | 21 => OwnF W2.heap.size 89 3 infoCs ww vv xs
    | 22 => vv = .int .i64 cd
    | 23 => OwnF W2.heap.size 89 3 infoCs ww vv xs
    | _ => True) ?_ ?_ ?_
   ·intro i hi vv wz ww' hbz hz
    match i, hi with
    | 0, _ | 1, _ | 2, _ | 3, _ | 4, _ | 5, _ | 6, _ | 7, _ | 8, _ | 9, _ | 10, _ | 11, _ | 12, _ | 13, _ | 14, _ | 15, _ | 16, _ | 17, _ | 18, _ => exact hz
    | 19, _ => exact (by obtain ⟨v', h0, h1⟩ := hz; exact ⟨v', h0, OwnF.below h1 hbz⟩)
    | 20, _ => exact (by obtain ⟨v', h0, h1⟩ := hz; exact ⟨v', h0, OwnF.below h1 hbz⟩)
    | 21, _ => exact (OwnF.below hz hbz)
    | 22, _ => exact hz
    | 23, _ => exact (OwnF.below hz hbz)
    | _ + 24, hq => exact absurd hq (by omega)
   ·intro i hi o ho a wx Hb Hd hG K HK
    match i, hi with
    | 0, _ => exact dF ho rfl (gn rfl) HK rfl fA150_0 (eb (Hb.out.2.2 1 (by decide))) rfl
    | 1, _ => exact dL ho rfl (gn rfl) HK rfl (et (Hd.out 0 (by kernel_rfl))) (lA148 (bc hG hl2 y0)) rfl
    | 2, _ => exact dC ho rfl (gn rfl) HK rfl (et (Hd.out 1 (by kernel_rfl))) rfl
    | 3, _ => exact dF ho rfl (gn rfl) HK rfl fA33_0 (et (Hd.out 2 (by kernel_rfl))) rfl
    | 4, _ => exact dL ho rfl (gn rfl) HK rfl (et (Hd.out 3 (by kernel_rfl))) (lA28 (bc hG hgl2 x0)) rfl
    | 5, _ => exact dF ho rfl (gn rfl) HK rfl fA150_0 (eb (Hb.out.2.2 1 (by decide))) rfl
    | 6, _ => exact dL ho rfl (gn rfl) HK rfl (et (Hd.out 5 (by kernel_rfl))) (lA148 (bc hG hl2 y0)) rfl
    | 7, _ => exact dC ho rfl (gn rfl) HK rfl (et (Hd.out 6 (by kernel_rfl))) rfl
    | 8, _ => exact dF ho rfl (gn rfl) HK rfl fA33_1 (et (Hd.out 7 (by kernel_rfl))) rfl
    | 9, _ => exact dL ho rfl (gn rfl) HK rfl (et (Hd.out 8 (by kernel_rfl))) (lA29 (bc hG hgl2 x1)) rfl
    | 10, _ => exact dM ho rfl (gn rfl) HK rfl (eb (Hb.out.2.2 3 (by decide))) rfl
    | 11, _ => exact dF ho rfl (gn rfl) HK rfl fA150_1 (eb (Hb.out.2.2 1 (by decide))) rfl
    | 12, _ => exact dF ho rfl (gn rfl) HK rfl fA60_3 (et (Hd.out 11 (by kernel_rfl))) rfl
    | 13, _ => exact dL ho rfl (gn rfl) HK rfl (et (Hd.out 12 (by kernel_rfl))) (lA3 (bc hG hl2 y4)) rfl
    | 14, _ => exact dL ho rfl (gn rfl) HK rfl (eb (Hb.out.2.2 1 (by decide))) (lA150 (bc hG hl2 y0) (bc hG hl2 y1) (bc hG hl2 y2) (bc hG hl2 y3) (bc hG hl2 y4) (bc hG hl2 y5) (bc hG hl2 y6)) rfl
    | 15, _ =>
     obtain rfl := Option.some.inj ho
     have d14 : (a.tmps[100]?.getD undef) = .agg #[.pointer (some ⟨g, 0, none⟩), .int .i64 4, .int .i64 ((en : Int)), .int .i64 ((an : Int)), .int .i64 b1, .int .i64 c1, .string nm] := Hd.out 14 (by kernel_rfl)
     clear Hd Hb
     refine Does.of rfl ?_
     go_simp
     refine (CE.out _ hG).mono ?_; rintro e w_ ⟨rfl, hb2⟩
     exact HK.out _ _ rfl hb2
    | 16, _ => exact dC ho rfl (gn rfl) HK rfl (et (Hd.out 15 (by kernel_rfl))) rfl
    | 17, _ => exact dF ho rfl (gn rfl) HK rfl fA80_0 (et (Hd.out 16 (by kernel_rfl))) rfl
    | 18, _ => exact dL ho rfl (gn rfl) HK rfl (et (Hd.out 17 (by kernel_rfl))) (lA36 (bc hG hge D0)) rfl
    | 19, _ =>
     obtain rfl := Option.some.inj ho
     have d4 : (a.tmps[90]?.getD undef) = .slice (some ⟨gm, 0, none⟩) 12 capm := Hd.out 4 (by kernel_rfl)
     have d9 : (a.tmps[95]?.getD undef) = .slice (some ⟨gi, 0, none⟩) 12 capi := Hd.out 9 (by kernel_rfl)
     have d10 : (a.tmps[96]?.getD undef) = .int .i64 ((an : Int)) := Hd.out 10 (by kernel_rfl)
     have d13 : (a.tmps[99]?.getD undef) = .int .i64 b1 := Hd.out 13 (by kernel_rfl)
     have d18 : (a.tmps[104]?.getD undef) = .slice ua (envAt k.envs en).rights.length uc := Hd.out 18 (by kernel_rfl)
     clear Hd Hb
     refine Does.of rfl ?_
     go_simp
     refine (CT.out _ hG).mono ?_; rintro e w_ ⟨v', rfl, hO, hb2⟩
     exact HK.out _ _ ⟨_, rfl, hO.lower hG.size⟩ hb2
    | 20, _ =>
     obtain rfl := Option.some.inj ho
     have d19 : ∃ v', (a.tmps[105]?.getD undef) = .tuple #[v', .int .i64 cd] ∧ OwnF W2.heap.size 89 3 infoCs wx v' xs := Hd.out 19 (by kernel_rfl)
     clear Hd Hb
     obtain ⟨v', d19, hO⟩ := d19
     refine Does.of rfl ?_
     go_simp
     exact HK.out _ _ ⟨_, rfl, hO⟩ (Below.refl _ _)
    | 21, _ =>
     obtain rfl := Option.some.inj ho
     have d20 : ∃ v', (a.tmps[85]?.getD undef) = .tuple #[v', .int .i64 cd] ∧ OwnF W2.heap.size 89 3 infoCs wx v' xs := Hd.out 20 (by kernel_rfl)
     clear Hd Hb
     obtain ⟨v', d20, hO⟩ := d20
     refine Does.of rfl ?_
     go_simp
     exact HK.out _ _ hO (Below.refl _ _)
    | 22, _ =>
     obtain rfl := Option.some.inj ho
     have d20 : ∃ v', (a.tmps[85]?.getD undef) = .tuple #[v', .int .i64 cd] ∧ OwnF W2.heap.size 89 3 infoCs wx v' xs := Hd.out 20 (by kernel_rfl)
     clear Hd Hb
     obtain ⟨v', d20, hO⟩ := d20
     refine Does.of rfl ?_
     go_simp
     exact HK.out _ _ rfl (Below.refl _ _)
    | 23, _ =>
     obtain rfl := Option.some.inj ho
     have d21 : OwnF W2.heap.size 89 3 infoCs wx (a.tmps[106]?.getD undef) xs := Hd.out 21 (by kernel_rfl)
     clear Hd Hb
     refine Does.of rfl ?_
     go_simp
     exact HK.out _ _ d21 (Below.refl _ _)
    | _ + 24, hq => exact absurd hq (by omega)
   ·intro vs wx hR hG
    have q22 : (vs 22) = .int .i64 cd := hR 22 (by decide)
    have q23 : OwnF W2.heap.size 89 3 infoCs wx (vs 23) xs := hR 23 (by decide)
    clear hR
    simp only [fillAt, dstOf, List.range, List.range.loop, List.foldl_cons, List.foldl_nil, q22]
    simp
    generalize vs 23 = z23 at q23 ⊢
    clear q22
    have S3 := Lib.hid (HS.out.newInfos hG q23)
    have fzg := blk_frozen (HS.out.below hG).ink.1
    have x1w := (HS.out.below hG).xs.2.1
    have y0w := (HS.out.below hG).ys.1
    have CC := Lib.hid (fun W => pinCode_any cd W)
    obtain ⟨_, _, rfl, _, _⟩ := q23.rd.shape
    clear q23 hG y0 y1 y2 y3 y4 y5 y6 x0 x1 x2 x3 d0 d1 d2 D0
    go_wp2_with fail
    refine (CC.out _).mono ?_; rintro r w9 ⟨rfl, rfl⟩
    go_wp2_with fail
    go_ret
    by_cases h0 : cd = 0
    ·subst h0
     have E : frameQ k ⟨4, (en : Int), (an : Int), b1, c1, nm⟩ = ({ k with infos := xs }, 0, 0) := by rw [HP.out, HPp.out]; rfl
     exact ⟨by rw [E] <;> rfl, fun _ => ⟨_, _, _, _, by rw [E]; exact S3.out.ink⟩, S3.out.bel⟩
    ·have E : frameQ k ⟨4, (en : Int), (an : Int), b1, c1, nm⟩ = (k, 0, pinCode cd) := by
      rw [HP.out, HPp.out]
      unfold pinnedP
      rw [if_neg h0]
     exact Ends1.bad E (pinCode_ne h0) S3.out.bel
 ·have HP := Lib.hid (show frameQ k ⟨5, (en : Int), (an : Int), b1, c1, nm⟩ = pinnedP k (unpinP k.mem k.infos an) from P)
  obtain ⟨xs, cd, hp⟩ : ∃ xs cd, unpinP k.mem k.infos an = (xs, cd) := ⟨_, _, rfl⟩
  have HPp := Lib.hid hp
  clear P CS6 hp
  by_cases h1 : (infoAt k.infos an).k = 1
  all_goals
   first
   | have t1 : ((infoAt k.infos an).k == 1) = true := by simp [h1]
   | have t1 : ((infoAt k.infos an).k == 1) = false := by simp [h1]
   clear h1
   go_enter Tryz.func176, Tryz.ntmps176
   go_wp2_with fail
   generalize w.alloc _ = W2 at *
   have hge := HS.out.ge_lt
   obtain ⟨ua, uc, D0, D1, R⟩ := HS.out.env (j := en) (by rw [HK.out.envl]; exact hen)
   have CE := Lib.hid (fun W (hW : Below W2.heap.size W2 W) => HS.out.callEnv (en := en) rfl hen W hW)
   simp only [CallV.on, CallV.onCells] at CE
   have CT0 := fun W (hW : Below W2.heap.size W2 W) => TableUnpin_any _ _ k.mem k.infos an W (RdRows.below HS.out.ink.2.2.rd.1 hW) (kok_parts HK.out).1 (RdF.below HS.out.ink.2.2.2.1.rd hW) (kok_parts HK.out).2.1 han
   rw [HPp.out] at CT0
   unfold PinRes at CT0
   simp only at CT0
   have CT := Lib.hid CT0
   clear CT0 R D1
   refine wp_region_grow 16 Tryz.mixed (by kernel_rfl) 139 rfl (by kernel_rfl) (fun ix vv ww => match ix with
    | 0 => vv = .pointer (some ⟨w.heap.size, 0, none⟩)
    | 1 => vv = .pointer (some ⟨g, 0, none⟩)
    | 2 => vv = .pointer (some ⟨g, 0, none⟩)
    | 3 => vv = .pointer (some ⟨g, 0, none⟩)
    | 4 => vv = .slice (some ⟨gm, 0, none⟩) 12 capm
    | 5 => vv = .pointer (some ⟨w.heap.size, 0, none⟩)
    | 6 => vv = .pointer (some ⟨g, 0, none⟩)
    | 7 => vv = .pointer (some ⟨g, 0, none⟩)
    | 8 => vv = .pointer (some ⟨g, 1, none⟩)
    | 9 => vv = .slice (some ⟨gi, 0, none⟩) 12 capi
    | 10 => vv = .int .i64 ((an : Int))
    | 11 => ∃ v', vv = .tuple #[v', .int .i64 cd] ∧ OwnF W2.heap.size 89 3 infoCs ww v' xs
    | 12 => ∃ v', vv = .tuple #[v', .int .i64 cd] ∧ OwnF W2.heap.size 89 3 infoCs ww v' xs
    | 13 => OwnF W2.heap.size 89 3 infoCs ww vv xs
    | 14 => vv = .int .i64 cd
    | 15 => OwnF W2.heap.size 89 3 infoCs ww vv xs
    | _ => True) ?_ ?_ ?_
   ·intro i hi vv wz ww' hbz hz
    match i, hi with
    | 0, _ | 1, _ | 2, _ | 3, _ | 4, _ | 5, _ | 6, _ | 7, _ | 8, _ | 9, _ | 10, _ => exact hz
    | 11, _ => exact (by obtain ⟨v', h0, h1⟩ := hz; exact ⟨v', h0, OwnF.below h1 hbz⟩)
    | 12, _ => exact (by obtain ⟨v', h0, h1⟩ := hz; exact ⟨v', h0, OwnF.below h1 hbz⟩)
    | 13, _ => exact (OwnF.below hz hbz)
    | 14, _ => exact hz
    | 15, _ => exact (OwnF.below hz hbz)
    | _ + 16, hq => exact absurd hq (by omega)
   ·intro i hi o ho a wx Hb Hd hG K HK
    match i, hi with
    | 0, _ => exact dF ho rfl (gn rfl) HK rfl fA150_0 (eb (Hb.out.2.2 1 (by decide))) rfl
    | 1, _ => exact dL ho rfl (gn rfl) HK rfl (et (Hd.out 0 (by kernel_rfl))) (lA148 (bc hG hl2 y0)) rfl
    | 2, _ => exact dC ho rfl (gn rfl) HK rfl (et (Hd.out 1 (by kernel_rfl))) rfl
    | 3, _ => exact dF ho rfl (gn rfl) HK rfl fA33_0 (et (Hd.out 2 (by kernel_rfl))) rfl
    | 4, _ => exact dL ho rfl (gn rfl) HK rfl (et (Hd.out 3 (by kernel_rfl))) (lA28 (bc hG hgl2 x0)) rfl
    | 5, _ => exact dF ho rfl (gn rfl) HK rfl fA150_0 (eb (Hb.out.2.2 1 (by decide))) rfl
    | 6, _ => exact dL ho rfl (gn rfl) HK rfl (et (Hd.out 5 (by kernel_rfl))) (lA148 (bc hG hl2 y0)) rfl
    | 7, _ => exact dC ho rfl (gn rfl) HK rfl (et (Hd.out 6 (by kernel_rfl))) rfl
    | 8, _ => exact dF ho rfl (gn rfl) HK rfl fA33_1 (et (Hd.out 7 (by kernel_rfl))) rfl
    | 9, _ => exact dL ho rfl (gn rfl) HK rfl (et (Hd.out 8 (by kernel_rfl))) (lA29 (bc hG hgl2 x1)) rfl
    | 10, _ => exact dM ho rfl (gn rfl) HK rfl (eb (Hb.out.2.2 3 (by decide))) rfl
    | 11, _ =>
     obtain rfl := Option.some.inj ho
     have d4 : (a.tmps[122]?.getD undef) = .slice (some ⟨gm, 0, none⟩) 12 capm := Hd.out 4 (by kernel_rfl)
     have d9 : (a.tmps[127]?.getD undef) = .slice (some ⟨gi, 0, none⟩) 12 capi := Hd.out 9 (by kernel_rfl)
     have d10 : (a.tmps[128]?.getD undef) = .int .i64 ((an : Int)) := Hd.out 10 (by kernel_rfl)
     clear Hd Hb
     refine Does.of rfl ?_
     go_simp
     refine (CT.out _ hG).mono ?_; rintro e w_ ⟨v', rfl, hO, hb2⟩
     exact HK.out _ _ ⟨_, rfl, hO.lower hG.size⟩ hb2
    | 12, _ =>
     obtain rfl := Option.some.inj ho
     have d11 : ∃ v', (a.tmps[129]?.getD undef) = .tuple #[v', .int .i64 cd] ∧ OwnF W2.heap.size 89 3 infoCs wx v' xs := Hd.out 11 (by kernel_rfl)
     clear Hd Hb
     obtain ⟨v', d11, hO⟩ := d11
     refine Does.of rfl ?_
     go_simp
     exact HK.out _ _ ⟨_, rfl, hO⟩ (Below.refl _ _)
    | 13, _ =>
     obtain rfl := Option.some.inj ho
     have d12 : ∃ v', (a.tmps[117]?.getD undef) = .tuple #[v', .int .i64 cd] ∧ OwnF W2.heap.size 89 3 infoCs wx v' xs := Hd.out 12 (by kernel_rfl)
     clear Hd Hb
     obtain ⟨v', d12, hO⟩ := d12
     refine Does.of rfl ?_
     go_simp
     exact HK.out _ _ hO (Below.refl _ _)
    | 14, _ =>
     obtain rfl := Option.some.inj ho
     have d12 : ∃ v', (a.tmps[117]?.getD undef) = .tuple #[v', .int .i64 cd] ∧ OwnF W2.heap.size 89 3 infoCs wx v' xs := Hd.out 12 (by kernel_rfl)
     clear Hd Hb
     obtain ⟨v', d12, hO⟩ := d12
     refine Does.of rfl ?_
     go_simp
     exact HK.out _ _ rfl (Below.refl _ _)
    | 15, _ =>
     obtain rfl := Option.some.inj ho
     have d13 : OwnF W2.heap.size 89 3 infoCs wx (a.tmps[130]?.getD undef) xs := Hd.out 13 (by kernel_rfl)
     clear Hd Hb
     refine Does.of rfl ?_
     go_simp
     exact HK.out _ _ d13 (Below.refl _ _)
    | _ + 16, hq => exact absurd hq (by omega)
   ·intro vs wx hR hG
    have q14 : (vs 14) = .int .i64 cd := hR 14 (by decide)
    have q15 : OwnF W2.heap.size 89 3 infoCs wx (vs 15) xs := hR 15 (by decide)
    clear hR
    simp only [fillAt, dstOf, List.range, List.range.loop, List.foldl_cons, List.foldl_nil, q14]
    simp
    generalize vs 15 = z15 at q15 ⊢
    clear q14
    have S3 := Lib.hid (HS.out.newInfos hG q15)
    have fzg := blk_frozen (HS.out.below hG).ink.1
    have x1w := (HS.out.below hG).xs.2.1
    have y0w := (HS.out.below hG).ys.1
    have CC := Lib.hid (fun W => pinCode_any cd W)
    obtain ⟨_, _, rfl, _, _⟩ := q15.rd.shape
    clear q15 hG y0 y1 y2 y3 y4 y5 y6 x0 x1 x2 x3 d0 d1 d2 D0
    go_wp2_with fail
    refine (CC.out _).mono ?_; rintro r w9 ⟨rfl, rfl⟩
    go_wp2_with fail
    go_ret
    by_cases h0 : cd = 0
    ·subst h0
     have E : frameQ k ⟨5, (en : Int), (an : Int), b1, c1, nm⟩ = ({ k with infos := xs }, 0, 0) := by rw [HP.out, HPp.out]; rfl
     exact ⟨by rw [E] <;> rfl, fun _ => ⟨_, _, _, _, by rw [E]; exact S3.out.ink⟩, S3.out.bel⟩
    ·have E : frameQ k ⟨5, (en : Int), (an : Int), b1, c1, nm⟩ = (k, 0, pinCode cd) := by
      rw [HP.out, HPp.out]
      unfold pinnedP
      rw [if_neg h0]
     exact Ends1.bad E (pinCode_ne h0) S3.out.bel
 ·have HP := Lib.hid (show frameQ k ⟨6, (en : Int), (an : Int), b1, c1, nm⟩ = setP k ⟨6, (en : Int), (an : Int), b1, c1, nm⟩ from P)
  have HC6 := Lib.hid CS6
  clear P CS6 d1 d2
  by_cases h1 : (infoAt k.infos an).k = 1
  all_goals
   first
   | have t1 : ((infoAt k.infos an).k == 1) = true := by simp [h1]
   | have t1 : ((infoAt k.infos an).k == 1) = false := by simp [h1]
   clear h1
   go_enter Tryz.func176, Tryz.ntmps176
   go_wp2_with fail
   generalize w.alloc _ = W0 at *
   refine (HC6.out W0 (Below.refl _ _)).mono ?_; rintro r w1 ⟨rfl, hK6, hb⟩
   go_wp2_with fail
   go_ret
   exact ⟨by rw [HP.out] <;> rfl, fun h => by rw [HP.out] at h ⊢; exact hK6 h, (HS.out.bel).trans hb⟩
theorem rootP_val {k : KernV} {c : CallV} : (rootP k c).2.1 = 0 := by
 unfold rootP
 split
 ·rfl
 ·split <;> rfl
theorem grantP_val {k : KernV} {c : CallV} : (grantP k c).2.1 = 0 := by
 unfold grantP
 split
 ·rfl
 ·split
  ·rfl
  ·split <;> rfl
theorem revokeP_val {k : KernV} {c : CallV} : (revokeP k c).2.1 = 0 := by
 unfold revokeP
 split
 ·rfl
 ·split
  ·rfl
  ·split <;> rfl
theorem setP_val {k : KernV} {c : CallV} : (setP k c).2.1 = 0 := by
 unfold setP
 split
 ·rfl
 ·split
  ·rfl
  ·split <;> rfl
theorem pinnedP_val {k : KernV} {r : List InfoV × Int} : (pinnedP k r).2.1 = 0 := by
 unfold pinnedP
 split <;> rfl
theorem frameQ_val {k : KernV} {c : CallV} : (frameQ k c).2.1 = 0 := by
 unfold frameQ
 split
 ·unfold giveP
  split
  ·rfl
  ·split <;> rfl
 ·split
  ·unfold pokeP
   split <;> rfl
  ·split
   ·exact pinnedP_val
   ·split
    ·exact pinnedP_val
    ·exact setP_val
theorem Ends1.two {lo g : Nat} {w W : World} {res : Res} {r : Ending} {w' : World} (h : Ends1 lo g W res r w') (hv : res.2.1 = 0) (hb : Below lo w W) : ∃ n, r = .returned (.int .i64 n) ∧ Ends2 lo g w res (.returned (.tuple #[.int .i64 0, .int .i64 n])) w' := by
 obtain ⟨h1, h2, h3⟩ := h
 exact ⟨_, h1, by rw [hv], h2, hb.trans h3⟩
theorem Ends2.of {lo g : Nat} {w W : World} {res : Res} {r : Ending} {w' : World} (h : Ends2 lo g W res r w') (hb : Below lo w W) : ∃ v n, r = .returned (.tuple #[.int .i64 v, .int .i64 n]) ∧ Ends2 lo g w res (.returned (.tuple #[.int .i64 v, .int .i64 n])) w' := by
 obtain ⟨h1, h2, h3⟩ := h
 exact ⟨_, _, h1, rfl, h2, hb.trans h3⟩
theorem frameP_eq {k : KernV} {c : CallV} : frameP k c = if inB c.a 0 11 = false ∨ (infoAt k.infos c.a.toNat).k = 0 ∨ (c.k = 4 ∧ tabK c.b = false) then (k, 0, 3) else if mayE k c.e (infoAt k.infos c.a.toNat).g = false then (k, 0, 1) else frameQ k c := rfl
set_option maxRecDepth 100000 in
set_option maxHeartbeats 8000000 in
theorem doC_any {lo g : Nat} {w : World} {m i e c : Value} {k : KernV} (h : InK lo w g m i e c k) (hlo : lo ≤ w.heap.size) (hK : KOk k) (call : CallV) (he : 0 ≤ call.e) (hn : call.e < 3) (hnm : call.nm.size ≤ maxLen) (hcc : call.c ≤ 9223372036854775807) :
 Calls Tryz.prog 109 #[call.on g] w (Ends2 lo g w (callP k call)) := by
 have S0 := CS.start h hlo call
 obtain ⟨k1, e1, a1, b1, c1, nm⟩ := call
 obtain ⟨en, rfl⟩ : ∃ n : Nat, e1 = (n : Int) := ⟨e1.toNat, by simp only at he; omega⟩
 have hen : en < 3 := by simp only at hn; omega
 simp only [CallV.on, CallV.onCells] at S0 hnm hcc ⊢
 obtain ⟨ge, cap, e9, _, ⟨⟨nge1, nge2⟩, nge3, nge4⟩, _⟩ := S0.envs (by rw [hK.envl]; omega)
 rw [hK.envl] at e9
 obtain ⟨gi, capi, e8, _, _, ⟨⟨ngi1, ngi2⟩, ngi3, ngi4⟩, _⟩ := S0.infos (by rw [hK.len]; omega)
 rw [hK.len] at e8
 obtain ⟨gm, capm, e7, _, ⟨ngm1, ngm2⟩, ngm3, ngm4⟩ := S0.mems (kok_parts hK).1
 subst e7 e8 e9
 obtain ⟨y0, y1, y2, y3, y4, y5, y6⟩ := S0.ys
 obtain ⟨x0, x1, x2, x3⟩ := S0.xs
 have HK := Lib.hid hK
 have HS := Lib.hid S0
 clear hK h S0 hlo he hn
 by_cases k1e : k1 = 1
 ·subst k1e
  have HP := Lib.hid (show callP k ⟨1, (en : Int), a1, b1, c1, nm⟩ = takeP k ⟨1, (en : Int), a1, b1, c1, nm⟩ from rfl)
  go_enter Tryz.func109, Tryz.ntmps109
  go_wp2_with fail
  generalize w.alloc _ = W0 at *
  have C := takeC_any HS.out.ink HS.out.lo HK.out ⟨1, (en : Int), a1, b1, c1, nm⟩ (by simp) (by simp only; omega) hnm
  simp only [CallV.on, CallV.onCells] at C
  refine C.mono ?_; rintro r w1 hr
  obtain ⟨v, n, rfl, hE⟩ := Ends2.of hr HS.out.bel
  have HE := Lib.hid hE
  clear hr hE C y0 y1 y2 y3 y4 y5 y6 x0 x1 x2 x3
  go_wp2_with fail
  go_ret2
  rw [HP.out]; exact HE.out
 by_cases k2e : k1 = 2
 ·subst k2e
  have HP := Lib.hid (show callP k ⟨2, (en : Int), a1, b1, c1, nm⟩ = frameP k ⟨2, (en : Int), a1, b1, c1, nm⟩ from rfl)
  cases hfr : inB a1 0 11
  ·have E := Lib.hid (show callP k ⟨2, (en : Int), a1, b1, c1, nm⟩ = (k, 0, 3) by rw [HP.out, frameP_eq, if_pos (.inl hfr)])
   go_enter Tryz.func109, Tryz.ntmps109
   go_wp2_with fail
   generalize w.alloc _ = W0 at *
   have cF := RegS (w1 := W0) (fun W => isFrame_any a1 W)
   have cT := RegS (w1 := W0) (fun W => isTable_any b1 W)
   rw [hfr] at cF
   replace y1 := cell_regrown y1
   replace y3 := cell_regrown y3
   clear y0 y2 y4 y5 y6 x0 x1 x2 x3 hfr
   refine wp_region_quiet_below Tryz.mixed (by kernel_rfl) ?_
   repeat (go_big_quiet_step (first | exact cF _ _ | exact cT _ _))
   refine wpQuiet_nil ?_
   intro _ hw'
   obtain ⟨⟨dq, osq⟩, hw''⟩ := hw'
   subst hw''
   have bq := below_regrown W0 dq osq
   generalize Sort.grow (redrawn W0 dq) osq = wq at bq
   clear y1 y3
   go_wp2_with fail
   go_ret2
   exact Ends2.bad E.out (by decide) (HS.out.below bq).bel
  have T := Lib.hid hfr
  obtain ⟨an, rfl⟩ : ∃ n : Nat, a1 = (n : Int) := ⟨a1.toNat, by have := (inB_iff.1 hfr).1; omega⟩
  have han : an < 12 := by have := (inB_iff.1 hfr).2; omega
  have hai : (an : Int) < 12 := by omega
  clear hfr
  go_enter Tryz.func109, Tryz.ntmps109
  go_wp2_with fail
  generalize w.alloc _ = W0 at *
  obtain ⟨d0, d1, _⟩ := HS.out.infoAt (f := an) (by rw [HK.out.len]; exact han)
  have cF := RegS (w1 := W0) (fun W => isFrame_any (an : Int) W)
  have cT := RegS (w1 := W0) (fun W => isTable_any b1 W)
  rw [T.out] at cF
  replace y0 := cell_regrown y0
  replace y1 := cell_regrown y1
  replace y2 := cell_regrown y2
  replace y3 := cell_regrown y3
  replace y4 := cell_regrown y4
  replace y5 := cell_regrown y5
  replace y6 := cell_regrown y6
  replace x1 := cell_regrown x1
  replace d0 := cell_regrown d0
  replace d1 := cell_regrown d1
  clear x0 x2 x3
  by_cases h0 : (infoAt k.infos an).k = 0
  ·have E := Lib.hid (show callP k ⟨2, (en : Int), (an : Int), b1, c1, nm⟩ = (k, 0, 3) by rw [HP.out, frameP_eq, if_pos (.inr (.inl h0))])
   have t0 : ((infoAt k.infos an).k == 0) = true := by simp [h0]
   clear h0
   refine wp_region_quiet_below Tryz.mixed (by kernel_rfl) ?_
   repeat (go_big_quiet_step (first | exact cF _ _ | exact cT _ _))
   refine wpQuiet_nil ?_
   intro _ hw'
   obtain ⟨⟨dq, osq⟩, hw''⟩ := hw'
   subst hw''
   have bq := below_regrown W0 dq osq
   generalize Sort.grow (redrawn W0 dq) osq = wq at bq
   clear y0 y1 y2 y3 y4 y5 y6 x1 d0 d1 t0
   go_wp2_with fail
   go_ret2
   exact Ends2.bad E.out (by decide) (HS.out.below bq).bel
  have H0 := Lib.hid h0
  have t0 : ((infoAt k.infos an).k == 0) = false := by simp [h0]
  clear h0
  have HP2 := Lib.hid (show callP k ⟨2, (en : Int), (an : Int), b1, c1, nm⟩ = if mayE k (en : Int) (infoAt k.infos an).g = false then (k, 0, 1) else frameQ k ⟨2, (en : Int), (an : Int), b1, c1, nm⟩ by rw [HP.out, frameP_eq, if_neg (by rintro (x | x | ⟨x, _⟩); (· rw [T.out] at x; cases x); (· exact H0.out x); (· simp at x))] <;> rfl)
  refine wp_region_quiet_below Tryz.mixed (by kernel_rfl) ?_
  repeat (go_big_quiet_step (first | exact cF _ _ | exact cT _ _))
  refine wpQuiet_nil ?_
  intro _ hw'
  obtain ⟨⟨dq, osq⟩, hw''⟩ := hw'
  subst hw''
  have bq := below_regrown W0 dq osq
  generalize Sort.grow (redrawn W0 dq) osq = wq at bq
  have S1 := Lib.hid (HS.out.below bq)
  obtain ⟨W1, rfl⟩ : ∃ W1 : World, W1 = wq := ⟨_, rfl⟩
  clear y0 y1 y2 y3 y4 y5 y6 x1 d0 d1 t0 cF cT bq
  obtain ⟨y0, y1, y2, y3, y4, y5, y6⟩ := S1.out.ys
  have x1 := S1.out.xs.2.1
  obtain ⟨_, d1, _⟩ := S1.out.infoAt (f := an) (by rw [HK.out.len]; exact han)
  have CM := RegB (w1 := W1) (fun W hW => may_c (S1.out.below hW).ink ⟨2, (en : Int), (an : Int), b1, c1, nm⟩ (infoAt k.infos an).g (by simp) (by rw [HK.out.envl]; simp only; omega))
  simp only [CallV.on, CallV.onCells] at CM
  replace y0 := cell_regrown y0
  replace y1 := cell_regrown y1
  replace y2 := cell_regrown y2
  replace y3 := cell_regrown y3
  replace y4 := cell_regrown y4
  replace y5 := cell_regrown y5
  replace y6 := cell_regrown y6
  replace x1 := cell_regrown x1
  replace d1 := cell_regrown d1
  cases hm : mayE k (en : Int) (infoAt k.infos an).g
  ·have E := Lib.hid (show callP k ⟨2, (en : Int), (an : Int), b1, c1, nm⟩ = (k, 0, 1) by rw [HP2.out, if_pos hm])
   rw [hm] at CM
   clear hm
   go_wp2_with fail
   refine wp_region_quiet_below Tryz.mixed (by kernel_rfl) ?_
   repeat (go_big_quiet_step (exact CM _ _))
   refine wpQuiet_nil ?_
   intro _ hw'
   obtain ⟨⟨dq, osq⟩, hw''⟩ := hw'
   subst hw''
   have bq := below_regrown W1 dq osq
   generalize Sort.grow (redrawn W1 dq) osq = wq at bq
   clear y0 y1 y2 y3 y4 y5 y6 x1 d1
   go_wp2_with fail
   go_ret2
   exact Ends2.bad E.out (by decide) (S1.out.below bq).bel
  have HP3 := Lib.hid (show callP k ⟨2, (en : Int), (an : Int), b1, c1, nm⟩ = frameQ k ⟨2, (en : Int), (an : Int), b1, c1, nm⟩ by rw [HP2.out, if_neg (by rw [hm]; decide)])
  rw [hm] at CM
  clear hm
  go_wp2_with fail
  refine wp_region_quiet_below Tryz.mixed (by kernel_rfl) ?_
  repeat (go_big_quiet_step (exact CM _ _))
  refine wpQuiet_nil ?_
  intro _ hw'
  obtain ⟨⟨dq, osq⟩, hw''⟩ := hw'
  subst hw''
  have bq := below_regrown W1 dq osq
  generalize Sort.grow (redrawn W1 dq) osq = wq at bq
  have S2 := Lib.hid (S1.out.below bq)
  obtain ⟨W2, rfl⟩ : ∃ W2 : World, W2 = wq := ⟨_, rfl⟩
  clear y0 y1 y2 y3 y4 y5 y6 x1 d1 bq CM
  obtain ⟨y0, y1, y2, y3, y4, y5, y6⟩ := S2.out.ys
  go_wp2_with fail
  have C := frameC_any S2.out.ink S2.out.lo HK.out ⟨2, (en : Int), (an : Int), b1, c1, nm⟩ (by simp) (by simp only; omega) (by simp) (by simp only; omega) (by intro x; simp at x) hcc
  simp only [CallV.on, CallV.onCells] at C
  refine C.mono ?_; rintro r w1 hr
  obtain ⟨n, rfl, hE⟩ := Ends1.two hr frameQ_val S2.out.bel
  have HE := Lib.hid hE
  clear hr hE C y0 y1 y2 y3 y4 y5 y6
  go_wp2_with fail
  go_ret2
  rw [HP3.out]; exact HE.out
 by_cases k3e : k1 = 3
 ·subst k3e
  have HP := Lib.hid (show callP k ⟨3, (en : Int), a1, b1, c1, nm⟩ = frameP k ⟨3, (en : Int), a1, b1, c1, nm⟩ from rfl)
  cases hfr : inB a1 0 11
  ·have E := Lib.hid (show callP k ⟨3, (en : Int), a1, b1, c1, nm⟩ = (k, 0, 3) by rw [HP.out, frameP_eq, if_pos (.inl hfr)])
   go_enter Tryz.func109, Tryz.ntmps109
   go_wp2_with fail
   generalize w.alloc _ = W0 at *
   have cF := RegS (w1 := W0) (fun W => isFrame_any a1 W)
   have cT := RegS (w1 := W0) (fun W => isTable_any b1 W)
   rw [hfr] at cF
   replace y1 := cell_regrown y1
   replace y3 := cell_regrown y3
   clear y0 y2 y4 y5 y6 x0 x1 x2 x3 hfr
   refine wp_region_quiet_below Tryz.mixed (by kernel_rfl) ?_
   repeat (go_big_quiet_step (first | exact cF _ _ | exact cT _ _))
   refine wpQuiet_nil ?_
   intro _ hw'
   obtain ⟨⟨dq, osq⟩, hw''⟩ := hw'
   subst hw''
   have bq := below_regrown W0 dq osq
   generalize Sort.grow (redrawn W0 dq) osq = wq at bq
   clear y1 y3
   go_wp2_with fail
   go_ret2
   exact Ends2.bad E.out (by decide) (HS.out.below bq).bel
  have T := Lib.hid hfr
  obtain ⟨an, rfl⟩ : ∃ n : Nat, a1 = (n : Int) := ⟨a1.toNat, by have := (inB_iff.1 hfr).1; omega⟩
  have han : an < 12 := by have := (inB_iff.1 hfr).2; omega
  have hai : (an : Int) < 12 := by omega
  clear hfr
  go_enter Tryz.func109, Tryz.ntmps109
  go_wp2_with fail
  generalize w.alloc _ = W0 at *
  obtain ⟨d0, d1, _⟩ := HS.out.infoAt (f := an) (by rw [HK.out.len]; exact han)
  have cF := RegS (w1 := W0) (fun W => isFrame_any (an : Int) W)
  have cT := RegS (w1 := W0) (fun W => isTable_any b1 W)
  rw [T.out] at cF
  replace y0 := cell_regrown y0
  replace y1 := cell_regrown y1
  replace y2 := cell_regrown y2
  replace y3 := cell_regrown y3
  replace y4 := cell_regrown y4
  replace y5 := cell_regrown y5
  replace y6 := cell_regrown y6
  replace x1 := cell_regrown x1
  replace d0 := cell_regrown d0
  replace d1 := cell_regrown d1
  clear x0 x2 x3
  by_cases h0 : (infoAt k.infos an).k = 0
  ·have E := Lib.hid (show callP k ⟨3, (en : Int), (an : Int), b1, c1, nm⟩ = (k, 0, 3) by rw [HP.out, frameP_eq, if_pos (.inr (.inl h0))])
   have t0 : ((infoAt k.infos an).k == 0) = true := by simp [h0]
   clear h0
   refine wp_region_quiet_below Tryz.mixed (by kernel_rfl) ?_
   repeat (go_big_quiet_step (first | exact cF _ _ | exact cT _ _))
   refine wpQuiet_nil ?_
   intro _ hw'
   obtain ⟨⟨dq, osq⟩, hw''⟩ := hw'
   subst hw''
   have bq := below_regrown W0 dq osq
   generalize Sort.grow (redrawn W0 dq) osq = wq at bq
   clear y0 y1 y2 y3 y4 y5 y6 x1 d0 d1 t0
   go_wp2_with fail
   go_ret2
   exact Ends2.bad E.out (by decide) (HS.out.below bq).bel
  have H0 := Lib.hid h0
  have t0 : ((infoAt k.infos an).k == 0) = false := by simp [h0]
  clear h0
  have HP2 := Lib.hid (show callP k ⟨3, (en : Int), (an : Int), b1, c1, nm⟩ = if mayE k (en : Int) (infoAt k.infos an).g = false then (k, 0, 1) else frameQ k ⟨3, (en : Int), (an : Int), b1, c1, nm⟩ by rw [HP.out, frameP_eq, if_neg (by rintro (x | x | ⟨x, _⟩); (· rw [T.out] at x; cases x); (· exact H0.out x); (· simp at x))] <;> rfl)
  refine wp_region_quiet_below Tryz.mixed (by kernel_rfl) ?_
  repeat (go_big_quiet_step (first | exact cF _ _ | exact cT _ _))
  refine wpQuiet_nil ?_
  intro _ hw'
  obtain ⟨⟨dq, osq⟩, hw''⟩ := hw'
  subst hw''
  have bq := below_regrown W0 dq osq
  generalize Sort.grow (redrawn W0 dq) osq = wq at bq
  have S1 := Lib.hid (HS.out.below bq)
  obtain ⟨W1, rfl⟩ : ∃ W1 : World, W1 = wq := ⟨_, rfl⟩
  clear y0 y1 y2 y3 y4 y5 y6 x1 d0 d1 t0 cF cT bq
  obtain ⟨y0, y1, y2, y3, y4, y5, y6⟩ := S1.out.ys
  have x1 := S1.out.xs.2.1
  obtain ⟨_, d1, _⟩ := S1.out.infoAt (f := an) (by rw [HK.out.len]; exact han)
  have CM := RegB (w1 := W1) (fun W hW => may_c (S1.out.below hW).ink ⟨3, (en : Int), (an : Int), b1, c1, nm⟩ (infoAt k.infos an).g (by simp) (by rw [HK.out.envl]; simp only; omega))
  simp only [CallV.on, CallV.onCells] at CM
  replace y0 := cell_regrown y0
  replace y1 := cell_regrown y1
  replace y2 := cell_regrown y2
  replace y3 := cell_regrown y3
  replace y4 := cell_regrown y4
  replace y5 := cell_regrown y5
  replace y6 := cell_regrown y6
  replace x1 := cell_regrown x1
  replace d1 := cell_regrown d1
  cases hm : mayE k (en : Int) (infoAt k.infos an).g
  ·have E := Lib.hid (show callP k ⟨3, (en : Int), (an : Int), b1, c1, nm⟩ = (k, 0, 1) by rw [HP2.out, if_pos hm])
   rw [hm] at CM
   clear hm
   go_wp2_with fail
   refine wp_region_quiet_below Tryz.mixed (by kernel_rfl) ?_
   repeat (go_big_quiet_step (exact CM _ _))
   refine wpQuiet_nil ?_
   intro _ hw'
   obtain ⟨⟨dq, osq⟩, hw''⟩ := hw'
   subst hw''
   have bq := below_regrown W1 dq osq
   generalize Sort.grow (redrawn W1 dq) osq = wq at bq
   clear y0 y1 y2 y3 y4 y5 y6 x1 d1
   go_wp2_with fail
   go_ret2
   exact Ends2.bad E.out (by decide) (S1.out.below bq).bel
  have HP3 := Lib.hid (show callP k ⟨3, (en : Int), (an : Int), b1, c1, nm⟩ = frameQ k ⟨3, (en : Int), (an : Int), b1, c1, nm⟩ by rw [HP2.out, if_neg (by rw [hm]; decide)])
  rw [hm] at CM
  clear hm
  go_wp2_with fail
  refine wp_region_quiet_below Tryz.mixed (by kernel_rfl) ?_
  repeat (go_big_quiet_step (exact CM _ _))
  refine wpQuiet_nil ?_
  intro _ hw'
  obtain ⟨⟨dq, osq⟩, hw''⟩ := hw'
  subst hw''
  have bq := below_regrown W1 dq osq
  generalize Sort.grow (redrawn W1 dq) osq = wq at bq
  have S2 := Lib.hid (S1.out.below bq)
  obtain ⟨W2, rfl⟩ : ∃ W2 : World, W2 = wq := ⟨_, rfl⟩
  clear y0 y1 y2 y3 y4 y5 y6 x1 d1 bq CM
  obtain ⟨y0, y1, y2, y3, y4, y5, y6⟩ := S2.out.ys
  go_wp2_with fail
  have C := frameC_any S2.out.ink S2.out.lo HK.out ⟨3, (en : Int), (an : Int), b1, c1, nm⟩ (by simp) (by simp only; omega) (by simp) (by simp only; omega) (by intro x; simp at x) hcc
  simp only [CallV.on, CallV.onCells] at C
  refine C.mono ?_; rintro r w1 hr
  obtain ⟨n, rfl, hE⟩ := Ends1.two hr frameQ_val S2.out.bel
  have HE := Lib.hid hE
  clear hr hE C y0 y1 y2 y3 y4 y5 y6
  go_wp2_with fail
  go_ret2
  rw [HP3.out]; exact HE.out
 by_cases k4e : k1 = 4
 ·subst k4e
  have HP := Lib.hid (show callP k ⟨4, (en : Int), a1, b1, c1, nm⟩ = frameP k ⟨4, (en : Int), a1, b1, c1, nm⟩ from rfl)
  cases hfr : inB a1 0 11
  ·have E := Lib.hid (show callP k ⟨4, (en : Int), a1, b1, c1, nm⟩ = (k, 0, 3) by rw [HP.out, frameP_eq, if_pos (.inl hfr)])
   go_enter Tryz.func109, Tryz.ntmps109
   go_wp2_with fail
   generalize w.alloc _ = W0 at *
   have cF := RegS (w1 := W0) (fun W => isFrame_any a1 W)
   have cT := RegS (w1 := W0) (fun W => isTable_any b1 W)
   rw [hfr] at cF
   replace y1 := cell_regrown y1
   replace y3 := cell_regrown y3
   clear y0 y2 y4 y5 y6 x0 x1 x2 x3 hfr
   refine wp_region_quiet_below Tryz.mixed (by kernel_rfl) ?_
   repeat (go_big_quiet_step (first | exact cF _ _ | exact cT _ _))
   refine wpQuiet_nil ?_
   intro _ hw'
   obtain ⟨⟨dq, osq⟩, hw''⟩ := hw'
   subst hw''
   have bq := below_regrown W0 dq osq
   generalize Sort.grow (redrawn W0 dq) osq = wq at bq
   clear y1 y3
   go_wp2_with fail
   go_ret2
   exact Ends2.bad E.out (by decide) (HS.out.below bq).bel
  have T := Lib.hid hfr
  obtain ⟨an, rfl⟩ : ∃ n : Nat, a1 = (n : Int) := ⟨a1.toNat, by have := (inB_iff.1 hfr).1; omega⟩
  have han : an < 12 := by have := (inB_iff.1 hfr).2; omega
  have hai : (an : Int) < 12 := by omega
  clear hfr
  go_enter Tryz.func109, Tryz.ntmps109
  go_wp2_with fail
  generalize w.alloc _ = W0 at *
  obtain ⟨d0, d1, _⟩ := HS.out.infoAt (f := an) (by rw [HK.out.len]; exact han)
  have cF := RegS (w1 := W0) (fun W => isFrame_any (an : Int) W)
  have cT := RegS (w1 := W0) (fun W => isTable_any b1 W)
  rw [T.out] at cF
  replace y0 := cell_regrown y0
  replace y1 := cell_regrown y1
  replace y2 := cell_regrown y2
  replace y3 := cell_regrown y3
  replace y4 := cell_regrown y4
  replace y5 := cell_regrown y5
  replace y6 := cell_regrown y6
  replace x1 := cell_regrown x1
  replace d0 := cell_regrown d0
  replace d1 := cell_regrown d1
  clear x0 x2 x3
  by_cases h0 : (infoAt k.infos an).k = 0
  ·have E := Lib.hid (show callP k ⟨4, (en : Int), (an : Int), b1, c1, nm⟩ = (k, 0, 3) by rw [HP.out, frameP_eq, if_pos (.inr (.inl h0))])
   have t0 : ((infoAt k.infos an).k == 0) = true := by simp [h0]
   clear h0
   refine wp_region_quiet_below Tryz.mixed (by kernel_rfl) ?_
   repeat (go_big_quiet_step (first | exact cF _ _ | exact cT _ _))
   refine wpQuiet_nil ?_
   intro _ hw'
   obtain ⟨⟨dq, osq⟩, hw''⟩ := hw'
   subst hw''
   have bq := below_regrown W0 dq osq
   generalize Sort.grow (redrawn W0 dq) osq = wq at bq
   clear y0 y1 y2 y3 y4 y5 y6 x1 d0 d1 t0
   go_wp2_with fail
   go_ret2
   exact Ends2.bad E.out (by decide) (HS.out.below bq).bel
  have H0 := Lib.hid h0
  have t0 : ((infoAt k.infos an).k == 0) = false := by simp [h0]
  clear h0
  cases ht : tabK b1
  ·have E := Lib.hid (show callP k ⟨4, (en : Int), (an : Int), b1, c1, nm⟩ = (k, 0, 3) by rw [HP.out, frameP_eq, if_pos (.inr (.inr ⟨rfl, ht⟩))])
   rw [ht] at cT
   refine wp_region_quiet_below Tryz.mixed (by kernel_rfl) ?_
   repeat (go_big_quiet_step (first | exact cF _ _ | exact cT _ _))
   refine wpQuiet_nil ?_
   intro _ hw'
   obtain ⟨⟨dq, osq⟩, hw''⟩ := hw'
   subst hw''
   have bq := below_regrown W0 dq osq
   generalize Sort.grow (redrawn W0 dq) osq = wq at bq
   clear y0 y1 y2 y3 y4 y5 y6 x1 d0 d1
   go_wp2_with fail
   go_ret2
   exact Ends2.bad E.out (by decide) (HS.out.below bq).bel
  rw [ht] at cT
  have HP2 := Lib.hid (show callP k ⟨4, (en : Int), (an : Int), b1, c1, nm⟩ = if mayE k (en : Int) (infoAt k.infos an).g = false then (k, 0, 1) else frameQ k ⟨4, (en : Int), (an : Int), b1, c1, nm⟩ by rw [HP.out, frameP_eq, if_neg (by rintro (x | x | ⟨_, x⟩); (· rw [T.out] at x; cases x); (· exact H0.out x); (· rw [ht] at x; cases x))] <;> rfl)
  refine wp_region_quiet_below Tryz.mixed (by kernel_rfl) ?_
  repeat (go_big_quiet_step (first | exact cF _ _ | exact cT _ _))
  refine wpQuiet_nil ?_
  intro _ hw'
  obtain ⟨⟨dq, osq⟩, hw''⟩ := hw'
  subst hw''
  have bq := below_regrown W0 dq osq
  generalize Sort.grow (redrawn W0 dq) osq = wq at bq
  have S1 := Lib.hid (HS.out.below bq)
  obtain ⟨W1, rfl⟩ : ∃ W1 : World, W1 = wq := ⟨_, rfl⟩
  clear y0 y1 y2 y3 y4 y5 y6 x1 d0 d1 t0 cF cT bq
  obtain ⟨y0, y1, y2, y3, y4, y5, y6⟩ := S1.out.ys
  have x1 := S1.out.xs.2.1
  obtain ⟨_, d1, _⟩ := S1.out.infoAt (f := an) (by rw [HK.out.len]; exact han)
  have CM := RegB (w1 := W1) (fun W hW => may_c (S1.out.below hW).ink ⟨4, (en : Int), (an : Int), b1, c1, nm⟩ (infoAt k.infos an).g (by simp) (by rw [HK.out.envl]; simp only; omega))
  simp only [CallV.on, CallV.onCells] at CM
  replace y0 := cell_regrown y0
  replace y1 := cell_regrown y1
  replace y2 := cell_regrown y2
  replace y3 := cell_regrown y3
  replace y4 := cell_regrown y4
  replace y5 := cell_regrown y5
  replace y6 := cell_regrown y6
  replace x1 := cell_regrown x1
  replace d1 := cell_regrown d1
  cases hm : mayE k (en : Int) (infoAt k.infos an).g
  ·have E := Lib.hid (show callP k ⟨4, (en : Int), (an : Int), b1, c1, nm⟩ = (k, 0, 1) by rw [HP2.out, if_pos hm])
   rw [hm] at CM
   clear hm
   go_wp2_with fail
   refine wp_region_quiet_below Tryz.mixed (by kernel_rfl) ?_
   repeat (go_big_quiet_step (exact CM _ _))
   refine wpQuiet_nil ?_
   intro _ hw'
   obtain ⟨⟨dq, osq⟩, hw''⟩ := hw'
   subst hw''
   have bq := below_regrown W1 dq osq
   generalize Sort.grow (redrawn W1 dq) osq = wq at bq
   clear y0 y1 y2 y3 y4 y5 y6 x1 d1
   go_wp2_with fail
   go_ret2
   exact Ends2.bad E.out (by decide) (S1.out.below bq).bel
  have HP3 := Lib.hid (show callP k ⟨4, (en : Int), (an : Int), b1, c1, nm⟩ = frameQ k ⟨4, (en : Int), (an : Int), b1, c1, nm⟩ by rw [HP2.out, if_neg (by rw [hm]; decide)])
  rw [hm] at CM
  clear hm
  go_wp2_with fail
  refine wp_region_quiet_below Tryz.mixed (by kernel_rfl) ?_
  repeat (go_big_quiet_step (exact CM _ _))
  refine wpQuiet_nil ?_
  intro _ hw'
  obtain ⟨⟨dq, osq⟩, hw''⟩ := hw'
  subst hw''
  have bq := below_regrown W1 dq osq
  generalize Sort.grow (redrawn W1 dq) osq = wq at bq
  have S2 := Lib.hid (S1.out.below bq)
  obtain ⟨W2, rfl⟩ : ∃ W2 : World, W2 = wq := ⟨_, rfl⟩
  clear y0 y1 y2 y3 y4 y5 y6 x1 d1 bq CM
  obtain ⟨y0, y1, y2, y3, y4, y5, y6⟩ := S2.out.ys
  go_wp2_with fail
  have C := frameC_any S2.out.ink S2.out.lo HK.out ⟨4, (en : Int), (an : Int), b1, c1, nm⟩ (by simp) (by simp only; omega) (by simp) (by simp only; omega) (by intro _; exact ht) hcc
  simp only [CallV.on, CallV.onCells] at C
  refine C.mono ?_; rintro r w1 hr
  obtain ⟨n, rfl, hE⟩ := Ends1.two hr frameQ_val S2.out.bel
  have HE := Lib.hid hE
  clear hr hE C y0 y1 y2 y3 y4 y5 y6
  go_wp2_with fail
  go_ret2
  rw [HP3.out]; exact HE.out
 by_cases k5e : k1 = 5
 ·subst k5e
  have HP := Lib.hid (show callP k ⟨5, (en : Int), a1, b1, c1, nm⟩ = frameP k ⟨5, (en : Int), a1, b1, c1, nm⟩ from rfl)
  cases hfr : inB a1 0 11
  ·have E := Lib.hid (show callP k ⟨5, (en : Int), a1, b1, c1, nm⟩ = (k, 0, 3) by rw [HP.out, frameP_eq, if_pos (.inl hfr)])
   go_enter Tryz.func109, Tryz.ntmps109
   go_wp2_with fail
   generalize w.alloc _ = W0 at *
   have cF := RegS (w1 := W0) (fun W => isFrame_any a1 W)
   have cT := RegS (w1 := W0) (fun W => isTable_any b1 W)
   rw [hfr] at cF
   replace y1 := cell_regrown y1
   replace y3 := cell_regrown y3
   clear y0 y2 y4 y5 y6 x0 x1 x2 x3 hfr
   refine wp_region_quiet_below Tryz.mixed (by kernel_rfl) ?_
   repeat (go_big_quiet_step (first | exact cF _ _ | exact cT _ _))
   refine wpQuiet_nil ?_
   intro _ hw'
   obtain ⟨⟨dq, osq⟩, hw''⟩ := hw'
   subst hw''
   have bq := below_regrown W0 dq osq
   generalize Sort.grow (redrawn W0 dq) osq = wq at bq
   clear y1 y3
   go_wp2_with fail
   go_ret2
   exact Ends2.bad E.out (by decide) (HS.out.below bq).bel
  have T := Lib.hid hfr
  obtain ⟨an, rfl⟩ : ∃ n : Nat, a1 = (n : Int) := ⟨a1.toNat, by have := (inB_iff.1 hfr).1; omega⟩
  have han : an < 12 := by have := (inB_iff.1 hfr).2; omega
  have hai : (an : Int) < 12 := by omega
  clear hfr
  go_enter Tryz.func109, Tryz.ntmps109
  go_wp2_with fail
  generalize w.alloc _ = W0 at *
  obtain ⟨d0, d1, _⟩ := HS.out.infoAt (f := an) (by rw [HK.out.len]; exact han)
  have cF := RegS (w1 := W0) (fun W => isFrame_any (an : Int) W)
  have cT := RegS (w1 := W0) (fun W => isTable_any b1 W)
  rw [T.out] at cF
  replace y0 := cell_regrown y0
  replace y1 := cell_regrown y1
  replace y2 := cell_regrown y2
  replace y3 := cell_regrown y3
  replace y4 := cell_regrown y4
  replace y5 := cell_regrown y5
  replace y6 := cell_regrown y6
  replace x1 := cell_regrown x1
  replace d0 := cell_regrown d0
  replace d1 := cell_regrown d1
  clear x0 x2 x3
  by_cases h0 : (infoAt k.infos an).k = 0
  ·have E := Lib.hid (show callP k ⟨5, (en : Int), (an : Int), b1, c1, nm⟩ = (k, 0, 3) by rw [HP.out, frameP_eq, if_pos (.inr (.inl h0))])
   have t0 : ((infoAt k.infos an).k == 0) = true := by simp [h0]
   clear h0
   refine wp_region_quiet_below Tryz.mixed (by kernel_rfl) ?_
   repeat (go_big_quiet_step (first | exact cF _ _ | exact cT _ _))
   refine wpQuiet_nil ?_
   intro _ hw'
   obtain ⟨⟨dq, osq⟩, hw''⟩ := hw'
   subst hw''
   have bq := below_regrown W0 dq osq
   generalize Sort.grow (redrawn W0 dq) osq = wq at bq
   clear y0 y1 y2 y3 y4 y5 y6 x1 d0 d1 t0
   go_wp2_with fail
   go_ret2
   exact Ends2.bad E.out (by decide) (HS.out.below bq).bel
  have H0 := Lib.hid h0
  have t0 : ((infoAt k.infos an).k == 0) = false := by simp [h0]
  clear h0
  have HP2 := Lib.hid (show callP k ⟨5, (en : Int), (an : Int), b1, c1, nm⟩ = if mayE k (en : Int) (infoAt k.infos an).g = false then (k, 0, 1) else frameQ k ⟨5, (en : Int), (an : Int), b1, c1, nm⟩ by rw [HP.out, frameP_eq, if_neg (by rintro (x | x | ⟨x, _⟩); (· rw [T.out] at x; cases x); (· exact H0.out x); (· simp at x))] <;> rfl)
  refine wp_region_quiet_below Tryz.mixed (by kernel_rfl) ?_
  repeat (go_big_quiet_step (first | exact cF _ _ | exact cT _ _))
  refine wpQuiet_nil ?_
  intro _ hw'
  obtain ⟨⟨dq, osq⟩, hw''⟩ := hw'
  subst hw''
  have bq := below_regrown W0 dq osq
  generalize Sort.grow (redrawn W0 dq) osq = wq at bq
  have S1 := Lib.hid (HS.out.below bq)
  obtain ⟨W1, rfl⟩ : ∃ W1 : World, W1 = wq := ⟨_, rfl⟩
  clear y0 y1 y2 y3 y4 y5 y6 x1 d0 d1 t0 cF cT bq
  obtain ⟨y0, y1, y2, y3, y4, y5, y6⟩ := S1.out.ys
  have x1 := S1.out.xs.2.1
  obtain ⟨_, d1, _⟩ := S1.out.infoAt (f := an) (by rw [HK.out.len]; exact han)
  have CM := RegB (w1 := W1) (fun W hW => may_c (S1.out.below hW).ink ⟨5, (en : Int), (an : Int), b1, c1, nm⟩ (infoAt k.infos an).g (by simp) (by rw [HK.out.envl]; simp only; omega))
  simp only [CallV.on, CallV.onCells] at CM
  replace y0 := cell_regrown y0
  replace y1 := cell_regrown y1
  replace y2 := cell_regrown y2
  replace y3 := cell_regrown y3
  replace y4 := cell_regrown y4
  replace y5 := cell_regrown y5
  replace y6 := cell_regrown y6
  replace x1 := cell_regrown x1
  replace d1 := cell_regrown d1
  cases hm : mayE k (en : Int) (infoAt k.infos an).g
  ·have E := Lib.hid (show callP k ⟨5, (en : Int), (an : Int), b1, c1, nm⟩ = (k, 0, 1) by rw [HP2.out, if_pos hm])
   rw [hm] at CM
   clear hm
   go_wp2_with fail
   refine wp_region_quiet_below Tryz.mixed (by kernel_rfl) ?_
   repeat (go_big_quiet_step (exact CM _ _))
   refine wpQuiet_nil ?_
   intro _ hw'
   obtain ⟨⟨dq, osq⟩, hw''⟩ := hw'
   subst hw''
   have bq := below_regrown W1 dq osq
   generalize Sort.grow (redrawn W1 dq) osq = wq at bq
   clear y0 y1 y2 y3 y4 y5 y6 x1 d1
   go_wp2_with fail
   go_ret2
   exact Ends2.bad E.out (by decide) (S1.out.below bq).bel
  have HP3 := Lib.hid (show callP k ⟨5, (en : Int), (an : Int), b1, c1, nm⟩ = frameQ k ⟨5, (en : Int), (an : Int), b1, c1, nm⟩ by rw [HP2.out, if_neg (by rw [hm]; decide)])
  rw [hm] at CM
  clear hm
  go_wp2_with fail
  refine wp_region_quiet_below Tryz.mixed (by kernel_rfl) ?_
  repeat (go_big_quiet_step (exact CM _ _))
  refine wpQuiet_nil ?_
  intro _ hw'
  obtain ⟨⟨dq, osq⟩, hw''⟩ := hw'
  subst hw''
  have bq := below_regrown W1 dq osq
  generalize Sort.grow (redrawn W1 dq) osq = wq at bq
  have S2 := Lib.hid (S1.out.below bq)
  obtain ⟨W2, rfl⟩ : ∃ W2 : World, W2 = wq := ⟨_, rfl⟩
  clear y0 y1 y2 y3 y4 y5 y6 x1 d1 bq CM
  obtain ⟨y0, y1, y2, y3, y4, y5, y6⟩ := S2.out.ys
  go_wp2_with fail
  have C := frameC_any S2.out.ink S2.out.lo HK.out ⟨5, (en : Int), (an : Int), b1, c1, nm⟩ (by simp) (by simp only; omega) (by simp) (by simp only; omega) (by intro x; simp at x) hcc
  simp only [CallV.on, CallV.onCells] at C
  refine C.mono ?_; rintro r w1 hr
  obtain ⟨n, rfl, hE⟩ := Ends1.two hr frameQ_val S2.out.bel
  have HE := Lib.hid hE
  clear hr hE C y0 y1 y2 y3 y4 y5 y6
  go_wp2_with fail
  go_ret2
  rw [HP3.out]; exact HE.out
 by_cases k6e : k1 = 6
 ·subst k6e
  have HP := Lib.hid (show callP k ⟨6, (en : Int), a1, b1, c1, nm⟩ = frameP k ⟨6, (en : Int), a1, b1, c1, nm⟩ from rfl)
  cases hfr : inB a1 0 11
  ·have E := Lib.hid (show callP k ⟨6, (en : Int), a1, b1, c1, nm⟩ = (k, 0, 3) by rw [HP.out, frameP_eq, if_pos (.inl hfr)])
   go_enter Tryz.func109, Tryz.ntmps109
   go_wp2_with fail
   generalize w.alloc _ = W0 at *
   have cF := RegS (w1 := W0) (fun W => isFrame_any a1 W)
   have cT := RegS (w1 := W0) (fun W => isTable_any b1 W)
   rw [hfr] at cF
   replace y1 := cell_regrown y1
   replace y3 := cell_regrown y3
   clear y0 y2 y4 y5 y6 x0 x1 x2 x3 hfr
   refine wp_region_quiet_below Tryz.mixed (by kernel_rfl) ?_
   repeat (go_big_quiet_step (first | exact cF _ _ | exact cT _ _))
   refine wpQuiet_nil ?_
   intro _ hw'
   obtain ⟨⟨dq, osq⟩, hw''⟩ := hw'
   subst hw''
   have bq := below_regrown W0 dq osq
   generalize Sort.grow (redrawn W0 dq) osq = wq at bq
   clear y1 y3
   go_wp2_with fail
   go_ret2
   exact Ends2.bad E.out (by decide) (HS.out.below bq).bel
  have T := Lib.hid hfr
  obtain ⟨an, rfl⟩ : ∃ n : Nat, a1 = (n : Int) := ⟨a1.toNat, by have := (inB_iff.1 hfr).1; omega⟩
  have han : an < 12 := by have := (inB_iff.1 hfr).2; omega
  have hai : (an : Int) < 12 := by omega
  clear hfr
  go_enter Tryz.func109, Tryz.ntmps109
  go_wp2_with fail
  generalize w.alloc _ = W0 at *
  obtain ⟨d0, d1, _⟩ := HS.out.infoAt (f := an) (by rw [HK.out.len]; exact han)
  have cF := RegS (w1 := W0) (fun W => isFrame_any (an : Int) W)
  have cT := RegS (w1 := W0) (fun W => isTable_any b1 W)
  rw [T.out] at cF
  replace y0 := cell_regrown y0
  replace y1 := cell_regrown y1
  replace y2 := cell_regrown y2
  replace y3 := cell_regrown y3
  replace y4 := cell_regrown y4
  replace y5 := cell_regrown y5
  replace y6 := cell_regrown y6
  replace x1 := cell_regrown x1
  replace d0 := cell_regrown d0
  replace d1 := cell_regrown d1
  clear x0 x2 x3
  by_cases h0 : (infoAt k.infos an).k = 0
  ·have E := Lib.hid (show callP k ⟨6, (en : Int), (an : Int), b1, c1, nm⟩ = (k, 0, 3) by rw [HP.out, frameP_eq, if_pos (.inr (.inl h0))])
   have t0 : ((infoAt k.infos an).k == 0) = true := by simp [h0]
   clear h0
   refine wp_region_quiet_below Tryz.mixed (by kernel_rfl) ?_
   repeat (go_big_quiet_step (first | exact cF _ _ | exact cT _ _))
   refine wpQuiet_nil ?_
   intro _ hw'
   obtain ⟨⟨dq, osq⟩, hw''⟩ := hw'
   subst hw''
   have bq := below_regrown W0 dq osq
   generalize Sort.grow (redrawn W0 dq) osq = wq at bq
   clear y0 y1 y2 y3 y4 y5 y6 x1 d0 d1 t0
   go_wp2_with fail
   go_ret2
   exact Ends2.bad E.out (by decide) (HS.out.below bq).bel
  have H0 := Lib.hid h0
  have t0 : ((infoAt k.infos an).k == 0) = false := by simp [h0]
  clear h0
  have HP2 := Lib.hid (show callP k ⟨6, (en : Int), (an : Int), b1, c1, nm⟩ = if mayE k (en : Int) (infoAt k.infos an).g = false then (k, 0, 1) else frameQ k ⟨6, (en : Int), (an : Int), b1, c1, nm⟩ by rw [HP.out, frameP_eq, if_neg (by rintro (x | x | ⟨x, _⟩); (· rw [T.out] at x; cases x); (· exact H0.out x); (· simp at x))] <;> rfl)
  refine wp_region_quiet_below Tryz.mixed (by kernel_rfl) ?_
  repeat (go_big_quiet_step (first | exact cF _ _ | exact cT _ _))
  refine wpQuiet_nil ?_
  intro _ hw'
  obtain ⟨⟨dq, osq⟩, hw''⟩ := hw'
  subst hw''
  have bq := below_regrown W0 dq osq
  generalize Sort.grow (redrawn W0 dq) osq = wq at bq
  have S1 := Lib.hid (HS.out.below bq)
  obtain ⟨W1, rfl⟩ : ∃ W1 : World, W1 = wq := ⟨_, rfl⟩
  clear y0 y1 y2 y3 y4 y5 y6 x1 d0 d1 t0 cF cT bq
  obtain ⟨y0, y1, y2, y3, y4, y5, y6⟩ := S1.out.ys
  have x1 := S1.out.xs.2.1
  obtain ⟨_, d1, _⟩ := S1.out.infoAt (f := an) (by rw [HK.out.len]; exact han)
  have CM := RegB (w1 := W1) (fun W hW => may_c (S1.out.below hW).ink ⟨6, (en : Int), (an : Int), b1, c1, nm⟩ (infoAt k.infos an).g (by simp) (by rw [HK.out.envl]; simp only; omega))
  simp only [CallV.on, CallV.onCells] at CM
  replace y0 := cell_regrown y0
  replace y1 := cell_regrown y1
  replace y2 := cell_regrown y2
  replace y3 := cell_regrown y3
  replace y4 := cell_regrown y4
  replace y5 := cell_regrown y5
  replace y6 := cell_regrown y6
  replace x1 := cell_regrown x1
  replace d1 := cell_regrown d1
  cases hm : mayE k (en : Int) (infoAt k.infos an).g
  ·have E := Lib.hid (show callP k ⟨6, (en : Int), (an : Int), b1, c1, nm⟩ = (k, 0, 1) by rw [HP2.out, if_pos hm])
   rw [hm] at CM
   clear hm
   go_wp2_with fail
   refine wp_region_quiet_below Tryz.mixed (by kernel_rfl) ?_
   repeat (go_big_quiet_step (exact CM _ _))
   refine wpQuiet_nil ?_
   intro _ hw'
   obtain ⟨⟨dq, osq⟩, hw''⟩ := hw'
   subst hw''
   have bq := below_regrown W1 dq osq
   generalize Sort.grow (redrawn W1 dq) osq = wq at bq
   clear y0 y1 y2 y3 y4 y5 y6 x1 d1
   go_wp2_with fail
   go_ret2
   exact Ends2.bad E.out (by decide) (S1.out.below bq).bel
  have HP3 := Lib.hid (show callP k ⟨6, (en : Int), (an : Int), b1, c1, nm⟩ = frameQ k ⟨6, (en : Int), (an : Int), b1, c1, nm⟩ by rw [HP2.out, if_neg (by rw [hm]; decide)])
  rw [hm] at CM
  clear hm
  go_wp2_with fail
  refine wp_region_quiet_below Tryz.mixed (by kernel_rfl) ?_
  repeat (go_big_quiet_step (exact CM _ _))
  refine wpQuiet_nil ?_
  intro _ hw'
  obtain ⟨⟨dq, osq⟩, hw''⟩ := hw'
  subst hw''
  have bq := below_regrown W1 dq osq
  generalize Sort.grow (redrawn W1 dq) osq = wq at bq
  have S2 := Lib.hid (S1.out.below bq)
  obtain ⟨W2, rfl⟩ : ∃ W2 : World, W2 = wq := ⟨_, rfl⟩
  clear y0 y1 y2 y3 y4 y5 y6 x1 d1 bq CM
  obtain ⟨y0, y1, y2, y3, y4, y5, y6⟩ := S2.out.ys
  go_wp2_with fail
  have C := frameC_any S2.out.ink S2.out.lo HK.out ⟨6, (en : Int), (an : Int), b1, c1, nm⟩ (by simp) (by simp only; omega) (by simp) (by simp only; omega) (by intro x; simp at x) hcc
  simp only [CallV.on, CallV.onCells] at C
  refine C.mono ?_; rintro r w1 hr
  obtain ⟨n, rfl, hE⟩ := Ends1.two hr frameQ_val S2.out.bel
  have HE := Lib.hid hE
  clear hr hE C y0 y1 y2 y3 y4 y5 y6
  go_wp2_with fail
  go_ret2
  rw [HP3.out]; exact HE.out
 by_cases k7e : k1 = 7
 ·subst k7e
  have HP := Lib.hid (show callP k ⟨7, (en : Int), a1, b1, c1, nm⟩ = rootP k ⟨7, (en : Int), a1, b1, c1, nm⟩ from rfl)
  go_enter Tryz.func109, Tryz.ntmps109
  go_wp2_with fail
  generalize w.alloc _ = W0 at *
  have C := rootC_any HS.out.ink HS.out.lo HK.out ⟨7, (en : Int), a1, b1, c1, nm⟩ (by simp) (by simp only; omega)
  simp only [CallV.on, CallV.onCells] at C
  refine C.mono ?_; rintro r w1 hr
  obtain ⟨n, rfl, hE⟩ := Ends1.two hr rootP_val HS.out.bel
  have HE := Lib.hid hE
  clear hr hE C y0 y1 y2 y3 y4 y5 y6 x0 x1 x2 x3
  go_wp2_with fail
  go_ret2
  rw [HP.out]; exact HE.out
 by_cases k8e : k1 = 8
 ·subst k8e
  have HP := Lib.hid (show callP k ⟨8, (en : Int), a1, b1, c1, nm⟩ = grantP k ⟨8, (en : Int), a1, b1, c1, nm⟩ from rfl)
  go_enter Tryz.func109, Tryz.ntmps109
  go_wp2_with fail
  generalize w.alloc _ = W0 at *
  have C := grantC_any HS.out.ink HS.out.lo HK.out ⟨8, (en : Int), a1, b1, c1, nm⟩ (by simp) (by simp only; omega) hnm
  simp only [CallV.on, CallV.onCells] at C
  refine C.mono ?_; rintro r w1 hr
  obtain ⟨n, rfl, hE⟩ := Ends1.two hr grantP_val HS.out.bel
  have HE := Lib.hid hE
  clear hr hE C y0 y1 y2 y3 y4 y5 y6 x0 x1 x2 x3
  go_wp2_with fail
  go_ret2
  rw [HP.out]; exact HE.out
 by_cases k9e : k1 = 9
 ·subst k9e
  have HP := Lib.hid (show callP k ⟨9, (en : Int), a1, b1, c1, nm⟩ = revokeP k ⟨9, (en : Int), a1, b1, c1, nm⟩ from rfl)
  go_enter Tryz.func109, Tryz.ntmps109
  go_wp2_with fail
  generalize w.alloc _ = W0 at *
  have C := revokeC_any HS.out.ink HS.out.lo HK.out ⟨9, (en : Int), a1, b1, c1, nm⟩ (by simp) (by simp only; omega) hnm
  simp only [CallV.on, CallV.onCells] at C
  refine C.mono ?_; rintro r w1 hr
  obtain ⟨n, rfl, hE⟩ := Ends1.two hr revokeP_val HS.out.bel
  have HE := Lib.hid hE
  clear hr hE C y0 y1 y2 y3 y4 y5 y6 x0 x1 x2 x3
  go_wp2_with fail
  go_ret2
  rw [HP.out]; exact HE.out
 by_cases kae : k1 = 10
 ·subst kae
  have HP := Lib.hid (show callP k ⟨10, (en : Int), a1, b1, c1, nm⟩ = useP k ⟨10, (en : Int), a1, b1, c1, nm⟩ from rfl)
  go_enter Tryz.func109, Tryz.ntmps109
  go_wp2_with fail
  generalize w.alloc _ = W0 at *
  have C := useC_any HS.out.ink HS.out.lo HK.out ⟨10, (en : Int), a1, b1, c1, nm⟩ (by simp) (by simp only; omega) (.inl rfl)
  simp only [CallV.on, CallV.onCells] at C
  refine C.mono ?_; rintro r w1 hr
  obtain ⟨v, n, rfl, hE⟩ := Ends2.of hr HS.out.bel
  have HE := Lib.hid hE
  clear hr hE C y0 y1 y2 y3 y4 y5 y6 x0 x1 x2 x3
  go_wp2_with fail
  go_ret2
  rw [HP.out]; exact HE.out
 by_cases kbe : k1 = 11
 ·subst kbe
  have HP := Lib.hid (show callP k ⟨11, (en : Int), a1, b1, c1, nm⟩ = useP k ⟨11, (en : Int), a1, b1, c1, nm⟩ from rfl)
  go_enter Tryz.func109, Tryz.ntmps109
  go_wp2_with fail
  generalize w.alloc _ = W0 at *
  have C := useC_any HS.out.ink HS.out.lo HK.out ⟨11, (en : Int), a1, b1, c1, nm⟩ (by simp) (by simp only; omega) (.inr rfl)
  simp only [CallV.on, CallV.onCells] at C
  refine C.mono ?_; rintro r w1 hr
  obtain ⟨v, n, rfl, hE⟩ := Ends2.of hr HS.out.bel
  have HE := Lib.hid hE
  clear hr hE C y0 y1 y2 y3 y4 y5 y6 x0 x1 x2 x3
  go_wp2_with fail
  go_ret2
  rw [HP.out]; exact HE.out
 have E := Lib.hid (show callP k ⟨k1, (en : Int), a1, b1, c1, nm⟩ = (k, 0, 3) by
  unfold callP
  rw [if_neg k1e, if_neg (by rw [Bool.not_eq_true, inB_no]; show k1 < 2 ∨ 6 < k1; omega), if_neg k7e, if_neg k8e, if_neg k9e, if_neg (by rintro (x | x); (· exact kae x); (· exact kbe x))])
 have t1 : (k1 == 1) = false := by simp [k1e]
 have t2 : (k1 == 2) = false := by simp [k2e]
 have t3 : (k1 == 3) = false := by simp [k3e]
 have t4 : (k1 == 4) = false := by simp [k4e]
 have t5 : (k1 == 5) = false := by simp [k5e]
 have t6 : (k1 == 6) = false := by simp [k6e]
 have t7 : (k1 == 7) = false := by simp [k7e]
 have t8 : (k1 == 8) = false := by simp [k8e]
 have t9 : (k1 == 9) = false := by simp [k9e]
 have ta : (k1 == 10) = false := by simp [kae]
 have tb : (k1 == 11) = false := by simp [kbe]
 clear k1e k2e k3e k4e k5e k6e k7e k8e k9e kae kbe y0 y2 y3 y4 y5 y6 x0 x1 x2 x3
 go_enter Tryz.func109, Tryz.ntmps109
 go_wp2_with fail
 go_ret2
 exact Ends2.bad E.out (by decide) HS.out.bel
end Go.Proofs.YtjacdlekgdnndaaGreatDoor
set_option linter.unusedVariables false
set_option linter.unusedSimpArgs false
namespace Go.Proofs.YtjacdlekgdnndaaGreatDoor
def Owned (k : KernV) (f : Nat) : Prop := (infoAt k.infos f).r = 1 ∧ ((∃ t i, t < 12 ∧ tabK (kindAt k t) = true ∧ i < 4 ∧ names f (wdAt k.mem t i) = true ∧ (infoAt k.infos t).g = gA) ∨ rootOf k 0 = (f : Int))
def Keeps (k k' : KernV) : Prop := (∀ e, e < 3 → mayP (rightsOf k' e) gA = mayP (rightsOf k e) gA) ∧ rootOf k' 0 = rootOf k 0 ∧
 ∀ f, f < 12 → (infoAt k.infos f).g = gA → kindAt k f ≠ 0 → rowAt k'.mem f = rowAt k.mem f ∧ (infoAt k'.infos f).g = gA ∧ (Owned k f → (infoAt k'.infos f).r = (infoAt k.infos f).r)
theorem Keeps.refl (k : KernV) : Keeps k k := ⟨fun _ _ => rfl, rfl, fun _ _ h _ => ⟨rfl, h, fun _ => rfl⟩⟩
section
variable {k : KernV} (h : KOk k)
include h
end
section
variable {k : KernV} (h : KOk k) {c : CallV} (he : c.e = 1 ∨ c.e = 2) (hal : ∀ e, 1 ≤ e → e < 3 → mayP (rightsOf k e) gA = false)
include h he hal
end
def gB : ByteArray := ⟨#[98]⟩
def gC : ByteArray := ⟨#[99]⟩
def newK0 : KernV := ⟨List.replicate 12 [0, 0, 0, 0], List.replicate 12 ⟨0, ⟨#[]⟩, 0⟩, [⟨[gA], -1⟩, ⟨[gB], -1⟩, ⟨[gC], -1⟩], []⟩
def newCalls : List CallV := [pgCall 1 0 0 0, pgCall 4 0 3 0, pgCall 7 0 0 0,
 pgCall 1 0 0 0, pgCall 4 1 2 0, pgCall 6 0 0 7, pgCall 1 0 0 0, pgCall 4 2 2 0, pgCall 6 0 1 11, pgCall 1 0 0 0, pgCall 4 3 2 0, pgCall 6 0 2 15, pgCall 1 0 0 0, pgCall 4 4 2 0, pgCall 6 0 3 19]
def newAt (n : Nat) : KernV := (newCalls.take n).foldl (fun k c => (callP k c).1) newK0
def newKF : KernV := ⟨[7, 11, 15, 19] :: List.replicate 11 [0, 0, 0, 0], ⟨3, gA, 1⟩ :: (List.replicate 4 ⟨2, gA, 1⟩ ++ List.replicate 7 ⟨0, ⟨#[]⟩, 0⟩), [⟨[gA], 0⟩, ⟨[gB], -1⟩, ⟨[gC], -1⟩], []⟩
theorem newAt_last : newAt 15 = newKF := by kernel_rfl
theorem new_top : callP (newAt 0) (pgCall 1 0 0 0) = (newAt 1, 0, 0) := by kernel_rfl
theorem new_pin : callP (newAt 1) (pgCall 4 0 3 0) = (newAt 2, 0, 0) := by kernel_rfl
theorem new_root : callP (newAt 2) (pgCall 7 0 0 0) = (newAt 3, 0, 0) := by kernel_rfl
theorem new_take : ∀ i, i < 4 → callP (newAt (3 * i + 3)) (pgCall 1 0 0 0) = (newAt (3 * i + 4), ((i + 1 : Nat) : Int), 0)
 | 0, _ => by kernel_rfl
 | 1, _ => by kernel_rfl
 | 2, _ => by kernel_rfl
 | 3, _ => by kernel_rfl
 | _ + 4, h => by omega
theorem new_low : ∀ i, i < 4 → callP (newAt (3 * i + 4)) (pgCall 4 ((i + 1 : Nat) : Int) 2 0) = (newAt (3 * i + 5), 0, 0)
 | 0, _ => by kernel_rfl
 | 1, _ => by kernel_rfl
 | 2, _ => by kernel_rfl
 | 3, _ => by kernel_rfl
 | _ + 4, h => by omega
theorem new_set : ∀ i, i < 4 → callP (newAt (3 * i + 5)) (pgCall 6 0 (i : Int) (ent ((i + 1 : Nat) : Int))) = (newAt (3 * i + 6), 0, 0)
 | 0, _ => by kernel_rfl
 | 1, _ => by kernel_rfl
 | 2, _ => by kernel_rfl
 | 3, _ => by kernel_rfl
 | _ + 4, h => by omega
theorem newAt_ok : ∀ n, n ≤ 15 → KOk (newAt n) := by
 have h0 : KOk (newAt 0) := kernOk_iff.1 (by kernel_rfl)
 intro n
 induction n with
 | zero => exact fun _ => h0
 | succ n ih =>
  intro hn
  have hlt : n < newCalls.length := by show n < 15; omega
  have e : newAt (n + 1) = (callP (newAt n) newCalls[n]).1 := by
   unfold newAt
   rw [List.take_succ_eq_append_getElem hlt, List.foldl_append]
   rfl
  rw [e]
  have he : (newCalls[n]).e = 0 := by
   have : ∀ c ∈ newCalls, c.e = 0 := by
    intro c hc
    simp only [newCalls, List.mem_cons, List.not_mem_nil, or_false] at hc
    rcases hc with h | h | h | h | h | h | h | h | h | h | h | h | h | h | h <;> (subst h; rfl)
   exact this _ (List.getElem_mem hlt)
  exact callP_ok (ih (by omega)) (by rw [he]; omega)
def newP (limit : Int) : PagerV := ⟨newKF, List.replicate 16 [], [1, 2, 3, 4], List.replicate 16 ⟨0, 0, false⟩, 0, limit⟩
theorem newP_ok {l : Int} (h1 : 1 ≤ l) (h6 : l ≤ 6) : POk (newP l) := by
 have h : POk (newP 1) := pagerOk_iff.1 (by kernel_rfl)
 exact ⟨h.k, h.swapl, h.swapr, h.may, h.alone, h.root, h.lowl, h.mroot, h.lows, h.pagel, h.slots, fun n hn => h.pages n hn, h.hand, ⟨h1, h6⟩, by
  show ((countW (List.replicate 16 ⟨0, 0, false⟩) 1 : Nat) : Int) ≤ l
  have : countW (List.replicate 16 ⟨0, 0, false⟩) 1 = 0 := by kernel_rfl
  omega⟩
theorem newP_word (l : Int) {a : Nat} (ha : a < 64) : wordP (newP l) a = 0 := by
 have e : pageAt (newP l).pages (a / 4) = ⟨0, 0, false⟩ := by
  show (List.replicate 16 (⟨0, 0, false⟩ : PageV)).getD (a / 4) ⟨0, 0, false⟩ = _
  rw [List.getD_eq_getElem?_getD, List.getElem?_replicate]
  split <;> rfl
 unfold wordP
 rw [e]
 rfl
theorem newP_free (l : Int) : freeP (newP l).kern.infos = 5 := by
 show freeP newKF.infos = 5
 kernel_rfl
def NoChange (k : KernV) (r : Res) : Prop := (r.2.2 ≠ 0 → r = (k, 0, r.2.2)) ∧ 0 ≤ r.2.2 ∧ r.2.2 ≤ 4
theorem NoChange.code {k : KernV} {n : Int} (h0 : 0 ≤ n) (h4 : n ≤ 4) : NoChange k (k, 0, n) := ⟨fun _ => rfl, h0, h4⟩
theorem NoChange.done {k k' : KernV} {v : Int} : NoChange k (k', v, 0) := ⟨fun h => absurd rfl h, by show (0 : Int) ≤ 0; omega, by show (0 : Int) ≤ 4; omega⟩
theorem NoChange.iteP {k : KernV} {p : Prop} [Decidable p] {a b : Res} (ha : NoChange k a) (hb : NoChange k b) : NoChange k (if p then a else b) := by split <;> assumption
theorem pinnedP_no {k : KernV} {r : List InfoV × Int} : NoChange k (pinnedP k r) := by
 unfold pinnedP pinCode
 split
 ·exact .done
 ·split
  ·exact .code (by omega) (by omega)
  ·exact .code (by omega) (by omega)
theorem callP_no {k : KernV} {c : CallV} : NoChange k (callP k c) := by
 have c1 : NoChange k (k, 0, 1) := .code (by omega) (by omega)
 have c2 : NoChange k (k, 0, 2) := .code (by omega) (by omega)
 have c3 : NoChange k (k, 0, 3) := .code (by omega) (by omega)
 have c4 : NoChange k (k, 0, 4) := .code (by omega) (by omega)
 unfold callP
 refine .iteP (.iteP c3 (.iteP c1 (.iteP c4 .done))) (.iteP ?_ (.iteP ?_ (.iteP ?_ (.iteP ?_ (.iteP ?_ c3)))))
 ·unfold frameP
  refine .iteP c3 (.iteP c1 (.iteP (.iteP c3 (.iteP c2 .done)) (.iteP (.iteP c3 .done) (.iteP pinnedP_no (.iteP pinnedP_no ?_)))))
  unfold setP
  exact .iteP c3 (.iteP c1 (.iteP c1 .done))
 ·unfold rootP
  exact .iteP c3 (.iteP c1 .done)
 ·unfold grantP
  exact .iteP c3 (.iteP c1 (.iteP c4 .done))
 ·unfold revokeP
  exact .iteP c3 (.iteP c1 (.iteP c2 .done))
 ·unfold useP
  exact .iteP c3 (.iteP c3 (.iteP c1 (.iteP .done .done)))
theorem callP_same {k : KernV} {c : CallV} (h : (callP k c).2.2 ≠ 0) : callP k c = (k, 0, (callP k c).2.2) := callP_no.1 h
theorem callP_nm {k : KernV} {kind e a b c : Int} {s t : ByteArray} (h : kind ≠ 1 ∧ kind ≠ 8 ∧ kind ≠ 9) : callP k ⟨kind, e, a, b, c, s⟩ = callP k ⟨kind, e, a, b, c, t⟩ := by
 unfold callP
 simp only [h.1, h.2.1, h.2.2, if_false]
 rfl
end Go.Proofs.YtjacdlekgdnndaaGreatDoor
