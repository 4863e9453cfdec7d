/-
  Packed: 1 texts.
-/
import Derived.Test.YtjacdlekgdnndaaGreatDoorY7
set_option linter.unusedVariables false
namespace Go.Proofs.YtjacdlekgdnndaaGreatDoor
open Go.RowKit
def usersTo (k : KernV) (a j : Nat) : List Nat := (List.range j).filter fun e => (reachL k.mem (envAt k.envs e).root).contains a
theorem usersTo_no {k : KernV} {a j : Nat} (h : (reachL k.mem (envAt k.envs j).root).contains a = false) : usersTo k a (j + 1) = usersTo k a j := by
 unfold usersTo
 rw [List.range_succ, List.filter_append]
 simp only [List.filter_cons, h, List.filter_nil]
 simp
theorem usersTo_yes {k : KernV} {a j : Nat} (h : (reachL k.mem (envAt k.envs j).root).contains a = true) : usersTo k a (j + 1) = usersTo k a j ++ [j] := by
 unfold usersTo
 rw [List.range_succ, List.filter_append]
 simp only [List.filter_cons, h, List.filter_nil]
 simp
theorem usersTo_len {k : KernV} {a j : Nat} : (usersTo k a j).length ≤ j := by
 unfold usersTo
 exact Nat.le_trans (List.length_filter_le _ _) (by simp)
theorem users_three {k : KernV} {a : Nat} : usersTo k a 3 = usersP k a := rfl
theorem contains_ints {ts l : List Nat} {a : Nat} (h : ∀ g, g ∈ ts ↔ g ∈ l) : (ints ts).contains (a : Int) = l.contains a := by
 rw [Bool.eq_iff_iff, List.contains_iff_mem, List.contains_iff_mem, mem_ints_iff, h]
def dropsC (es : List Nat) (c : List CachedV) : List CachedV := es.foldl (fun c e => dropC c (e : Nat)) c
theorem dropsC_ok {c : List CachedV} (es : List Nat) (h : cacheOk c = true) : cacheOk (dropsC es c) = true := drops_ok h
theorem dropsC_take {es : List Nat} {c : List CachedV} {j : Nat} (h : j < es.length) : dropsC (es.take (j + 1)) c = dropC (dropsC (es.take j) c) ((es.getD j 0 : Nat) : Int) := by
 unfold dropsC
 rw [take_one (getD_lt (d := 0) h), List.foldl_append]
 rfl
theorem setP_eq {k : KernV} {c : CallV} : setP k c =
 if tabK (infoAt k.infos c.a.toNat).k = false ∨ inB c.b 0 3 = false ∨ wordFits k c = false then (k, 0, 3)
 else if (usersP k c.a.toNat).all (fun e => allowedP k.infos (neededP k c.c) (envAt k.envs e).rights) = false then (k, 0, 1)
 else if entG c.c = true ∧ mayE k c.e (infoAt k.infos (entF c.c)).g = false then (k, 0, 1)
 else ({ k with mem := setWd k.mem c.a.toNat c.b.toNat c.c, infos := refer1 (refer1 k.infos (wdAt k.mem c.a.toNat c.b.toNat) (-1)) c.c 1, cache := dropsC (usersP k c.a.toNat) k.cache }, 0, 0) := rfl
theorem small_refs {infos : List InfoV} (h : infosOk infos = true) : SmallR infos 50 := by
 intro f hf
 have := (infosOk_iff.1 h).2 f (by rw [← (infosOk_iff.1 h).1]; exact hf)
 unfold infoOk at this
 simp only [Bool.or_eq_true, Bool.and_eq_true, decide_eq_true_eq, inB_iff] at this
 rcases this with h | h
 ·rw [h]; decide
 ·omega
theorem SmallR.refer {infos : List InfoV} {b x n : Int} (h : SmallR infos b) (hl : infos.length = 12) (hn : n = 1 ∨ n = -1) : SmallR (refer1 infos x n) (b + 1) := by
 intro f hf
 rw [refer1_len] at hf
 have := h f hf
 rw [refer1_at hl]
 show -(b + 1) ≤ (infoAt infos f).r + n * ((b2n (names f x) : Nat) : Int) ∧ (infoAt infos f).r + n * ((b2n (names f x) : Nat) : Int) ≤ b + 1
 unfold b2n
 split <;> rcases hn with rfl | rfl <;> omega
theorem SmallR.mono {infos : List InfoV} {b b' : Int} (h : SmallR infos b) (hb : b ≤ b') : SmallR infos b' := fun f hf => by have := h f hf; omega
theorem own_keepI {lo : Nat} {w : World} {v u : Value} {xs : List Int} {g j : Nat} (h : OwnInts lo w v xs) (hg : g < lo) : OwnInts lo (w.setCell ⟨g, j, none⟩ u) v xs :=
 own_grown h (grown_set w g j u) (by
  rcases hv : v.ownBlock with _ | b
  ·exact .inl rfl
  ·refine .inr fun e => ?_
   cases e
   have := (World.ownsRow.lt h g hv).1
   omega)
set_option maxHeartbeats 1000000 in
theorem CS.refer {lo g b0 : Nat} {call : CallV} {w W : World} {m e c : Value} {k : KernV} {gi cap : Nat} (h : CS lo g b0 call w W m (.slice (some ⟨gi, 0, none⟩) 12 cap) e c k) (x n : Int) (hx : x ≤ 9223372036854775807) (hl : k.infos.length = 12) (hn : n = 1 ∨ n = -1) (hs : SmallR k.infos 1000) :
 Calls Tryz.prog 274 #[call.on g, .int .i64 x, .int .i64 n] W fun r w' => r = .returned (.tuple #[]) ∧ CS lo g b0 call w w' m (.slice (some ⟨gi, 0, none⟩) 12 cap) e c { k with infos := refer1 k.infos x n } ∧ W.grownBy w' (some gi) := by
 have Hb1 := Lib.hid (below1 W (.cells (call.onCells g) 150))
 have N := heap_alloc_new W (.cells (call.onCells g) 150)
 have hb := below1 W (.cells (call.onCells g) 150)
 have h1 := h.below hb
 have hnb : -1 ≤ n ∧ n ≤ 1 := by omega
 have CE := Lib.hid (fun W => EntryGet_any x W hx)
 have ngi := h1.row_ne h1.ink.2.2.2.1 rfl (by decide) (by decide)
 obtain ⟨cur, hcur⟩ := own_type h1.ink.2.2.2.1 gi rfl
 have hgb : gi ≠ W.heap.size := by
  have := h.gi_lt
  omega
 have hbg : W.heap.size ≠ gi := hgb.symm
 have hgg : g ≠ W.heap.size := by
  have := h.lts.2.1
  omega
 obtain ⟨k1, e1, a1, b1, c1, nm1⟩ := call
 simp only [CallV.on, CallV.onCells] at N hb h1 Hb1 ⊢
 obtain ⟨y0, y1, y2, y3, y4, y5, y6⟩ := on_cells (c := ⟨k1, e1, a1, b1, c1, nm1⟩) N
 cases hg : entG x
 ·have V := Lib.hid (entV_no hg)
  have S := Lib.hid (show refer1 k.infos x n = k.infos by simp [refer1, hg])
  have H1 := Lib.hid h1
  clear hg h h1 hs hn y0 y1 y2 y3 y4 y5 y6 N hl ngi hcur
  go_enter Tryz.func274, Tryz.ntmps274
  go_wp2_with (go_at_call 118; refine (CE.out _).mono ?_; rintro e w' ⟨rfl, rfl⟩; rw [V.out])
  go_returns
  exact ⟨rfl, by rw [S.out]; exact H1.out, grown_below Hb1.out _⟩
 ·have hF := entF_lt hg
  have V := Lib.hid (entV_yes hg)
  have S := Lib.hid (show refer1 k.infos x n = modAt k.infos (entF x) (addR n) by unfold refer1; rw [hg, if_pos rfl])
  generalize entF x = f at *
  have hfl : f < k.infos.length := by omega
  obtain ⟨s1, s2⟩ := hs f hfl
  obtain ⟨_, _, d2⟩ := h1.infoAt hfl
  have T := Lib.hid (h1.info hl.symm hfl n)
  have x1 := h1.xs.2.1
  have Fr := h1.fzi (f * 3 + 2)
  have hfi : (f : Int) < 12 := by omega
  clear hg h h1 hs hn N y1 y2 y3 y4 y5 y6 hl ngi hcur
  go_enter Tryz.func274, Tryz.ntmps274
  go_wp2_with (go_at_call 118; refine (CE.out _).mono ?_; rintro e w' ⟨rfl, rfl⟩; rw [V.out])
  go_returns
  exact ⟨rfl, by rw [S.out]; exact T.out, grown_trans (grown_below Hb1.out _) (grown_set _ _ _ _)⟩
set_option maxRecDepth 100000 in
set_option maxHeartbeats 8000000 in
theorem setC_any {lo g : Nat} {w : World} {m i e c : Value} {k : KernV} (h : InK lo w g m i e c k) (hlo : lo ≤ w.heap.size) (hK : KOk k) (call : CallV) (he : 0 ≤ call.e) (hn : call.e < 3) (ha : 0 ≤ call.a ∧ call.a < 12) (hcc : call.c ≤ 9223372036854775807) :
 Calls Tryz.prog 228 #[call.on g] w (Ends1 lo g w (setP k call)) := by
 have S0 := CS.start h hlo call
 have P := setP_eq (k := k) (c := call)
 obtain ⟨k1, e1, a1, b1, c1, nm⟩ := call
 obtain ⟨en, rfl⟩ : ∃ n : Nat, e1 = (n : Int) := ⟨e1.toNat, by simp only at he; omega⟩
 obtain ⟨an, rfl⟩ : ∃ n : Nat, a1 = (n : Int) := ⟨a1.toNat, by simp only at ha; omega⟩
 have hen : en < 3 := by simp only at hn; omega
 have han : an < 12 := by simp only at ha; omega
 simp only [CallV.on, CallV.onCells] at S0 P hcc ⊢
 simp only [Int.toNat_natCast] at P
 obtain ⟨ge, cap, e9, _, ⟨⟨nge1, nge2⟩, nge3, nge4⟩, _⟩ := S0.envs (by rw [hK.envl]; omega)
 rw [hK.envl] at e9
 obtain ⟨gi, capi, e8, _, _, ⟨⟨ngi1, ngi2⟩, ngi3, ngi4⟩, _⟩ := S0.infos (by rw [hK.len]; omega)
 rw [hK.len] at e8
 obtain ⟨gm, capm, e7, _, ⟨ngm1, ngm2⟩, ngm3, ngm4⟩ := S0.mems (kok_parts hK).1
 subst e7 e8 e9
 obtain ⟨y0, y1, y2, y3, y4, y5, y6⟩ := S0.ys
 have HK := Lib.hid hK
 have HS := Lib.hid S0
 have HP := Lib.hid P
 have hai : (an : Int) < 12 := by omega
 have CEn := Lib.hid (fun W => EntryGet_any c1 W hcc)
 replace y3 := cell_regrown y3
 replace y4 := cell_regrown y4
 replace y5 := cell_regrown y5
 clear hK h S0 hlo he hn P y0 y1 y2 y6 ha
 go_enter Tryz.func228, Tryz.ntmps228
 go_wp2_with fail
 generalize w.alloc _ = W0 at *
 refine wp_region_quiet_below Tryz.mixed (by kernel_rfl) ?_
 repeat (go_big_quiet_step (fail))
 refine wpQuiet_nil ?_
 intro _ hw'
 obtain ⟨⟨dq, osq⟩, hw''⟩ := hw'
 subst hw''
 have bq := below_regrown W0 dq osq
 generalize Sort.grow (redrawn W0 dq) osq = wq at bq
 clear y3 y4 y5
 have S2 := Lib.hid (HS.out.below bq)
 obtain ⟨W2, rfl⟩ : ∃ W2 : World, W2 = wq := ⟨_, rfl⟩
 clear bq
 obtain ⟨y0, _, _, _, _, _, _⟩ := S2.out.ys
 obtain ⟨x0, x1, _, _⟩ := S2.out.xs
 obtain ⟨d0, _, _⟩ := S2.out.infoAt (f := an) (by rw [HK.out.len]; exact han)
 have cT := RegS (w1 := W2) (fun W => isTable_any (infoAt k.infos an).k W)
 have cP := RegS (w1 := W2) (fun W => isPlace_any b1 W)
 have cN := RegS (w1 := W2) (fun W => TableNeeds_any (infoAt k.infos an).k W)
 cases hg : entG c1
 ·have V := Lib.hid (entV_no hg)
  have Hent := Lib.hid hg
  have hnd : neededP k c1 = [] := by unfold neededP; rw [hg]; rfl
  have Hnd := Lib.hid hnd
  have hwf : wordFits k ⟨k1, (en : Int), (an : Int), b1, c1, nm⟩ = decide (c1 = 0) := by unfold wordFits; rw [hg]; rfl
  clear hg hnd
  go_wp2_with (go_at_call 118; refine (CEn.out _).mono ?_; rintro e w' ⟨rfl, rfl⟩; rw [V.out])
  clear x1 d0 y0 x0
  cases ht : tabK (infoAt k.infos an).k
  ·rw [ht] at cT
   have E := Lib.hid (show setP k ⟨k1, (en : Int), (an : Int), b1, c1, nm⟩ = (k, 0, 3) by rw [HP.out, if_pos (.inl ht)])
   refine wp_region_quiet_below Tryz.mixed (by kernel_rfl) ?_
   repeat (go_big_quiet_step (first | exact cT _ _ | exact cP _ _ | exact cN _ _))
   refine wpQuiet_nil ?_
   intro _ hw'
   obtain ⟨⟨dq, osq⟩, hw''⟩ := hw'
   subst hw''
   have bq := below_regrown W2 dq osq
   generalize Sort.grow (redrawn W2 dq) osq = wq at bq
   go_wp2_with fail
   go_ret
   exact Ends1.bad E.out (by decide) (S2.out.below bq).bel
  ·rw [ht] at cT
   cases hb : inB b1 0 3
   ·rw [hb] at cP
    have E := Lib.hid (show setP k ⟨k1, (en : Int), (an : Int), b1, c1, nm⟩ = (k, 0, 3) by rw [HP.out, if_pos (.inr (.inl hb))])
    refine wp_region_quiet_below Tryz.mixed (by kernel_rfl) ?_
    repeat (go_big_quiet_step (first | exact cT _ _ | exact cP _ _ | exact cN _ _))
    refine wpQuiet_nil ?_
    intro _ hw'
    obtain ⟨⟨dq, osq⟩, hw''⟩ := hw'
    subst hw''
    have bq := below_regrown W2 dq osq
    generalize Sort.grow (redrawn W2 dq) osq = wq at bq
    go_wp2_with fail
    go_ret
    exact Ends1.bad E.out (by decide) (S2.out.below bq).bel
   ·rw [hb] at cP
    by_cases h0 : c1 = 0
    ·have t0 : (c1 != 0) = false := by simp [h0]
     have HP2 := Lib.hid (show setP k ⟨k1, (en : Int), (an : Int), b1, c1, nm⟩ = _ by rw [HP.out, if_neg (by rintro (x | x | x); (· rw [ht] at x; cases x); (· rw [hb] at x; cases x); (· rw [hwf, h0] at x; cases x))])
     obtain ⟨bn, rfl⟩ : ∃ n : Nat, b1 = (n : Int) := ⟨b1.toNat, by have := (inB_iff.1 hb).1; omega⟩
     have hb4 : bn < 4 := by have := (inB_iff.1 hb).2; omega
     simp only [Int.toNat_natCast] at HP2
     have Hc0 := Lib.hid h0
     clear hwf ht hb h0
     refine wp_region_quiet_below Tryz.mixed (by kernel_rfl) ?_
     repeat (go_big_quiet_step (first | exact cT _ _ | exact cP _ _ | exact cN _ _))
     refine wpQuiet_nil ?_
     intro _ hw'
     obtain ⟨⟨dq, osq⟩, hw''⟩ := hw'
     subst hw''
     have bq := below_regrown W2 dq osq
     generalize Sort.grow (redrawn W2 dq) osq = wq at bq
     clear cT cP cN t0
     have S5 := Lib.hid (S2.out.below bq)
     obtain ⟨W5, rfl⟩ : ∃ W5 : World, W5 = wq := ⟨_, rfl⟩
     clear bq S2
     have N10 := Lib.hid (World.ownsRow_nil W5 W5.heap.size 3 1)
     have N10 : Hid (OwnInts W5.heap.size W5 (.slice none 0 0) (ints [])) := Lib.hid N10.out
     obtain ⟨ts, hts⟩ : ∃ ts : List Nat, ts = [] := ⟨_, rfl⟩
     have Hm := Lib.hid (show ∀ g, g ∈ ts ↔ g ∈ neededP k c1 by rw [hts, Hnd.out]; exact fun _ => Iff.rfl)
     have Ht := Lib.hid (show ∀ g, g ∈ ts → g < 12 by rw [hts]; intro g hg; cases hg)
     rw [← hts] at N10
     clear hts
     obtain ⟨y0, _, _, _, _, _, _⟩ := S5.out.ys
     obtain ⟨_, _, x2, _⟩ := S5.out.xs
     go_wp2_with fail
     clear y0 x2
     go_loopw [11, 99] (fun s11 s99 wr => ∃ j : Nat, j ≤ 3 ∧ s99 = .int .i64 j ∧ OwnInts W5.heap.size wr s11 (ints (usersTo k an j)) ∧ Below W5.heap.size W5 wr ∧ ∀ e, e ∈ usersTo k an j → allowedP k.infos (neededP k c1) (envAt k.envs e).rights = true) (fun _ s99 _ => 3 - (intOf s99).toNat)
     case atStart => exact ⟨0, Nat.zero_le _, rfl, World.ownsRow_nil _ _ _ _, Below.refl _ _, fun e he => by cases he⟩
     case round =>
      obtain ⟨j, hj, rfl, hO, hbel, hall⟩ := hrel
      have Hall := Lib.hid hall
      clear hall
      have hl6 := usersTo_len (k := k) (a := an) (j := j)
      have S6 := Lib.hid (S5.out.below hbel)
      have HO := Lib.hid hO
      have Hbel := Lib.hid hbel
      obtain ⟨a11, c11, rfl, _, _, _⟩ := hO.rd.open
      rw [ints_len] at HO ⊢
      clear hO hbel
      by_cases hlt : j < 3
      ·obtain ⟨ua, uc, D05, D15, R5⟩ := S5.out.env (j := j) (by rw [HK.out.envl]; exact hlt)
       have D0 := (Hbel.out.cell (World.block_lt_of_cell? _ _ D05)).trans D05
       have D1 := (Hbel.out.cell (World.block_lt_of_cell? _ _ D15)).trans D15
       have R := RdF.below R5 Hbel.out
       have HR5 := Lib.hid R5
       clear D05 D15 R5
       have hbN := below1 wr (.cells #[.slice ua (envAt k.envs j).rights.length uc, .int .i64 (envAt k.envs j).root] 80)
       have NE := heap_alloc_new wr (.cells #[.slice ua (envAt k.envs j).rights.length uc, .int .i64 (envAt k.envs j).root] 80)
       have S7 := Lib.hid (S6.out.below hbN)
       have hlt3 : (j : Int) < 3 := by omega
       obtain ⟨y0, _, _, _, _, _, _⟩ := S7.out.ys
       obtain ⟨x0, x1, _, _⟩ := S7.out.xs
       obtain ⟨hlr, hgr, _, _⟩ := S7.out.lts
       have hm12 := root_lt HK.out hlt
       have RM := RdRows.below S6.out.ink.2.2.rd.1 hbN
       have RIn : RdInfos _ _ k.infos := S7.out.ink.2.2.2.1.rd
       have R7 := RdF.below R hbN
       have HNE := Lib.hid NE
       have hqr := blk_lt NE
       have n0 := cell_of_row _ _ 0 _ _ _ NE
       have n1 := cell_of_row _ _ 1 _ _ _ NE
       have HbN := Lib.hid hbN
       clear hbN NE R
       go_wp2_with fail
       clear D0 D1
       generalize wr.alloc _ = W7 at *
       obtain ⟨qe, hqe⟩ : ∃ q, q = wr.heap.size := ⟨_, rfl⟩
       rw [← hqe] at HNE hqr n0 n1 ⊢
       have CX := Lib.hid (fun W (hW : Below W7.heap.size W7 W) => reached_root _ k.mem (envAt k.envs j).root W (RM.below hW) (kok_parts HK.out).1 hm12)
       have hG0 := HbN.out
       cases hbu : (reachL k.mem (envAt k.envs j).root).contains an
       ·have Hbu : Hid ((reachL k.mem (envAt k.envs j).root).contains an = false) := Lib.hid hbu
        have HU := Lib.hid (usersTo_no hbu)
        clear hbu hqe
        refine wp_region_grow 10 Tryz.mixed (by kernel_rfl) 188 rfl (by kernel_rfl) (fun ix vv ww => match ix with
         | 0 => vv = .pointer (some ⟨w.heap.size, 0, none⟩)
         | 1 => vv = .pointer (some ⟨g, 0, none⟩)
         | 2 => vv = .pointer (some ⟨g, 0, none⟩)
         | 3 => vv = .pointer (some ⟨g, 0, none⟩)
         | 4 => vv = .slice (some ⟨gm, 0, none⟩) 12 capm
         | 5 => vv = .pointer (some ⟨qe, 1, none⟩)
         | 6 => vv = .int .i64 ((envAt k.envs j).root)
         | 7 => ReachIn wr.heap.size k.mem (envAt k.envs j).root ww vv
         | 8 => vv = .int .i64 ((an : Int))
         | 9 => vv = .bool false
         | _ => True) ?_ ?_ ?_
        ·intro i hi vv wz ww' hbz hz
         match i, hi with
         | 0, _ => exact hz
         | 1, _ => exact hz
         | 2, _ => exact hz
         | 3, _ => exact hz
         | 4, _ => exact hz
         | 5, _ => exact hz
         | 6, _ => exact hz
         | 7, _ => exact (ReachIn.below hz hbz)
         | 8, _ => exact hz
         | 9, _ => exact hz
        ·intro i hi o ho a wx Hb Hd hG K HK
         match i, hi with
         | 0, _ =>
          obtain rfl := Option.some.inj ho
          have e1 : a.tmps[1]?.getD undef = .pointer (some ⟨w.heap.size, 0, none⟩) := by rw [Hb.out.2.2 1 (by decide)]; rfl
          clear Hd Hb
          refine Does.of rfl ?_
          go_simp
          exact HK.out _ _ rfl (Below.refl _ _)
         | 1, _ =>
          obtain rfl := Option.some.inj ho
          have d0 := Hd.out 0 (by kernel_rfl)
          change (a.tmps[104]?.getD undef) = .pointer (some ⟨w.heap.size, 0, none⟩) at d0
          clear Hd Hb
          have m0 := (hG.cell (p := ⟨w.heap.size, 0, none⟩) hlr).trans y0
          refine Does.of rfl ?_
          go_simp
          exact HK.out _ _ rfl (Below.refl _ _)
         | 2, _ =>
          obtain rfl := Option.some.inj ho
          have d1 := Hd.out 1 (by kernel_rfl)
          change (a.tmps[105]?.getD undef) = .pointer (some ⟨g, 0, none⟩) at d1
          clear Hd Hb
          refine Does.of rfl ?_
          go_simp
          exact HK.out _ _ rfl (Below.refl _ _)
         | 3, _ =>
          obtain rfl := Option.some.inj ho
          have d2 := Hd.out 2 (by kernel_rfl)
          change (a.tmps[106]?.getD undef) = .pointer (some ⟨g, 0, none⟩) at d2
          clear Hd Hb
          refine Does.of rfl ?_
          go_simp
          exact HK.out _ _ rfl (Below.refl _ _)
         | 4, _ =>
          obtain rfl := Option.some.inj ho
          have d3 := Hd.out 3 (by kernel_rfl)
          change (a.tmps[107]?.getD undef) = .pointer (some ⟨g, 0, none⟩) at d3
          clear Hd Hb
          have m0 := (hG.cell (p := ⟨g, 0, none⟩) hgr).trans x0
          refine Does.of rfl ?_
          go_simp
          exact HK.out _ _ rfl (Below.refl _ _)
         | 5, _ =>
          obtain rfl := Option.some.inj ho
          have e13 : a.tmps[13]?.getD undef = .pointer (some ⟨qe, 0, none⟩) := by rw [Hb.out.2.2 13 (by decide)]; rfl
          clear Hd Hb
          refine Does.of rfl ?_
          go_simp
          exact HK.out _ _ rfl (Below.refl _ _)
         | 6, _ =>
          obtain rfl := Option.some.inj ho
          have d5 := Hd.out 5 (by kernel_rfl)
          change (a.tmps[109]?.getD undef) = .pointer (some ⟨qe, 1, none⟩) at d5
          clear Hd Hb
          have m0 := (hG.cell (p := ⟨qe, 1, none⟩) hqr).trans n1
          refine Does.of rfl ?_
          go_simp
          exact HK.out _ _ rfl (Below.refl _ _)
         | 7, _ =>
          obtain rfl := Option.some.inj ho
          have d4 := Hd.out 4 (by kernel_rfl)
          change (a.tmps[108]?.getD undef) = .slice (some ⟨gm, 0, none⟩) 12 capm at d4
          have d6 := Hd.out 6 (by kernel_rfl)
          change (a.tmps[110]?.getD undef) = .int .i64 ((envAt k.envs j).root) at d6
          clear Hd Hb
          refine Does.of rfl ?_
          go_simp
          refine (CX.out _ hG).mono ?_; rintro e w_ ⟨v', ts', rfl, hO, hmem, _, hb2⟩
          exact HK.out _ _ ⟨ts', own_loV hO (Nat.le_trans hG0.size hG.size), hmem⟩ hb2
         | 8, _ =>
          obtain rfl := Option.some.inj ho
          have e3 : a.tmps[3]?.getD undef = .int .i64 ((an : Int)) := by rw [Hb.out.2.2 3 (by decide)]; rfl
          clear Hd Hb
          refine Does.of rfl ?_
          go_simp
          exact HK.out _ _ rfl (Below.refl _ _)
         | 9, _ =>
          obtain rfl := Option.some.inj ho
          have d7 := Hd.out 7 (by kernel_rfl)
          change ReachIn wr.heap.size k.mem (envAt k.envs j).root wx (a.tmps[111]?.getD undef) at d7
          have d8 := Hd.out 8 (by kernel_rfl)
          change (a.tmps[112]?.getD undef) = .int .i64 ((an : Int)) at d8
          clear Hd Hb
          generalize e111 : a.tmps[111]?.getD undef = v2 at d7
          obtain ⟨ts', hO, hmem⟩ := d7
          have CC := same_below (ContainsInts_any v2 ts' (an : Int) wx (OwnInts.rd hO))
          rw [contains_ints hmem, Hbu.out] at CC
          refine Does.of rfl ?_
          go_simp
          refine CC.mono ?_; rintro e w_ ⟨rfl, hb2⟩
          exact HK.out _ _ rfl hb2
        ·intro vs wx hR hG
         have q9 := hR 9 (by decide)
         change (vs 9) = .bool false at q9
         clear hR
         simp only [fillAt, dstOf, List.range, List.range.loop, List.foldl_cons, List.foldl_nil, q9]
         simp
         try generalize vs 0 = z0
         try generalize vs 1 = z1
         try generalize vs 2 = z2
         try generalize vs 3 = z3
         try generalize vs 4 = z4
         try generalize vs 5 = z5
         try generalize vs 6 = z6
         try generalize vs 7 = z7
         try generalize vs 8 = z8
         clear q9
         have hbx := hG0.trans (hG.mono hG0.size)
         have HOx := Lib.hid (HO.out.below hbx)
         have Hbx := Lib.hid (Hbel.out.trans (hbx.mono Hbel.out.size))
         clear hG hbx y0 x0 x1 n0 n1 hG0 RM RIn R7
         go_wp2_with fail
         go_roundw
         case rel => exact ⟨j + 1, by omega, by go_num, by rw [HU.out]; exact HOx.out, Hbx.out, by rw [HU.out]; exact Hall.out⟩
         case measure => simp [intOf]; omega
       ·have Hbu : Hid ((reachL k.mem (envAt k.envs j).root).contains an = true) := Lib.hid hbu
        have HU := Lib.hid (usersTo_yes hbu)
        have hju : j ∈ usersP k an := by rw [← users_three]; exact List.mem_filter.2 ⟨List.mem_range.2 hlt, hbu⟩
        clear hbu hqe
        refine wp_region_grow 10 Tryz.mixed (by kernel_rfl) 188 rfl (by kernel_rfl) (fun ix vv ww => match ix with
         | 0 => vv = .pointer (some ⟨w.heap.size, 0, none⟩)
         | 1 => vv = .pointer (some ⟨g, 0, none⟩)
         | 2 => vv = .pointer (some ⟨g, 0, none⟩)
         | 3 => vv = .pointer (some ⟨g, 0, none⟩)
         | 4 => vv = .slice (some ⟨gm, 0, none⟩) 12 capm
         | 5 => vv = .pointer (some ⟨qe, 1, none⟩)
         | 6 => vv = .int .i64 ((envAt k.envs j).root)
         | 7 => ReachIn wr.heap.size k.mem (envAt k.envs j).root ww vv
         | 8 => vv = .int .i64 ((an : Int))
         | 9 => vv = .bool true
         | _ => True) ?_ ?_ ?_
        ·intro i hi vv wz ww' hbz hz
         match i, hi with
         | 0, _ => exact hz
         | 1, _ => exact hz
         | 2, _ => exact hz
         | 3, _ => exact hz
         | 4, _ => exact hz
         | 5, _ => exact hz
         | 6, _ => exact hz
         | 7, _ => exact (ReachIn.below hz hbz)
         | 8, _ => exact hz
         | 9, _ => exact hz
        ·intro i hi o ho a wx Hb Hd hG K HK
         match i, hi with
         | 0, _ =>
          obtain rfl := Option.some.inj ho
          have e1 : a.tmps[1]?.getD undef = .pointer (some ⟨w.heap.size, 0, none⟩) := by rw [Hb.out.2.2 1 (by decide)]; rfl
          clear Hd Hb
          refine Does.of rfl ?_
          go_simp
          exact HK.out _ _ rfl (Below.refl _ _)
         | 1, _ =>
          obtain rfl := Option.some.inj ho
          have d0 := Hd.out 0 (by kernel_rfl)
          change (a.tmps[104]?.getD undef) = .pointer (some ⟨w.heap.size, 0, none⟩) at d0
          clear Hd Hb
          have m0 := (hG.cell (p := ⟨w.heap.size, 0, none⟩) hlr).trans y0
          refine Does.of rfl ?_
          go_simp
          exact HK.out _ _ rfl (Below.refl _ _)
         | 2, _ =>
          obtain rfl := Option.some.inj ho
          have d1 := Hd.out 1 (by kernel_rfl)
          change (a.tmps[105]?.getD undef) = .pointer (some ⟨g, 0, none⟩) at d1
          clear Hd Hb
          refine Does.of rfl ?_
          go_simp
          exact HK.out _ _ rfl (Below.refl _ _)
         | 3, _ =>
          obtain rfl := Option.some.inj ho
          have d2 := Hd.out 2 (by kernel_rfl)
          change (a.tmps[106]?.getD undef) = .pointer (some ⟨g, 0, none⟩) at d2
          clear Hd Hb
          refine Does.of rfl ?_
          go_simp
          exact HK.out _ _ rfl (Below.refl _ _)
         | 4, _ =>
          obtain rfl := Option.some.inj ho
          have d3 := Hd.out 3 (by kernel_rfl)
          change (a.tmps[107]?.getD undef) = .pointer (some ⟨g, 0, none⟩) at d3
          clear Hd Hb
          have m0 := (hG.cell (p := ⟨g, 0, none⟩) hgr).trans x0
          refine Does.of rfl ?_
          go_simp
          exact HK.out _ _ rfl (Below.refl _ _)
         | 5, _ =>
          obtain rfl := Option.some.inj ho
          have e13 : a.tmps[13]?.getD undef = .pointer (some ⟨qe, 0, none⟩) := by rw [Hb.out.2.2 13 (by decide)]; rfl
          clear Hd Hb
          refine Does.of rfl ?_
          go_simp
          exact HK.out _ _ rfl (Below.refl _ _)
         | 6, _ =>
          obtain rfl := Option.some.inj ho
          have d5 := Hd.out 5 (by kernel_rfl)
          change (a.tmps[109]?.getD undef) = .pointer (some ⟨qe, 1, none⟩) at d5
          clear Hd Hb
          have m0 := (hG.cell (p := ⟨qe, 1, none⟩) hqr).trans n1
          refine Does.of rfl ?_
          go_simp
          exact HK.out _ _ rfl (Below.refl _ _)
         | 7, _ =>
          obtain rfl := Option.some.inj ho
          have d4 := Hd.out 4 (by kernel_rfl)
          change (a.tmps[108]?.getD undef) = .slice (some ⟨gm, 0, none⟩) 12 capm at d4
          have d6 := Hd.out 6 (by kernel_rfl)
          change (a.tmps[110]?.getD undef) = .int .i64 ((envAt k.envs j).root) at d6
          clear Hd Hb
          refine Does.of rfl ?_
          go_simp
          refine (CX.out _ hG).mono ?_; rintro e w_ ⟨v', ts', rfl, hO, hmem, _, hb2⟩
          exact HK.out _ _ ⟨ts', own_loV hO (Nat.le_trans hG0.size hG.size), hmem⟩ hb2
         | 8, _ =>
          obtain rfl := Option.some.inj ho
          have e3 : a.tmps[3]?.getD undef = .int .i64 ((an : Int)) := by rw [Hb.out.2.2 3 (by decide)]; rfl
          clear Hd Hb
          refine Does.of rfl ?_
          go_simp
          exact HK.out _ _ rfl (Below.refl _ _)
         | 9, _ =>
          obtain rfl := Option.some.inj ho
          have d7 := Hd.out 7 (by kernel_rfl)
          change ReachIn wr.heap.size k.mem (envAt k.envs j).root wx (a.tmps[111]?.getD undef) at d7
          have d8 := Hd.out 8 (by kernel_rfl)
          change (a.tmps[112]?.getD undef) = .int .i64 ((an : Int)) at d8
          clear Hd Hb
          generalize e111 : a.tmps[111]?.getD undef = v2 at d7
          obtain ⟨ts', hO, hmem⟩ := d7
          have CC := same_below (ContainsInts_any v2 ts' (an : Int) wx (OwnInts.rd hO))
          rw [contains_ints hmem, Hbu.out] at CC
          refine Does.of rfl ?_
          go_simp
          refine CC.mono ?_; rintro e w_ ⟨rfl, hb2⟩
          exact HK.out _ _ rfl hb2
        ·intro vs wx hR hG
         have q9 := hR 9 (by decide)
         change (vs 9) = .bool true at q9
         clear hR
         simp only [fillAt, dstOf, List.range, List.range.loop, List.foldl_cons, List.foldl_nil, q9]
         simp
         try generalize vs 0 = z0
         try generalize vs 1 = z1
         try generalize vs 2 = z2
         try generalize vs 3 = z3
         try generalize vs 4 = z4
         try generalize vs 5 = z5
         try generalize vs 6 = z6
         try generalize vs 7 = z7
         try generalize vs 8 = z8
         clear q9
         have hbx := hG0.trans (hG.mono hG0.size)
         have HOx := HO.out.below hbx
         have Hbx := Lib.hid (Hbel.out.trans (hbx.mono Hbel.out.size))
         have b1 := below1 wx (.cells #[.int .i64 (j : Int)] 3)
         have O1 := Lib.hid (show (wx.alloc (.cells #[.int .i64 (j : Int)] 3)).ownsRow W5.heap.size 3 1 (.slice a11 (usersTo k an j).length c11) (usersTo k an j).length ((ints (usersTo k an j)).map (Value.int .i64)) by have := HOx.below b1; unfold OwnInts at this; rwa [ints_len] at this)
         have L1 := Lib.hid (show Rd (wx.alloc (.cells #[.int .i64 (j : Int)] 3)) (.slice (some ⟨wx.heap.size, 0, none⟩) 1 1) 1 1 ((ints [j]).map (Value.int .i64)) from OwnInts.rd (own_lit1 wx (j : Int)))
         have s5 := Hbx.out.size
         have hnb := Lib.hid (show ∀ b, (Value.slice a11 (usersTo k an j).length c11).ownBlock = some b → W5.heap.size ≤ b from fun b hb => (World.ownsRow.lt HO.out b hb).1)
         have S8 := Lib.hid ((S7.out.below hG).below b1)
         have HNE8 := Lib.hid (blk_below (blk_below HNE.out hG) b1)
         have Rx := Lib.hid (RdF.below (RdF.below R7 hG) b1)
         have hOa := Lib.hid HOx
         have HB8 := Lib.hid (Hbx.out.trans (b1.mono s5))
         clear hG hbx y0 x0 x1 n0 n1 hG0 RM RIn R7 HOx b1
         go_wp2_with (at_builtin; go_must (refine wp_append (lo := W5.heap.size) (v := .slice a11 (usersTo k an j).length c11) (n := (usersTo k an j).length) (xs := (ints (usersTo k an j)).map (Value.int .i64)) (m := 1) (news := (ints [j]).map (Value.int .i64)) rfl rfl 3 (.int .i64 0) 1 8 Tryz.underlying38 Tryz.infoInt rfl (by decide) rfl O1.out rfl L1.out mem_ints (by unfold maxLen; omega) (by omega) (by simp; omega) ?_; intro o11 W9 k1_ k2_ k3_; have y0 := (grown_cell (o := 0) k2_ S8.out.lts.1 (own_row_ne O1.out S8.out.blk (by decide))).trans S8.out.ys.1; have n0 := (grown_cell (o := 0) k2_ (blk_lt HNE8.out) (own_row_ne O1.out HNE8.out (by decide))).trans (cell_of_row _ _ 0 _ _ _ HNE8.out)))
         have HB9 := Lib.hid (HB8.out.trans k3_)
         have S9 := Lib.hid (S5.out.below HB9.out)
         have O9 := Lib.hid (app_ints (a := usersTo k an j) (b := [j]) k1_)
         have CAl := allowed_any g _ (.slice none 0 0) _ (envAt k.envs j).rights ts k.infos W9 S9.out.xs.2.1 (RdF.below HR5.out HB9.out) (RdF.below S5.out.ink.2.2.2.1.rd HB9.out) (RdInts.below (OwnInts.rd N10.out) HB9.out) (fun g hg => by rw [HK.out.len]; exact Ht.out g hg)
         rw [allowed_mem Hm.out] at CAl
         clear y0 n0 k1_ k2_ k3_ O1 L1
         cases hal : allowedP k.infos (neededP k c1) (envAt k.envs j).rights
         ·have Hal := Lib.hid hal
          have E := Lib.hid (show setP k ⟨k1, (en : Int), (an : Int), (bn : Int), c1, nm⟩ = (k, 0, 1) by rw [HP2.out, if_pos (List.all_eq_false.2 ⟨j, hju, by rw [hal]; decide⟩)])
          rw [hal] at CAl
          clear hal
          refine CAl.mono ?_; rintro r w10 ⟨rfl, hb10⟩
          go_wp2_with fail
          go_ret
          exact Ends1.bad E.out (by decide) (S9.out.below hb10).bel
         ·have Hal := Lib.hid hal
          rw [hal] at CAl
          clear hal
          refine CAl.mono ?_; rintro r w10 ⟨rfl, hb10⟩
          have O10 := Lib.hid (O9.out.below hb10)
          have H10 := Lib.hid (HB9.out.trans (hb10.mono HB9.out.size))
          clear hb10
          go_wp2_with fail
          go_roundw
          case rel => exact ⟨j + 1, by omega, by go_num, by rw [HU.out]; exact O10.out, H10.out, fun e he => by
           rw [HU.out, List.mem_append, List.mem_singleton] at he
           rcases he with he | rfl
           ·exact Hall.out e he
           ·exact Hal.out⟩
          case measure => simp [intOf]; omega
      ·obtain rfl : j = 3 := by omega
       rw [users_three] at HO Hall ⊢
       obtain ⟨us, hus⟩ : ∃ us, us = usersP k an := ⟨_, rfl⟩
       have husl : us.length ≤ 3 := by rw [hus, ← users_three]; exact usersTo_len
       rw [← hus] at HO Hall ⊢
       have HP3 := Lib.hid (show setP k ⟨k1, (en : Int), (an : Int), (bn : Int), c1, nm⟩ = _ by rw [HP2.out, if_neg (by rw [Bool.not_eq_false, List.all_eq_true, ← hus]; exact Hall.out)])
       rw [← hus] at HP3
       clear hus hl6
       obtain ⟨W6, rfl⟩ : ∃ W6 : World, W6 = wr := ⟨_, rfl⟩
       go_wp2_with fail
       have HP4 := Lib.hid (show setP k ⟨k1, (en : Int), (an : Int), (bn : Int), c1, nm⟩ = _ by rw [HP3.out, if_neg (by rintro ⟨x, _⟩; rw [Hent.out] at x; cases x)])
       refine wp_region_quiet_below Tryz.mixed (by kernel_rfl) ?_
       repeat (go_big_quiet_step (fail))
       refine wpQuiet_nil ?_
       intro _ hw'
       obtain ⟨⟨dq, osq⟩, hw''⟩ := hw'
       subst hw''
       have bq := below_regrown W6 dq osq
       generalize Sort.grow (redrawn W6 dq) osq = wq at bq
       have S7 := Lib.hid (S6.out.below bq)
       obtain ⟨W7, rfl⟩ : ∃ W7 : World, W7 = wq := ⟨_, rfl⟩
       have HO7 := Lib.hid (HO.out.below bq)
       have hs5 := Nat.le_trans Hbel.out.size bq.size
       obtain ⟨y0, y1, y2, y3, y4, y5, y6⟩ := S7.out.ys
       obtain ⟨x0, _, _, _⟩ := S7.out.xs
       obtain ⟨gw, capw, Dw, hgw, hcw, Dj, fzw, ⟨⟨ngw1, ngw2⟩, ngw3, ngw4⟩, _, hT, SW⟩ := S7.out.mrow (kok_parts HK.out).1 (f := an) han
       have Dv := Dj bn hb4
       have fz := fzw bn
       have S8 := Lib.hid (SW bn c1 hb4)
       have hb4i : (bn : Int) < 4 := by omega
       have how := Lib.hid (HK.out.word (f := an) (i := bn) han hb4)
       have hgw5 : gw < W5.heap.size := by
        obtain ⟨gw', capw', Dw', hgw', _⟩ := S5.out.mrow (kok_parts HK.out).1 (f := an) han
        have := ((Hbel.out.trans (bq.mono Hbel.out.size)).cell (World.block_lt_of_cell? _ _ Dw')).trans Dw'
        rw [Dw] at this
        simp at this
        rw [this.1]; exact hgw'
       have HO8 := Lib.hid (show OwnInts W5.heap.size (W7.setCell ⟨gw, bn, none⟩ (.int .i64 c1)) (.slice a11 us.length c11) (ints us) from own_grown HO7.out (grown_set _ _ _ _) (by
        rcases hv : (Value.slice a11 us.length c11).ownBlock with _ | b
        ·exact .inl rfl
        ·refine .inr fun e => ?_
         cases e
         have := (World.ownsRow.lt HO7.out gw hv).1
         omega))
       clear bq Dj fzw SW hT
       go_wp2_with fail
       clear y0 y1 y2 y3 y4 y5 y6 x0 Dw Dv fz
       generalize W7.setCell _ _ = W8 at *
       have CR := S8.out.refer (wdAt k.mem an bn) (-1) (by have := how.out.2; omega) HK.out.len (.inr rfl) ((small_refs (kok_parts HK.out).2.1).mono (by decide))
       simp only [CallV.on, CallV.onCells] at CR
       refine CR.mono ?_; rintro r w9 ⟨rfl, S9, hg9⟩
       have S9 := Lib.hid S9
       have hgi5 := S5.out.gi_lt
       have HO9 := Lib.hid (show OwnInts W5.heap.size w9 (.slice a11 us.length c11) (ints us) from own_grown HO8.out hg9 (by
        rcases hv : (Value.slice a11 us.length c11).ownBlock with _ | b
        ·exact .inl rfl
        ·refine .inr fun e => ?_
         cases e
         have := (World.ownsRow.lt HO8.out gi hv).1
         omega))
       clear hg9 CR
       obtain ⟨y0, y1, y2, y3, y4, y5, y6⟩ := S9.out.ys
       go_wp2_with fail
       clear y0 y1 y2 y3 y4 y5 y6
       have CR := S9.out.refer c1 1 hcc (by simp only [refer1_len]; exact HK.out.len) (.inl rfl) (SmallR.mono (SmallR.refer (small_refs (kok_parts HK.out).2.1) HK.out.len (.inr rfl)) (by decide))
       simp only [CallV.on, CallV.onCells] at CR
       refine CR.mono ?_; rintro r w10 ⟨rfl, S10, hg10⟩
       have S10 := Lib.hid S10
       have HO10 := Lib.hid (show OwnInts W5.heap.size w10 (.slice a11 us.length c11) (ints us) from own_grown HO9.out hg10 (by
        rcases hv : (Value.slice a11 us.length c11).ownBlock with _ | b
        ·exact .inl rfl
        ·refine .inr fun e => ?_
         cases e
         have := (World.ownsRow.lt HO9.out gi hv).1
         omega))
       have hg5 := S5.out.lts.2.1
       clear hg10 CR
       go_wp2_with fail
       go_loopw [172] (fun s172 wr => ∃ j : Nat, j ≤ us.length ∧ s172 = .int .i64 j ∧ OwnInts W5.heap.size wr (.slice a11 us.length c11) (ints us) ∧ ∃ c', CS lo g w.heap.size ⟨k1, (en : Int), (an : Int), (bn : Int), c1, nm⟩ w wr (.slice (some ⟨gm, 0, none⟩) 12 capm) (.slice (some ⟨gi, 0, none⟩) 12 capi) (.slice (some ⟨ge, 0, none⟩) 3 cap) c' { k with mem := setWd k.mem an bn c1, infos := refer1 (refer1 k.infos (wdAt k.mem an bn) (-1)) c1 1, cache := dropsC (us.take j) k.cache }) (fun s172 _ => us.length - (intOf s172).toNat)
       case atStart => exact ⟨0, Nat.zero_le _, rfl, HO10.out, c, S10.out⟩
       case round =>
        obtain ⟨j, hj, rfl, hO, c', hS⟩ := hrel
        have HOr := Lib.hid hO
        have S := Lib.hid hS
        clear hS
        by_cases hlt : j < us.length
        ·obtain ⟨ax, cx, hvx, _, _, H0⟩ := hO.rd.open
         rw [ints_len] at hvx
         simp only [Value.slice.injEq] at hvx
         obtain ⟨rfl, _, rfl⟩ := hvx
         obtain ⟨bx, offx, rfl, DX⟩ := H0.at (k := j) (by rw [ints_len]; exact hlt)
         rw [nth_ints hlt] at DX
         obtain ⟨un, hun⟩ : ∃ u, u = us.getD j 0 := ⟨_, rfl⟩
         rw [← hun] at DX
         have HUN := Lib.hid hun
         obtain ⟨cc, hcc'⟩ : ∃ cc, cc = dropsC (us.take j) k.cache := ⟨_, rfl⟩
         have HCC := Lib.hid hcc'
         clear hun
         have hjl : (j : Int) < us.length := by omega
         obtain ⟨y0, _, _, _, _, _, _⟩ := S.out.ys
         obtain ⟨_, _, _, x3⟩ := S.out.xs
         obtain ⟨hlr, hgr, ngb, nbg⟩ := S.out.lts
         have RC : RdCache wr c' cc := by rw [hcc']; exact S.out.ink.2.2.2.2.2.rd
         clear hcc'
         have CD := Lib.hid (fun W (hW : Below wr.heap.size wr W) => CacheDrop_any c' cc (un : Int) W (RdF.below RC hW) (by rw [HCC.out]; exact dropsC_ok _ (kok_parts HK.out).2.2))
         clear RC H0 hO
         go_wp2_with fail
         clear DX
         refine wp_region_grow 11 Tryz.mixed (by kernel_rfl) 188 rfl (by kernel_rfl) (fun ix vv ww => match ix with
          | 0 => vv = .pointer (some ⟨w.heap.size, 0, none⟩)
          | 1 => vv = .pointer (some ⟨g, 0, none⟩)
          | 2 => vv = .pointer (some ⟨w.heap.size, 0, none⟩)
          | 3 => vv = .pointer (some ⟨g, 0, none⟩)
          | 4 => vv = .pointer (some ⟨g, 0, none⟩)
          | 5 => vv = .pointer (some ⟨g, 3, none⟩)
          | 6 => vv = c'
          | 7 => vv = .int .i64 ((un : Int))
          | 8 => OwnF wr.heap.size 94 4 cachedCs ww vv (dropC cc (un : Int))
          | 9 => vv = .pointer (some ⟨g, 0, none⟩)
          | 10 => vv = .pointer (some ⟨g, 3, none⟩)
          | _ => True) ?_ ?_ ?_
         ·intro i hi vv wz ww' hbz hz
          match i, hi with
          | 0, _ => exact hz
          | 1, _ => exact hz
          | 2, _ => exact hz
          | 3, _ => exact hz
          | 4, _ => exact hz
          | 5, _ => exact hz
          | 6, _ => exact hz
          | 7, _ => exact hz
          | 8, _ => exact (OwnF.below hz hbz)
          | 9, _ => exact hz
          | 10, _ => exact hz
         ·intro i hi o ho a wx Hb Hd hG K HK
          match i, hi with
          | 0, _ =>
           obtain rfl := Option.some.inj ho
           have e1 : a.tmps[1]?.getD undef = .pointer (some ⟨w.heap.size, 0, none⟩) := by rw [Hb.out.2.2 1 (by decide)]; rfl
           clear Hd Hb
           refine Does.of rfl ?_
           go_simp
           exact HK.out _ _ rfl (Below.refl _ _)
          | 1, _ =>
           obtain rfl := Option.some.inj ho
           have d0 := Hd.out 0 (by kernel_rfl)
           change (a.tmps[176]?.getD undef) = .pointer (some ⟨w.heap.size, 0, none⟩) at d0
           clear Hd Hb
           have m0 := (hG.cell (p := ⟨w.heap.size, 0, none⟩) hlr).trans y0
           refine Does.of rfl ?_
           go_simp
           exact HK.out _ _ rfl (Below.refl _ _)
          | 2, _ =>
           obtain rfl := Option.some.inj ho
           have e1 : a.tmps[1]?.getD undef = .pointer (some ⟨w.heap.size, 0, none⟩) := by rw [Hb.out.2.2 1 (by decide)]; rfl
           clear Hd Hb
           refine Does.of rfl ?_
           go_simp
           exact HK.out _ _ rfl (Below.refl _ _)
          | 3, _ =>
           obtain rfl := Option.some.inj ho
           have d2 := Hd.out 2 (by kernel_rfl)
           change (a.tmps[178]?.getD undef) = .pointer (some ⟨w.heap.size, 0, none⟩) at d2
           clear Hd Hb
           have m0 := (hG.cell (p := ⟨w.heap.size, 0, none⟩) hlr).trans y0
           refine Does.of rfl ?_
           go_simp
           exact HK.out _ _ rfl (Below.refl _ _)
          | 4, _ =>
           obtain rfl := Option.some.inj ho
           have d3 := Hd.out 3 (by kernel_rfl)
           change (a.tmps[179]?.getD undef) = .pointer (some ⟨g, 0, none⟩) at d3
           clear Hd Hb
           refine Does.of rfl ?_
           go_simp
           exact HK.out _ _ rfl (Below.refl _ _)
          | 5, _ =>
           obtain rfl := Option.some.inj ho
           have d4 := Hd.out 4 (by kernel_rfl)
           change (a.tmps[180]?.getD undef) = .pointer (some ⟨g, 0, none⟩) at d4
           clear Hd Hb
           refine Does.of rfl ?_
           go_simp
           exact HK.out _ _ rfl (Below.refl _ _)
          | 6, _ =>
           obtain rfl := Option.some.inj ho
           have d5 := Hd.out 5 (by kernel_rfl)
           change (a.tmps[181]?.getD undef) = .pointer (some ⟨g, 3, none⟩) at d5
           clear Hd Hb
           have m0 := (hG.cell (p := ⟨g, 3, none⟩) hgr).trans x3
           refine Does.of rfl ?_
           go_simp
           exact HK.out _ _ rfl (Below.refl _ _)
          | 7, _ =>
           obtain rfl := Option.some.inj ho
           have e16 : a.tmps[16]?.getD undef = .int .i64 ((un : Int)) := by rw [Hb.out.2.2 16 (by decide)]; rfl
           clear Hd Hb
           refine Does.of rfl ?_
           go_simp
           exact HK.out _ _ rfl (Below.refl _ _)
          | 8, _ =>
           obtain rfl := Option.some.inj ho
           have d6 := Hd.out 6 (by kernel_rfl)
           change (a.tmps[182]?.getD undef) = c' at d6
           have d7 := Hd.out 7 (by kernel_rfl)
           change (a.tmps[183]?.getD undef) = .int .i64 ((un : Int)) at d7
           clear Hd Hb
           refine Does.of rfl ?_
           go_simp
           refine (CD.out _ hG).mono ?_; rintro e w_ ⟨v', rfl, hO, hb2⟩
           exact HK.out _ _ (hO.lower hG.size) hb2
          | 9, _ =>
           obtain rfl := Option.some.inj ho
           have d1 := Hd.out 1 (by kernel_rfl)
           change (a.tmps[177]?.getD undef) = .pointer (some ⟨g, 0, none⟩) at d1
           clear Hd Hb
           refine Does.of rfl ?_
           go_simp
           exact HK.out _ _ rfl (Below.refl _ _)
          | 10, _ =>
           obtain rfl := Option.some.inj ho
           have d9 := Hd.out 9 (by kernel_rfl)
           change (a.tmps[185]?.getD undef) = .pointer (some ⟨g, 0, none⟩) at d9
           clear Hd Hb
           refine Does.of rfl ?_
           go_simp
           exact HK.out _ _ rfl (Below.refl _ _)
         ·intro vs wx hR hG
          have q1 := hR 1 (by decide)
          change (vs 1) = .pointer (some ⟨g, 0, none⟩) at q1
          have q8 := hR 8 (by decide)
          change OwnF wr.heap.size 94 4 cachedCs wx (vs 8) (dropC cc (un : Int)) at q8
          have q9 := hR 9 (by decide)
          change (vs 9) = .pointer (some ⟨g, 0, none⟩) at q9
          have q10 := hR 10 (by decide)
          change (vs 10) = .pointer (some ⟨g, 3, none⟩) at q10
          clear hR
          simp only [fillAt, dstOf, List.range, List.range.loop, List.foldl_cons, List.foldl_nil, q1, q9, q10]
          simp
          try generalize vs 0 = z0
          try generalize vs 2 = z2
          try generalize vs 3 = z3
          try generalize vs 4 = z4
          try generalize vs 5 = z5
          try generalize vs 6 = z6
          try generalize vs 7 = z7
          generalize vs 8 = z8 at q8 ⊢
          clear q1 q9 q10
          rw [HCC.out, HUN.out, ← dropsC_take hlt] at q8
          have S8 := Lib.hid (S.out.cache hG q8)
          have HOn := Lib.hid (own_keepI (j := 3) (u := z8) (OwnInts.below HOr.out hG) hg5)
          have fzg := blk_frozen (S.out.below hG).ink.1
          have x3w := (S.out.below hG).xs.2.2.2
          obtain ⟨_, _, rfl, _, _⟩ := q8.rd.shape
          clear q8 hG y0 x3
          go_wp2_with fail
          go_roundw
          case rel => exact ⟨j + 1, by omega, by go_num, HOn.out, _, S8.out⟩
          case measure => simp [intOf]; omega
        ·obtain rfl : j = us.length := by omega
         rw [List.take_length] at S
         have HE := Lib.hid (show setP k ⟨k1, (en : Int), (an : Int), (bn : Int), c1, nm⟩ = ({ k with mem := setWd k.mem an bn c1, infos := refer1 (refer1 k.infos (wdAt k.mem an bn) (-1)) c1 1, cache := dropsC us k.cache }, 0, 0) from HP4.out)
         go_wp2_with fail
         go_ret
         exact ⟨by rw [HE.out] <;> rfl, fun _ => ⟨_, _, _, _, by rw [HE.out]; exact S.out.ink⟩, S.out.bel⟩
    ·have t0 : (c1 != 0) = true := by simp [h0]
     have E := Lib.hid (show setP k ⟨k1, (en : Int), (an : Int), b1, c1, nm⟩ = (k, 0, 3) by rw [HP.out, if_pos (.inr (.inr (by rw [hwf]; simp [h0])))])
     refine wp_region_quiet_below Tryz.mixed (by kernel_rfl) ?_
     repeat (go_big_quiet_step (first | exact cT _ _ | exact cP _ _ | exact cN _ _))
     refine wpQuiet_nil ?_
     intro _ hw'
     obtain ⟨⟨dq, osq⟩, hw''⟩ := hw'
     subst hw''
     have bq := below_regrown W2 dq osq
     generalize Sort.grow (redrawn W2 dq) osq = wq at bq
     go_wp2_with fail
     go_ret
     exact Ends1.bad E.out (by decide) (S2.out.below bq).bel
 ·have hF := entF_lt hg
  have V := Lib.hid (entV_yes hg)
  have Hent := Lib.hid hg
  have hwf : wordFits k ⟨k1, (en : Int), (an : Int), b1, c1, nm⟩ = decide ((infoAt k.infos (entF c1)).k = (infoAt k.infos an).k - 1) := by unfold wordFits; rw [hg]; rfl
  have h0 : c1 ≠ 0 := by rintro rfl; cases hg
  have t0 : (c1 != 0) = true := by simp [h0]
  have HN := Lib.hid (show neededP k c1 = entF c1 :: (if tabK (infoAt k.infos (entF c1)).k then named (rowAt k.mem (entF c1)) else []) by unfold neededP; rw [hg]; rfl)
  clear hg
  obtain ⟨f, hfe⟩ : ∃ f, f = entF c1 := ⟨_, rfl⟩
  have HF := Lib.hid hfe.symm
  rw [← hfe] at V HN hwf hF
  clear hfe
  obtain ⟨df0, _, _⟩ := S2.out.infoAt (f := f) (by rw [HK.out.len]; exact hF)
  have hfi : (f : Int) < 12 := by omega
  go_wp2_with (go_at_call 118; refine (CEn.out _).mono ?_; rintro e w' ⟨rfl, rfl⟩; rw [V.out])
  replace y0 := cell_regrown y0
  replace x1 := cell_regrown x1
  replace df0 := cell_regrown df0
  clear d0 x0
  cases ht : tabK (infoAt k.infos an).k
  ·rw [ht] at cT
   have E := Lib.hid (show setP k ⟨k1, (en : Int), (an : Int), b1, c1, nm⟩ = (k, 0, 3) by rw [HP.out, if_pos (.inl ht)])
   refine wp_region_quiet_below Tryz.mixed (by kernel_rfl) ?_
   repeat (go_big_quiet_step (first | exact cT _ _ | exact cP _ _ | exact cN _ _))
   refine wpQuiet_nil ?_
   intro _ hw'
   obtain ⟨⟨dq, osq⟩, hw''⟩ := hw'
   subst hw''
   have bq := below_regrown W2 dq osq
   generalize Sort.grow (redrawn W2 dq) osq = wq at bq
   go_wp2_with fail
   go_ret
   exact Ends1.bad E.out (by decide) (S2.out.below bq).bel
  ·rw [ht] at cT
   rw [needs_tab ht] at cN
   cases hb : inB b1 0 3
   ·rw [hb] at cP
    have E := Lib.hid (show setP k ⟨k1, (en : Int), (an : Int), b1, c1, nm⟩ = (k, 0, 3) by rw [HP.out, if_pos (.inr (.inl hb))])
    refine wp_region_quiet_below Tryz.mixed (by kernel_rfl) ?_
    repeat (go_big_quiet_step (first | exact cT _ _ | exact cP _ _ | exact cN _ _))
    refine wpQuiet_nil ?_
    intro _ hw'
    obtain ⟨⟨dq, osq⟩, hw''⟩ := hw'
    subst hw''
    have bq := below_regrown W2 dq osq
    generalize Sort.grow (redrawn W2 dq) osq = wq at bq
    go_wp2_with fail
    go_ret
    exact Ends1.bad E.out (by decide) (S2.out.below bq).bel
   ·rw [hb] at cP
    by_cases h0 : (infoAt k.infos f).k = (infoAt k.infos an).k - 1
    ·have t2 : ((infoAt k.infos f).k != (infoAt k.infos an).k - 1) = false := by simp [h0]
     have HP2 := Lib.hid (show setP k ⟨k1, (en : Int), (an : Int), b1, c1, nm⟩ = _ by rw [HP.out, if_neg (by rintro (x | x | x); (· rw [ht] at x; cases x); (· rw [hb] at x; cases x); (· rw [hwf, decide_eq_true h0] at x; cases x))])
     obtain ⟨bn, rfl⟩ : ∃ n : Nat, b1 = (n : Int) := ⟨b1.toNat, by have := (inB_iff.1 hb).1; omega⟩
     have hb4 : bn < 4 := by have := (inB_iff.1 hb).2; omega
     simp only [Int.toNat_natCast] at HP2
     have hf12 := hF
     clear hwf ht hb h0 hF
     refine wp_region_quiet_below Tryz.mixed (by kernel_rfl) ?_
     repeat (go_big_quiet_step (first | exact cT _ _ | exact cP _ _ | exact cN _ _))
     refine wpQuiet_nil ?_
     intro _ hw'
     obtain ⟨⟨dq, osq⟩, hw''⟩ := hw'
     subst hw''
     have bq := below_regrown W2 dq osq
     generalize Sort.grow (redrawn W2 dq) osq = wq at bq
     clear cT cP cN t0 t2 y0 x1 df0
     have S3 := Lib.hid (S2.out.below bq)
     obtain ⟨W3, rfl⟩ : ∃ W3 : World, W3 = wq := ⟨_, rfl⟩
     clear bq S2
     have b1_ := below1 W3 (.cells #[.int .i64 (f : Int)] 3)
     have O4 := Lib.hid (own_lit1 W3 (f : Int))
     have S4 := Lib.hid (S3.out.below b1_)
     have HB4 := Lib.hid b1_
     clear b1_
     obtain ⟨y0, _, _, _, _, _, _⟩ := S4.out.ys
     obtain ⟨x0, x1, _, _⟩ := S4.out.xs
     obtain ⟨df0, _, _⟩ := S4.out.infoAt (f := f) (by rw [HK.out.len]; exact hf12)
     have CT := Lib.hid (fun W => isTable_any (infoAt k.infos f).k W)
     go_wp2_with fail
     refine (CT.out _).mono ?_; rintro r w9 ⟨rfl, rfl⟩
     generalize W3.alloc _ = W4 at *
     cases htf : tabK (infoAt k.infos f).k
     ·have N10 : Hid (OwnInts W3.heap.size W4 (.slice (some ⟨W3.heap.size, 0, none⟩) 1 1) (ints [f])) := O4
      obtain ⟨ts, hts⟩ : ∃ ts : List Nat, ts = [f] := ⟨_, rfl⟩
      have Hm := Lib.hid (show ∀ g, g ∈ ts ↔ g ∈ neededP k c1 by rw [hts, HN.out, htf]; exact fun _ => Iff.rfl)
      have Ht := Lib.hid (show ∀ g, g ∈ ts → g < 12 by rw [hts]; intro g hg; rw [List.mem_singleton] at hg; omega)
      rw [← hts] at N10
      have S5 := S4
      obtain ⟨W5, rfl⟩ : ∃ W5 : World, W5 = W4 := ⟨_, rfl⟩
      clear hts htf O4 S4 x0 x1 y0 df0 CT
      obtain ⟨b3, hb3⟩ : ∃ b3, b3 = W3.heap.size := ⟨_, rfl⟩
      rw [← hb3] at N10 ⊢
      clear hb3
      obtain ⟨y0, _, _, _, _, _, _⟩ := S5.out.ys
      obtain ⟨_, _, x2, _⟩ := S5.out.xs
      go_wp2_with fail
      clear y0 x2
      go_loopw [11, 99] (fun s11 s99 wr => ∃ j : Nat, j ≤ 3 ∧ s99 = .int .i64 j ∧ OwnInts W5.heap.size wr s11 (ints (usersTo k an j)) ∧ Below W5.heap.size W5 wr ∧ ∀ e, e ∈ usersTo k an j → allowedP k.infos (neededP k c1) (envAt k.envs e).rights = true) (fun _ s99 _ => 3 - (intOf s99).toNat)
      case atStart => exact ⟨0, Nat.zero_le _, rfl, World.ownsRow_nil _ _ _ _, Below.refl _ _, fun e he => by cases he⟩
      case round =>
       obtain ⟨j, hj, rfl, hO, hbel, hall⟩ := hrel
       have Hall := Lib.hid hall
       clear hall
       have hl6 := usersTo_len (k := k) (a := an) (j := j)
       have S6 := Lib.hid (S5.out.below hbel)
       have HO := Lib.hid hO
       have Hbel := Lib.hid hbel
       obtain ⟨a11, c11, rfl, _, _, _⟩ := hO.rd.open
       rw [ints_len] at HO ⊢
       clear hO hbel
       by_cases hlt : j < 3
       ·obtain ⟨ua, uc, D05, D15, R5⟩ := S5.out.env (j := j) (by rw [HK.out.envl]; exact hlt)
        have D0 := (Hbel.out.cell (World.block_lt_of_cell? _ _ D05)).trans D05
        have D1 := (Hbel.out.cell (World.block_lt_of_cell? _ _ D15)).trans D15
        have R := RdF.below R5 Hbel.out
        have HR5 := Lib.hid R5
        clear D05 D15 R5
        have hbN := below1 wr (.cells #[.slice ua (envAt k.envs j).rights.length uc, .int .i64 (envAt k.envs j).root] 80)
        have NE := heap_alloc_new wr (.cells #[.slice ua (envAt k.envs j).rights.length uc, .int .i64 (envAt k.envs j).root] 80)
        have S7 := Lib.hid (S6.out.below hbN)
        have hlt3 : (j : Int) < 3 := by omega
        obtain ⟨y0, _, _, _, _, _, _⟩ := S7.out.ys
        obtain ⟨x0, x1, _, _⟩ := S7.out.xs
        obtain ⟨hlr, hgr, _, _⟩ := S7.out.lts
        have hm12 := root_lt HK.out hlt
        have RM := RdRows.below S6.out.ink.2.2.rd.1 hbN
        have RIn : RdInfos _ _ k.infos := S7.out.ink.2.2.2.1.rd
        have R7 := RdF.below R hbN
        have HNE := Lib.hid NE
        have hqr := blk_lt NE
        have n0 := cell_of_row _ _ 0 _ _ _ NE
        have n1 := cell_of_row _ _ 1 _ _ _ NE
        have HbN := Lib.hid hbN
        clear hbN NE R
        go_wp2_with fail
        clear D0 D1
        generalize wr.alloc _ = W7 at *
        obtain ⟨qe, hqe⟩ : ∃ q, q = wr.heap.size := ⟨_, rfl⟩
        rw [← hqe] at HNE hqr n0 n1 ⊢
        have CX := Lib.hid (fun W (hW : Below W7.heap.size W7 W) => reached_root _ k.mem (envAt k.envs j).root W (RM.below hW) (kok_parts HK.out).1 hm12)
        have hG0 := HbN.out
        cases hbu : (reachL k.mem (envAt k.envs j).root).contains an
        ·have Hbu : Hid ((reachL k.mem (envAt k.envs j).root).contains an = false) := Lib.hid hbu
         have HU := Lib.hid (usersTo_no hbu)
         clear hbu hqe
         refine wp_region_grow 10 Tryz.mixed (by kernel_rfl) 188 rfl (by kernel_rfl) (fun ix vv ww => match ix with
          | 0 => vv = .pointer (some ⟨w.heap.size, 0, none⟩)
          | 1 => vv = .pointer (some ⟨g, 0, none⟩)
          | 2 => vv = .pointer (some ⟨g, 0, none⟩)
          | 3 => vv = .pointer (some ⟨g, 0, none⟩)
          | 4 => vv = .slice (some ⟨gm, 0, none⟩) 12 capm
          | 5 => vv = .pointer (some ⟨qe, 1, none⟩)
          | 6 => vv = .int .i64 ((envAt k.envs j).root)
          | 7 => ReachIn wr.heap.size k.mem (envAt k.envs j).root ww vv
          | 8 => vv = .int .i64 ((an : Int))
          | 9 => vv = .bool false
          | _ => True) ?_ ?_ ?_
         ·intro i hi vv wz ww' hbz hz
          match i, hi with
          | 0, _ => exact hz
          | 1, _ => exact hz
          | 2, _ => exact hz
          | 3, _ => exact hz
          | 4, _ => exact hz
          | 5, _ => exact hz
          | 6, _ => exact hz
          | 7, _ => exact (ReachIn.below hz hbz)
          | 8, _ => exact hz
          | 9, _ => exact hz
         ·intro i hi o ho a wx Hb Hd hG K HK
          match i, hi with
          | 0, _ =>
           obtain rfl := Option.some.inj ho
           have e1 : a.tmps[1]?.getD undef = .pointer (some ⟨w.heap.size, 0, none⟩) := by rw [Hb.out.2.2 1 (by decide)]; rfl
           clear Hd Hb
           refine Does.of rfl ?_
           go_simp
           exact HK.out _ _ rfl (Below.refl _ _)
          | 1, _ =>
           obtain rfl := Option.some.inj ho
           have d0 := Hd.out 0 (by kernel_rfl)
           change (a.tmps[104]?.getD undef) = .pointer (some ⟨w.heap.size, 0, none⟩) at d0
           clear Hd Hb
           have m0 := (hG.cell (p := ⟨w.heap.size, 0, none⟩) hlr).trans y0
           refine Does.of rfl ?_
           go_simp
           exact HK.out _ _ rfl (Below.refl _ _)
          | 2, _ =>
           obtain rfl := Option.some.inj ho
           have d1 := Hd.out 1 (by kernel_rfl)
           change (a.tmps[105]?.getD undef) = .pointer (some ⟨g, 0, none⟩) at d1
           clear Hd Hb
           refine Does.of rfl ?_
           go_simp
           exact HK.out _ _ rfl (Below.refl _ _)
          | 3, _ =>
           obtain rfl := Option.some.inj ho
           have d2 := Hd.out 2 (by kernel_rfl)
           change (a.tmps[106]?.getD undef) = .pointer (some ⟨g, 0, none⟩) at d2
           clear Hd Hb
           refine Does.of rfl ?_
           go_simp
           exact HK.out _ _ rfl (Below.refl _ _)
          | 4, _ =>
           obtain rfl := Option.some.inj ho
           have d3 := Hd.out 3 (by kernel_rfl)
           change (a.tmps[107]?.getD undef) = .pointer (some ⟨g, 0, none⟩) at d3
           clear Hd Hb
           have m0 := (hG.cell (p := ⟨g, 0, none⟩) hgr).trans x0
           refine Does.of rfl ?_
           go_simp
           exact HK.out _ _ rfl (Below.refl _ _)
          | 5, _ =>
           obtain rfl := Option.some.inj ho
           have e13 : a.tmps[13]?.getD undef = .pointer (some ⟨qe, 0, none⟩) := by rw [Hb.out.2.2 13 (by decide)]; rfl
           clear Hd Hb
           refine Does.of rfl ?_
           go_simp
           exact HK.out _ _ rfl (Below.refl _ _)
          | 6, _ =>
           obtain rfl := Option.some.inj ho
           have d5 := Hd.out 5 (by kernel_rfl)
           change (a.tmps[109]?.getD undef) = .pointer (some ⟨qe, 1, none⟩) at d5
           clear Hd Hb
           have m0 := (hG.cell (p := ⟨qe, 1, none⟩) hqr).trans n1
           refine Does.of rfl ?_
           go_simp
           exact HK.out _ _ rfl (Below.refl _ _)
          | 7, _ =>
           obtain rfl := Option.some.inj ho
           have d4 := Hd.out 4 (by kernel_rfl)
           change (a.tmps[108]?.getD undef) = .slice (some ⟨gm, 0, none⟩) 12 capm at d4
           have d6 := Hd.out 6 (by kernel_rfl)
           change (a.tmps[110]?.getD undef) = .int .i64 ((envAt k.envs j).root) at d6
           clear Hd Hb
           refine Does.of rfl ?_
           go_simp
           refine (CX.out _ hG).mono ?_; rintro e w_ ⟨v', ts', rfl, hO, hmem, _, hb2⟩
           exact HK.out _ _ ⟨ts', own_loV hO (Nat.le_trans hG0.size hG.size), hmem⟩ hb2
          | 8, _ =>
           obtain rfl := Option.some.inj ho
           have e3 : a.tmps[3]?.getD undef = .int .i64 ((an : Int)) := by rw [Hb.out.2.2 3 (by decide)]; rfl
           clear Hd Hb
           refine Does.of rfl ?_
           go_simp
           exact HK.out _ _ rfl (Below.refl _ _)
          | 9, _ =>
           obtain rfl := Option.some.inj ho
           have d7 := Hd.out 7 (by kernel_rfl)
           change ReachIn wr.heap.size k.mem (envAt k.envs j).root wx (a.tmps[111]?.getD undef) at d7
           have d8 := Hd.out 8 (by kernel_rfl)
           change (a.tmps[112]?.getD undef) = .int .i64 ((an : Int)) at d8
           clear Hd Hb
           generalize e111 : a.tmps[111]?.getD undef = v2 at d7
           obtain ⟨ts', hO, hmem⟩ := d7
           have CC := same_below (ContainsInts_any v2 ts' (an : Int) wx (OwnInts.rd hO))
           rw [contains_ints hmem, Hbu.out] at CC
           refine Does.of rfl ?_
           go_simp
           refine CC.mono ?_; rintro e w_ ⟨rfl, hb2⟩
           exact HK.out _ _ rfl hb2
         ·intro vs wx hR hG
          have q9 := hR 9 (by decide)
          change (vs 9) = .bool false at q9
          clear hR
          simp only [fillAt, dstOf, List.range, List.range.loop, List.foldl_cons, List.foldl_nil, q9]
          simp
          try generalize vs 0 = z0
          try generalize vs 1 = z1
          try generalize vs 2 = z2
          try generalize vs 3 = z3
          try generalize vs 4 = z4
          try generalize vs 5 = z5
          try generalize vs 6 = z6
          try generalize vs 7 = z7
          try generalize vs 8 = z8
          clear q9
          have hbx := hG0.trans (hG.mono hG0.size)
          have HOx := Lib.hid (HO.out.below hbx)
          have Hbx := Lib.hid (Hbel.out.trans (hbx.mono Hbel.out.size))
          clear hG hbx y0 x0 x1 n0 n1 hG0 RM RIn R7
          go_wp2_with fail
          go_roundw
          case rel => exact ⟨j + 1, by omega, by go_num, by rw [HU.out]; exact HOx.out, Hbx.out, by rw [HU.out]; exact Hall.out⟩
          case measure => simp [intOf]; omega
        ·have Hbu : Hid ((reachL k.mem (envAt k.envs j).root).contains an = true) := Lib.hid hbu
         have HU := Lib.hid (usersTo_yes hbu)
         have hju : j ∈ usersP k an := by rw [← users_three]; exact List.mem_filter.2 ⟨List.mem_range.2 hlt, hbu⟩
         clear hbu hqe
         refine wp_region_grow 10 Tryz.mixed (by kernel_rfl) 188 rfl (by kernel_rfl) (fun ix vv ww => match ix with
          | 0 => vv = .pointer (some ⟨w.heap.size, 0, none⟩)
          | 1 => vv = .pointer (some ⟨g, 0, none⟩)
          | 2 => vv = .pointer (some ⟨g, 0, none⟩)
          | 3 => vv = .pointer (some ⟨g, 0, none⟩)
          | 4 => vv = .slice (some ⟨gm, 0, none⟩) 12 capm
          | 5 => vv = .pointer (some ⟨qe, 1, none⟩)
          | 6 => vv = .int .i64 ((envAt k.envs j).root)
          | 7 => ReachIn wr.heap.size k.mem (envAt k.envs j).root ww vv
          | 8 => vv = .int .i64 ((an : Int))
          | 9 => vv = .bool true
          | _ => True) ?_ ?_ ?_
         ·intro i hi vv wz ww' hbz hz
          match i, hi with
          | 0, _ => exact hz
          | 1, _ => exact hz
          | 2, _ => exact hz
          | 3, _ => exact hz
          | 4, _ => exact hz
          | 5, _ => exact hz
          | 6, _ => exact hz
          | 7, _ => exact (ReachIn.below hz hbz)
          | 8, _ => exact hz
          | 9, _ => exact hz
         ·intro i hi o ho a wx Hb Hd hG K HK
          match i, hi with
          | 0, _ =>
           obtain rfl := Option.some.inj ho
           have e1 : a.tmps[1]?.getD undef = .pointer (some ⟨w.heap.size, 0, none⟩) := by rw [Hb.out.2.2 1 (by decide)]; rfl
           clear Hd Hb
           refine Does.of rfl ?_
           go_simp
           exact HK.out _ _ rfl (Below.refl _ _)
          | 1, _ =>
           obtain rfl := Option.some.inj ho
           have d0 := Hd.out 0 (by kernel_rfl)
           change (a.tmps[104]?.getD undef) = .pointer (some ⟨w.heap.size, 0, none⟩) at d0
           clear Hd Hb
           have m0 := (hG.cell (p := ⟨w.heap.size, 0, none⟩) hlr).trans y0
           refine Does.of rfl ?_
           go_simp
           exact HK.out _ _ rfl (Below.refl _ _)
          | 2, _ =>
           obtain rfl := Option.some.inj ho
           have d1 := Hd.out 1 (by kernel_rfl)
           change (a.tmps[105]?.getD undef) = .pointer (some ⟨g, 0, none⟩) at d1
           clear Hd Hb
           refine Does.of rfl ?_
           go_simp
           exact HK.out _ _ rfl (Below.refl _ _)
          | 3, _ =>
           obtain rfl := Option.some.inj ho
           have d2 := Hd.out 2 (by kernel_rfl)
           change (a.tmps[106]?.getD undef) = .pointer (some ⟨g, 0, none⟩) at d2
           clear Hd Hb
           refine Does.of rfl ?_
           go_simp
           exact HK.out _ _ rfl (Below.refl _ _)
          | 4, _ =>
           obtain rfl := Option.some.inj ho
           have d3 := Hd.out 3 (by kernel_rfl)
           change (a.tmps[107]?.getD undef) = .pointer (some ⟨g, 0, none⟩) at d3
           clear Hd Hb
           have m0 := (hG.cell (p := ⟨g, 0, none⟩) hgr).trans x0
           refine Does.of rfl ?_
           go_simp
           exact HK.out _ _ rfl (Below.refl _ _)
          | 5, _ =>
           obtain rfl := Option.some.inj ho
           have e13 : a.tmps[13]?.getD undef = .pointer (some ⟨qe, 0, none⟩) := by rw [Hb.out.2.2 13 (by decide)]; rfl
           clear Hd Hb
           refine Does.of rfl ?_
           go_simp
           exact HK.out _ _ rfl (Below.refl _ _)
          | 6, _ =>
           obtain rfl := Option.some.inj ho
           have d5 := Hd.out 5 (by kernel_rfl)
           change (a.tmps[109]?.getD undef) = .pointer (some ⟨qe, 1, none⟩) at d5
           clear Hd Hb
           have m0 := (hG.cell (p := ⟨qe, 1, none⟩) hqr).trans n1
           refine Does.of rfl ?_
           go_simp
           exact HK.out _ _ rfl (Below.refl _ _)
          | 7, _ =>
           obtain rfl := Option.some.inj ho
           have d4 := Hd.out 4 (by kernel_rfl)
           change (a.tmps[108]?.getD undef) = .slice (some ⟨gm, 0, none⟩) 12 capm at d4
           have d6 := Hd.out 6 (by kernel_rfl)
           change (a.tmps[110]?.getD undef) = .int .i64 ((envAt k.envs j).root) at d6
           clear Hd Hb
           refine Does.of rfl ?_
           go_simp
           refine (CX.out _ hG).mono ?_; rintro e w_ ⟨v', ts', rfl, hO, hmem, _, hb2⟩
           exact HK.out _ _ ⟨ts', own_loV hO (Nat.le_trans hG0.size hG.size), hmem⟩ hb2
          | 8, _ =>
           obtain rfl := Option.some.inj ho
           have e3 : a.tmps[3]?.getD undef = .int .i64 ((an : Int)) := by rw [Hb.out.2.2 3 (by decide)]; rfl
           clear Hd Hb
           refine Does.of rfl ?_
           go_simp
           exact HK.out _ _ rfl (Below.refl _ _)
          | 9, _ =>
           obtain rfl := Option.some.inj ho
           have d7 := Hd.out 7 (by kernel_rfl)
           change ReachIn wr.heap.size k.mem (envAt k.envs j).root wx (a.tmps[111]?.getD undef) at d7
           have d8 := Hd.out 8 (by kernel_rfl)
           change (a.tmps[112]?.getD undef) = .int .i64 ((an : Int)) at d8
           clear Hd Hb
           generalize e111 : a.tmps[111]?.getD undef = v2 at d7
           obtain ⟨ts', hO, hmem⟩ := d7
           have CC := same_below (ContainsInts_any v2 ts' (an : Int) wx (OwnInts.rd hO))
           rw [contains_ints hmem, Hbu.out] at CC
           refine Does.of rfl ?_
           go_simp
           refine CC.mono ?_; rintro e w_ ⟨rfl, hb2⟩
           exact HK.out _ _ rfl hb2
         ·intro vs wx hR hG
          have q9 := hR 9 (by decide)
          change (vs 9) = .bool true at q9
          clear hR
          simp only [fillAt, dstOf, List.range, List.range.loop, List.foldl_cons, List.foldl_nil, q9]
          simp
          try generalize vs 0 = z0
          try generalize vs 1 = z1
          try generalize vs 2 = z2
          try generalize vs 3 = z3
          try generalize vs 4 = z4
          try generalize vs 5 = z5
          try generalize vs 6 = z6
          try generalize vs 7 = z7
          try generalize vs 8 = z8
          clear q9
          have hbx := hG0.trans (hG.mono hG0.size)
          have HOx := HO.out.below hbx
          have Hbx := Lib.hid (Hbel.out.trans (hbx.mono Hbel.out.size))
          have b1 := below1 wx (.cells #[.int .i64 (j : Int)] 3)
          have O1 := Lib.hid (show (wx.alloc (.cells #[.int .i64 (j : Int)] 3)).ownsRow W5.heap.size 3 1 (.slice a11 (usersTo k an j).length c11) (usersTo k an j).length ((ints (usersTo k an j)).map (Value.int .i64)) by have := HOx.below b1; unfold OwnInts at this; rwa [ints_len] at this)
          have L1 := Lib.hid (show Rd (wx.alloc (.cells #[.int .i64 (j : Int)] 3)) (.slice (some ⟨wx.heap.size, 0, none⟩) 1 1) 1 1 ((ints [j]).map (Value.int .i64)) from OwnInts.rd (own_lit1 wx (j : Int)))
          have s5 := Hbx.out.size
          have hnb := Lib.hid (show ∀ b, (Value.slice a11 (usersTo k an j).length c11).ownBlock = some b → W5.heap.size ≤ b from fun b hb => (World.ownsRow.lt HO.out b hb).1)
          have S8 := Lib.hid ((S7.out.below hG).below b1)
          have HNE8 := Lib.hid (blk_below (blk_below HNE.out hG) b1)
          have Rx := Lib.hid (RdF.below (RdF.below R7 hG) b1)
          have hOa := Lib.hid HOx
          have HB8 := Lib.hid (Hbx.out.trans (b1.mono s5))
          clear hG hbx y0 x0 x1 n0 n1 hG0 RM RIn R7 HOx b1
          go_wp2_with (at_builtin; go_must (refine wp_append (lo := W5.heap.size) (v := .slice a11 (usersTo k an j).length c11) (n := (usersTo k an j).length) (xs := (ints (usersTo k an j)).map (Value.int .i64)) (m := 1) (news := (ints [j]).map (Value.int .i64)) rfl rfl 3 (.int .i64 0) 1 8 Tryz.underlying38 Tryz.infoInt rfl (by decide) rfl O1.out rfl L1.out mem_ints (by unfold maxLen; omega) (by omega) (by simp; omega) ?_; intro o11 W9 k1_ k2_ k3_; have y0 := (grown_cell (o := 0) k2_ S8.out.lts.1 (own_row_ne O1.out S8.out.blk (by decide))).trans S8.out.ys.1; have n0 := (grown_cell (o := 0) k2_ (blk_lt HNE8.out) (own_row_ne O1.out HNE8.out (by decide))).trans (cell_of_row _ _ 0 _ _ _ HNE8.out)))
          have HB9 := Lib.hid (HB8.out.trans k3_)
          have S9 := Lib.hid (S5.out.below HB9.out)
          have O9 := Lib.hid (app_ints (a := usersTo k an j) (b := [j]) k1_)
          have CAl := allowed_any g _ (.slice (some ⟨b3, 0, none⟩) 1 1) _ (envAt k.envs j).rights ts k.infos W9 S9.out.xs.2.1 (RdF.below HR5.out HB9.out) (RdF.below S5.out.ink.2.2.2.1.rd HB9.out) (RdInts.below (OwnInts.rd N10.out) HB9.out) (fun g hg => by rw [HK.out.len]; exact Ht.out g hg)
          rw [allowed_mem Hm.out] at CAl
          clear y0 n0 k1_ k2_ k3_ O1 L1
          cases hal : allowedP k.infos (neededP k c1) (envAt k.envs j).rights
          ·have Hal := Lib.hid hal
           have E := Lib.hid (show setP k ⟨k1, (en : Int), (an : Int), (bn : Int), c1, nm⟩ = (k, 0, 1) by rw [HP2.out, if_pos (List.all_eq_false.2 ⟨j, hju, by rw [hal]; decide⟩)])
           rw [hal] at CAl
           clear hal
           refine CAl.mono ?_; rintro r w10 ⟨rfl, hb10⟩
           go_wp2_with fail
           go_ret
           exact Ends1.bad E.out (by decide) (S9.out.below hb10).bel
          ·have Hal := Lib.hid hal
           rw [hal] at CAl
           clear hal
           refine CAl.mono ?_; rintro r w10 ⟨rfl, hb10⟩
           have O10 := Lib.hid (O9.out.below hb10)
           have H10 := Lib.hid (HB9.out.trans (hb10.mono HB9.out.size))
           clear hb10
           go_wp2_with fail
           go_roundw
           case rel => exact ⟨j + 1, by omega, by go_num, by rw [HU.out]; exact O10.out, H10.out, fun e he => by
            rw [HU.out, List.mem_append, List.mem_singleton] at he
            rcases he with he | rfl
            ·exact Hall.out e he
            ·exact Hal.out⟩
           case measure => simp [intOf]; omega
       ·obtain rfl : j = 3 := by omega
        rw [users_three] at HO Hall ⊢
        obtain ⟨us, hus⟩ : ∃ us, us = usersP k an := ⟨_, rfl⟩
        have husl : us.length ≤ 3 := by rw [hus, ← users_three]; exact usersTo_len
        rw [← hus] at HO Hall ⊢
        have HP3 := Lib.hid (show setP k ⟨k1, (en : Int), (an : Int), (bn : Int), c1, nm⟩ = _ by rw [HP2.out, if_neg (by rw [Bool.not_eq_false, List.all_eq_true, ← hus]; exact Hall.out)])
        rw [← hus] at HP3
        clear hus hl6
        obtain ⟨W6, rfl⟩ : ∃ W6 : World, W6 = wr := ⟨_, rfl⟩
        go_wp2_with fail
        have CM := RegB (w1 := W6) (fun W hW => may_c (S6.out.below hW).ink ⟨k1, (en : Int), (an : Int), (bn : Int), c1, nm⟩ (infoAt k.infos f).g (by simp) (by rw [HK.out.envl]; simp only; omega))
        simp only [CallV.on, CallV.onCells] at CM
        obtain ⟨y0, y1, y2, y3, y4, y5, y6⟩ := S6.out.ys
        replace y0 := cell_regrown y0
        replace y1 := cell_regrown y1
        replace y2 := cell_regrown y2
        replace y3 := cell_regrown y3
        replace y4 := cell_regrown y4
        replace y5 := cell_regrown y5
        replace y6 := cell_regrown y6
        have x1 := cell_regrown S6.out.xs.2.1
        have dg := cell_regrown (S6.out.infoAt (f := f) (by rw [HK.out.len]; exact hf12)).2.1
        cases hmy : mayE k (en : Int) (infoAt k.infos f).g
        ·have HMy := Lib.hid hmy
         have E := Lib.hid (show setP k ⟨k1, (en : Int), (an : Int), (bn : Int), c1, nm⟩ = (k, 0, 1) by rw [HP3.out, if_pos ⟨Hent.out, by rw [HF.out]; exact hmy⟩])
         rw [hmy] at CM
         clear hmy
         refine wp_region_quiet_below Tryz.mixed (by kernel_rfl) ?_
         repeat (go_big_quiet_step (exact CM _ _))
         refine wpQuiet_nil ?_
         intro _ hw'
         obtain ⟨⟨dq, osq⟩, hw''⟩ := hw'
         subst hw''
         have bq := below_regrown W6 dq osq
         generalize Sort.grow (redrawn W6 dq) osq = wq at bq
         clear y0 y1 y2 y3 y4 y5 y6 x1 dg
         go_wp2_with fail
         go_ret
         exact Ends1.bad E.out (by decide) (S6.out.below bq).bel
        have HMy := Lib.hid hmy
        rw [hmy] at CM
        clear hmy
        have HP4 := Lib.hid (show setP k ⟨k1, (en : Int), (an : Int), (bn : Int), c1, nm⟩ = _ by rw [HP3.out, if_neg (by rintro ⟨_, x⟩; rw [HF.out, HMy.out] at x; cases x)])
        refine wp_region_quiet_below Tryz.mixed (by kernel_rfl) ?_
        repeat (go_big_quiet_step (exact CM _ _))
        refine wpQuiet_nil ?_
        intro _ hw'
        obtain ⟨⟨dq, osq⟩, hw''⟩ := hw'
        subst hw''
        have bq := below_regrown W6 dq osq
        generalize Sort.grow (redrawn W6 dq) osq = wq at bq
        clear y0 y1 y2 y3 y4 y5 y6 x1 dg CM
        have S7 := Lib.hid (S6.out.below bq)
        obtain ⟨W7, rfl⟩ : ∃ W7 : World, W7 = wq := ⟨_, rfl⟩
        have HO7 := Lib.hid (HO.out.below bq)
        have hs5 := Nat.le_trans Hbel.out.size bq.size
        obtain ⟨y0, y1, y2, y3, y4, y5, y6⟩ := S7.out.ys
        obtain ⟨x0, _, _, _⟩ := S7.out.xs
        obtain ⟨gw, capw, Dw, hgw, hcw, Dj, fzw, ⟨⟨ngw1, ngw2⟩, ngw3, ngw4⟩, _, hT, SW⟩ := S7.out.mrow (kok_parts HK.out).1 (f := an) han
        have Dv := Dj bn hb4
        have fz := fzw bn
        have S8 := Lib.hid (SW bn c1 hb4)
        have hb4i : (bn : Int) < 4 := by omega
        have how := Lib.hid (HK.out.word (f := an) (i := bn) han hb4)
        have hgw5 : gw < W5.heap.size := by
         obtain ⟨gw', capw', Dw', hgw', _⟩ := S5.out.mrow (kok_parts HK.out).1 (f := an) han
         have := ((Hbel.out.trans (bq.mono Hbel.out.size)).cell (World.block_lt_of_cell? _ _ Dw')).trans Dw'
         rw [Dw] at this
         simp at this
         rw [this.1]; exact hgw'
        have HO8 := Lib.hid (show OwnInts W5.heap.size (W7.setCell ⟨gw, bn, none⟩ (.int .i64 c1)) (.slice a11 us.length c11) (ints us) from own_grown HO7.out (grown_set _ _ _ _) (by
         rcases hv : (Value.slice a11 us.length c11).ownBlock with _ | b
         ·exact .inl rfl
         ·refine .inr fun e => ?_
          cases e
          have := (World.ownsRow.lt HO7.out gw hv).1
          omega))
        clear bq Dj fzw SW hT
        go_wp2_with fail
        clear y0 y1 y2 y3 y4 y5 y6 x0 Dw Dv fz
        generalize W7.setCell _ _ = W8 at *
        have CR := S8.out.refer (wdAt k.mem an bn) (-1) (by have := how.out.2; omega) HK.out.len (.inr rfl) ((small_refs (kok_parts HK.out).2.1).mono (by decide))
        simp only [CallV.on, CallV.onCells] at CR
        refine CR.mono ?_; rintro r w9 ⟨rfl, S9, hg9⟩
        have S9 := Lib.hid S9
        have hgi5 := S5.out.gi_lt
        have HO9 := Lib.hid (show OwnInts W5.heap.size w9 (.slice a11 us.length c11) (ints us) from own_grown HO8.out hg9 (by
         rcases hv : (Value.slice a11 us.length c11).ownBlock with _ | b
         ·exact .inl rfl
         ·refine .inr fun e => ?_
          cases e
          have := (World.ownsRow.lt HO8.out gi hv).1
          omega))
        clear hg9 CR
        obtain ⟨y0, y1, y2, y3, y4, y5, y6⟩ := S9.out.ys
        go_wp2_with fail
        clear y0 y1 y2 y3 y4 y5 y6
        have CR := S9.out.refer c1 1 hcc (by simp only [refer1_len]; exact HK.out.len) (.inl rfl) (SmallR.mono (SmallR.refer (small_refs (kok_parts HK.out).2.1) HK.out.len (.inr rfl)) (by decide))
        simp only [CallV.on, CallV.onCells] at CR
        refine CR.mono ?_; rintro r w10 ⟨rfl, S10, hg10⟩
        have S10 := Lib.hid S10
        have HO10 := Lib.hid (show OwnInts W5.heap.size w10 (.slice a11 us.length c11) (ints us) from own_grown HO9.out hg10 (by
         rcases hv : (Value.slice a11 us.length c11).ownBlock with _ | b
         ·exact .inl rfl
         ·refine .inr fun e => ?_
          cases e
          have := (World.ownsRow.lt HO9.out gi hv).1
          omega))
        have hg5 := S5.out.lts.2.1
        clear hg10 CR
        go_wp2_with fail
        go_loopw [172] (fun s172 wr => ∃ j : Nat, j ≤ us.length ∧ s172 = .int .i64 j ∧ OwnInts W5.heap.size wr (.slice a11 us.length c11) (ints us) ∧ ∃ c', CS lo g w.heap.size ⟨k1, (en : Int), (an : Int), (bn : Int), c1, nm⟩ w wr (.slice (some ⟨gm, 0, none⟩) 12 capm) (.slice (some ⟨gi, 0, none⟩) 12 capi) (.slice (some ⟨ge, 0, none⟩) 3 cap) c' { k with mem := setWd k.mem an bn c1, infos := refer1 (refer1 k.infos (wdAt k.mem an bn) (-1)) c1 1, cache := dropsC (us.take j) k.cache }) (fun s172 _ => us.length - (intOf s172).toNat)
        case atStart => exact ⟨0, Nat.zero_le _, rfl, HO10.out, c, S10.out⟩
        case round =>
         obtain ⟨j, hj, rfl, hO, c', hS⟩ := hrel
         have HOr := Lib.hid hO
         have S := Lib.hid hS
         clear hS
         by_cases hlt : j < us.length
         ·obtain ⟨ax, cx, hvx, _, _, H0⟩ := hO.rd.open
          rw [ints_len] at hvx
          simp only [Value.slice.injEq] at hvx
          obtain ⟨rfl, _, rfl⟩ := hvx
          obtain ⟨bx, offx, rfl, DX⟩ := H0.at (k := j) (by rw [ints_len]; exact hlt)
          rw [nth_ints hlt] at DX
          obtain ⟨un, hun⟩ : ∃ u, u = us.getD j 0 := ⟨_, rfl⟩
          rw [← hun] at DX
          have HUN := Lib.hid hun
          obtain ⟨cc, hcc'⟩ : ∃ cc, cc = dropsC (us.take j) k.cache := ⟨_, rfl⟩
          have HCC := Lib.hid hcc'
          clear hun
          have hjl : (j : Int) < us.length := by omega
          obtain ⟨y0, _, _, _, _, _, _⟩ := S.out.ys
          obtain ⟨_, _, _, x3⟩ := S.out.xs
          obtain ⟨hlr, hgr, ngb, nbg⟩ := S.out.lts
          have RC : RdCache wr c' cc := by rw [hcc']; exact S.out.ink.2.2.2.2.2.rd
          clear hcc'
          have CD := Lib.hid (fun W (hW : Below wr.heap.size wr W) => CacheDrop_any c' cc (un : Int) W (RdF.below RC hW) (by rw [HCC.out]; exact dropsC_ok _ (kok_parts HK.out).2.2))
          clear RC H0 hO
          go_wp2_with fail
          clear DX
          refine wp_region_grow 11 Tryz.mixed (by kernel_rfl) 188 rfl (by kernel_rfl) (fun ix vv ww => match ix with
           | 0 => vv = .pointer (some ⟨w.heap.size, 0, none⟩)
           | 1 => vv = .pointer (some ⟨g, 0, none⟩)
           | 2 => vv = .pointer (some ⟨w.heap.size, 0, none⟩)
           | 3 => vv = .pointer (some ⟨g, 0, none⟩)
           | 4 => vv = .pointer (some ⟨g, 0, none⟩)
           | 5 => vv = .pointer (some ⟨g, 3, none⟩)
           | 6 => vv = c'
           | 7 => vv = .int .i64 ((un : Int))
           | 8 => OwnF wr.heap.size 94 4 cachedCs ww vv (dropC cc (un : Int))
           | 9 => vv = .pointer (some ⟨g, 0, none⟩)
           | 10 => vv = .pointer (some ⟨g, 3, none⟩)
           | _ => True) ?_ ?_ ?_
          ·intro i hi vv wz ww' hbz hz
           match i, hi with
           | 0, _ => exact hz
           | 1, _ => exact hz
           | 2, _ => exact hz
           | 3, _ => exact hz
           | 4, _ => exact hz
           | 5, _ => exact hz
           | 6, _ => exact hz
           | 7, _ => exact hz
           | 8, _ => exact (OwnF.below hz hbz)
           | 9, _ => exact hz
           | 10, _ => exact hz
          ·intro i hi o ho a wx Hb Hd hG K HK
           match i, hi with
           | 0, _ =>
            obtain rfl := Option.some.inj ho
            have e1 : a.tmps[1]?.getD undef = .pointer (some ⟨w.heap.size, 0, none⟩) := by rw [Hb.out.2.2 1 (by decide)]; rfl
            clear Hd Hb
            refine Does.of rfl ?_
            go_simp
            exact HK.out _ _ rfl (Below.refl _ _)
           | 1, _ =>
            obtain rfl := Option.some.inj ho
            have d0 := Hd.out 0 (by kernel_rfl)
            change (a.tmps[176]?.getD undef) = .pointer (some ⟨w.heap.size, 0, none⟩) at d0
            clear Hd Hb
            have m0 := (hG.cell (p := ⟨w.heap.size, 0, none⟩) hlr).trans y0
            refine Does.of rfl ?_
            go_simp
            exact HK.out _ _ rfl (Below.refl _ _)
           | 2, _ =>
            obtain rfl := Option.some.inj ho
            have e1 : a.tmps[1]?.getD undef = .pointer (some ⟨w.heap.size, 0, none⟩) := by rw [Hb.out.2.2 1 (by decide)]; rfl
            clear Hd Hb
            refine Does.of rfl ?_
            go_simp
            exact HK.out _ _ rfl (Below.refl _ _)
           | 3, _ =>
            obtain rfl := Option.some.inj ho
            have d2 := Hd.out 2 (by kernel_rfl)
            change (a.tmps[178]?.getD undef) = .pointer (some ⟨w.heap.size, 0, none⟩) at d2
            clear Hd Hb
            have m0 := (hG.cell (p := ⟨w.heap.size, 0, none⟩) hlr).trans y0
            refine Does.of rfl ?_
            go_simp
            exact HK.out _ _ rfl (Below.refl _ _)
           | 4, _ =>
            obtain rfl := Option.some.inj ho
            have d3 := Hd.out 3 (by kernel_rfl)
            change (a.tmps[179]?.getD undef) = .pointer (some ⟨g, 0, none⟩) at d3
            clear Hd Hb
            refine Does.of rfl ?_
            go_simp
            exact HK.out _ _ rfl (Below.refl _ _)
           | 5, _ =>
            obtain rfl := Option.some.inj ho
            have d4 := Hd.out 4 (by kernel_rfl)
            change (a.tmps[180]?.getD undef) = .pointer (some ⟨g, 0, none⟩) at d4
            clear Hd Hb
            refine Does.of rfl ?_
            go_simp
            exact HK.out _ _ rfl (Below.refl _ _)
           | 6, _ =>
            obtain rfl := Option.some.inj ho
            have d5 := Hd.out 5 (by kernel_rfl)
            change (a.tmps[181]?.getD undef) = .pointer (some ⟨g, 3, none⟩) at d5
            clear Hd Hb
            have m0 := (hG.cell (p := ⟨g, 3, none⟩) hgr).trans x3
            refine Does.of rfl ?_
            go_simp
            exact HK.out _ _ rfl (Below.refl _ _)
           | 7, _ =>
            obtain rfl := Option.some.inj ho
            have e16 : a.tmps[16]?.getD undef = .int .i64 ((un : Int)) := by rw [Hb.out.2.2 16 (by decide)]; rfl
            clear Hd Hb
            refine Does.of rfl ?_
            go_simp
            exact HK.out _ _ rfl (Below.refl _ _)
           | 8, _ =>
            obtain rfl := Option.some.inj ho
            have d6 := Hd.out 6 (by kernel_rfl)
            change (a.tmps[182]?.getD undef) = c' at d6
            have d7 := Hd.out 7 (by kernel_rfl)
            change (a.tmps[183]?.getD undef) = .int .i64 ((un : Int)) at d7
            clear Hd Hb
            refine Does.of rfl ?_
            go_simp
            refine (CD.out _ hG).mono ?_; rintro e w_ ⟨v', rfl, hO, hb2⟩
            exact HK.out _ _ (hO.lower hG.size) hb2
           | 9, _ =>
            obtain rfl := Option.some.inj ho
            have d1 := Hd.out 1 (by kernel_rfl)
            change (a.tmps[177]?.getD undef) = .pointer (some ⟨g, 0, none⟩) at d1
            clear Hd Hb
            refine Does.of rfl ?_
            go_simp
            exact HK.out _ _ rfl (Below.refl _ _)
           | 10, _ =>
            obtain rfl := Option.some.inj ho
            have d9 := Hd.out 9 (by kernel_rfl)
            change (a.tmps[185]?.getD undef) = .pointer (some ⟨g, 0, none⟩) at d9
            clear Hd Hb
            refine Does.of rfl ?_
            go_simp
            exact HK.out _ _ rfl (Below.refl _ _)
          ·intro vs wx hR hG
           have q1 := hR 1 (by decide)
           change (vs 1) = .pointer (some ⟨g, 0, none⟩) at q1
           have q8 := hR 8 (by decide)
           change OwnF wr.heap.size 94 4 cachedCs wx (vs 8) (dropC cc (un : Int)) at q8
           have q9 := hR 9 (by decide)
           change (vs 9) = .pointer (some ⟨g, 0, none⟩) at q9
           have q10 := hR 10 (by decide)
           change (vs 10) = .pointer (some ⟨g, 3, none⟩) at q10
           clear hR
           simp only [fillAt, dstOf, List.range, List.range.loop, List.foldl_cons, List.foldl_nil, q1, q9, q10]
           simp
           try generalize vs 0 = z0
           try generalize vs 2 = z2
           try generalize vs 3 = z3
           try generalize vs 4 = z4
           try generalize vs 5 = z5
           try generalize vs 6 = z6
           try generalize vs 7 = z7
           generalize vs 8 = z8 at q8 ⊢
           clear q1 q9 q10
           rw [HCC.out, HUN.out, ← dropsC_take hlt] at q8
           have S8 := Lib.hid (S.out.cache hG q8)
           have HOn := Lib.hid (own_keepI (j := 3) (u := z8) (OwnInts.below HOr.out hG) hg5)
           have fzg := blk_frozen (S.out.below hG).ink.1
           have x3w := (S.out.below hG).xs.2.2.2
           obtain ⟨_, _, rfl, _, _⟩ := q8.rd.shape
           clear q8 hG y0 x3
           go_wp2_with fail
           go_roundw
           case rel => exact ⟨j + 1, by omega, by go_num, HOn.out, _, S8.out⟩
           case measure => simp [intOf]; omega
         ·obtain rfl : j = us.length := by omega
          rw [List.take_length] at S
          have HE := Lib.hid (show setP k ⟨k1, (en : Int), (an : Int), (bn : Int), c1, nm⟩ = ({ k with mem := setWd k.mem an bn c1, infos := refer1 (refer1 k.infos (wdAt k.mem an bn) (-1)) c1 1, cache := dropsC us k.cache }, 0, 0) from HP4.out)
          go_wp2_with fail
          go_ret
          exact ⟨by rw [HE.out] <;> rfl, fun _ => ⟨_, _, _, _, by rw [HE.out]; exact S.out.ink⟩, S.out.bel⟩
     ·have RM := S4.out.ink.2.2.rd.1
      have CN := named_any _ (.slice (some ⟨W3.heap.size, 0, none⟩) 1 1) k.mem [f] W4 RM (kok_parts HK.out).1 (OwnInts.rd O4.out) (by simpa using hf12) (by simp)
      have hacc := accN_len (kok_parts HK.out).1 (ns := [f]) (by simpa using hf12)
      go_wp2_with fail
      refine CN.mono ?_; rintro r w5 ⟨v5, t5, rfl, P5, m5, l5, hb5⟩
      have O5 := Lib.hid (show w5.ownsRow W3.heap.size 3 1 (.slice (some ⟨W3.heap.size, 0, none⟩) 1 1) 1 ((ints [f]).map (Value.int .i64)) from O4.out.below hb5)
      have R5 := Lib.hid (show Rd w5 v5 1 t5.length ((ints t5).map (Value.int .i64)) by have := OwnInts.rd P5; unfold RdInts at this; rwa [ints_len] at this)
      have hlo5 : W3.heap.size ≤ w5.heap.size := Nat.le_trans (by have := (World.ownsRow.lt O4.out _ rfl); omega) hb5.size
      have S5_ := Lib.hid (S4.out.below hb5)
      have HB5 := Lib.hid (HB4.out.trans (hb5.mono HB4.out.size))
      have h5 : t5.length ≤ 4 := by simp at hacc; omega
      have Hm := Lib.hid (show ∀ g, g ∈ [f] ++ t5 ↔ g ∈ neededP k c1 by
       intro g
       rw [HN.out, htf, if_pos rfl, List.mem_append, List.mem_singleton, List.mem_cons, m5]
       simp [accN])
      have Ht := Lib.hid (show ∀ g, g ∈ [f] ++ t5 → g < 12 by
       intro g hg
       rw [List.mem_append, List.mem_singleton] at hg
       rcases hg with rfl | hg
       ·exact hf12
       ·obtain ⟨_, _, hg⟩ := accN_mem.1 ((m5 g).1 hg)
        exact named_lt hg)
      clear htf O4 S4 x0 x1 y0 df0 CT RM P5 m5 l5 hb5 hacc CN
      go_wp2_with (at_builtin; go_must (refine wp_append (lo := W3.heap.size) (v := .slice (some ⟨W3.heap.size, 0, none⟩) 1 1) (n := 1) (xs := (ints [f]).map (Value.int .i64)) (m := t5.length) (news := (ints t5).map (Value.int .i64)) rfl rfl 3 (.int .i64 0) 1 8 Tryz.underlying38 Tryz.infoInt rfl (by decide) rfl O5.out rfl R5.out mem_ints (by unfold maxLen; omega) (by omega) (by omega) ?_; intro o10 W5 k1_ k2_ k3_; have y0 := (grown_cell (o := 0) k2_ S5_.out.lts.1 (own_row_ne O5.out S5_.out.blk (by decide))).trans S5_.out.ys.1; have x2 := (grown_cell (o := 2) k2_ S5_.out.lts.2.1 (own_row_ne O5.out S5_.out.ink.1 (by decide))).trans S5_.out.xs.2.2.1))
      have S5 := Lib.hid (S3.out.below (HB5.out.trans k3_))
      have N10 := Lib.hid (app_ints (a := [f]) (b := t5) k1_)
      obtain ⟨ts, hts⟩ : ∃ ts : List Nat, ts = [f] ++ t5 := ⟨_, rfl⟩
      rw [← hts] at N10 Hm Ht
      obtain ⟨b3, hb3⟩ : ∃ b3, b3 = W3.heap.size := ⟨_, rfl⟩
      rw [← hb3] at N10
      clear y0 x2 k1_ k2_ k3_ O5 R5 hts hb3
      go_loopw [11, 99] (fun s11 s99 wr => ∃ j : Nat, j ≤ 3 ∧ s99 = .int .i64 j ∧ OwnInts W5.heap.size wr s11 (ints (usersTo k an j)) ∧ Below W5.heap.size W5 wr ∧ ∀ e, e ∈ usersTo k an j → allowedP k.infos (neededP k c1) (envAt k.envs e).rights = true) (fun _ s99 _ => 3 - (intOf s99).toNat)
      case atStart => exact ⟨0, Nat.zero_le _, rfl, World.ownsRow_nil _ _ _ _, Below.refl _ _, fun e he => by cases he⟩
      case round =>
       obtain ⟨j, hj, rfl, hO, hbel, hall⟩ := hrel
       have Hall := Lib.hid hall
       clear hall
       have hl6 := usersTo_len (k := k) (a := an) (j := j)
       have S6 := Lib.hid (S5.out.below hbel)
       have HO := Lib.hid hO
       have Hbel := Lib.hid hbel
       obtain ⟨a11, c11, rfl, _, _, _⟩ := hO.rd.open
       rw [ints_len] at HO ⊢
       clear hO hbel
       by_cases hlt : j < 3
       ·obtain ⟨ua, uc, D05, D15, R5⟩ := S5.out.env (j := j) (by rw [HK.out.envl]; exact hlt)
        have D0 := (Hbel.out.cell (World.block_lt_of_cell? _ _ D05)).trans D05
        have D1 := (Hbel.out.cell (World.block_lt_of_cell? _ _ D15)).trans D15
        have R := RdF.below R5 Hbel.out
        have HR5 := Lib.hid R5
        clear D05 D15 R5
        have hbN := below1 wr (.cells #[.slice ua (envAt k.envs j).rights.length uc, .int .i64 (envAt k.envs j).root] 80)
        have NE := heap_alloc_new wr (.cells #[.slice ua (envAt k.envs j).rights.length uc, .int .i64 (envAt k.envs j).root] 80)
        have S7 := Lib.hid (S6.out.below hbN)
        have hlt3 : (j : Int) < 3 := by omega
        obtain ⟨y0, _, _, _, _, _, _⟩ := S7.out.ys
        obtain ⟨x0, x1, _, _⟩ := S7.out.xs
        obtain ⟨hlr, hgr, _, _⟩ := S7.out.lts
        have hm12 := root_lt HK.out hlt
        have RM := RdRows.below S6.out.ink.2.2.rd.1 hbN
        have RIn : RdInfos _ _ k.infos := S7.out.ink.2.2.2.1.rd
        have R7 := RdF.below R hbN
        have HNE := Lib.hid NE
        have hqr := blk_lt NE
        have n0 := cell_of_row _ _ 0 _ _ _ NE
        have n1 := cell_of_row _ _ 1 _ _ _ NE
        have HbN := Lib.hid hbN
        clear hbN NE R
        go_wp2_with fail
        clear D0 D1
        generalize wr.alloc _ = W7 at *
        obtain ⟨qe, hqe⟩ : ∃ q, q = wr.heap.size := ⟨_, rfl⟩
        rw [← hqe] at HNE hqr n0 n1 ⊢
        have CX := Lib.hid (fun W (hW : Below W7.heap.size W7 W) => reached_root _ k.mem (envAt k.envs j).root W (RM.below hW) (kok_parts HK.out).1 hm12)
        have hG0 := HbN.out
        cases hbu : (reachL k.mem (envAt k.envs j).root).contains an
        ·have Hbu : Hid ((reachL k.mem (envAt k.envs j).root).contains an = false) := Lib.hid hbu
         have HU := Lib.hid (usersTo_no hbu)
         clear hbu hqe
         refine wp_region_grow 10 Tryz.mixed (by kernel_rfl) 188 rfl (by kernel_rfl) (fun ix vv ww => match ix with
          | 0 => vv = .pointer (some ⟨w.heap.size, 0, none⟩)
          | 1 => vv = .pointer (some ⟨g, 0, none⟩)
          | 2 => vv = .pointer (some ⟨g, 0, none⟩)
          | 3 => vv = .pointer (some ⟨g, 0, none⟩)
          | 4 => vv = .slice (some ⟨gm, 0, none⟩) 12 capm
          | 5 => vv = .pointer (some ⟨qe, 1, none⟩)
          | 6 => vv = .int .i64 ((envAt k.envs j).root)
          | 7 => ReachIn wr.heap.size k.mem (envAt k.envs j).root ww vv
          | 8 => vv = .int .i64 ((an : Int))
          | 9 => vv = .bool false
          | _ => True) ?_ ?_ ?_
         ·intro i hi vv wz ww' hbz hz
          match i, hi with
          | 0, _ => exact hz
          | 1, _ => exact hz
          | 2, _ => exact hz
          | 3, _ => exact hz
          | 4, _ => exact hz
          | 5, _ => exact hz
          | 6, _ => exact hz
          | 7, _ => exact (ReachIn.below hz hbz)
          | 8, _ => exact hz
          | 9, _ => exact hz
         ·intro i hi o ho a wx Hb Hd hG K HK
          match i, hi with
          | 0, _ =>
           obtain rfl := Option.some.inj ho
           have e1 : a.tmps[1]?.getD undef = .pointer (some ⟨w.heap.size, 0, none⟩) := by rw [Hb.out.2.2 1 (by decide)]; rfl
           clear Hd Hb
           refine Does.of rfl ?_
           go_simp
           exact HK.out _ _ rfl (Below.refl _ _)
          | 1, _ =>
           obtain rfl := Option.some.inj ho
           have d0 := Hd.out 0 (by kernel_rfl)
           change (a.tmps[104]?.getD undef) = .pointer (some ⟨w.heap.size, 0, none⟩) at d0
           clear Hd Hb
           have m0 := (hG.cell (p := ⟨w.heap.size, 0, none⟩) hlr).trans y0
           refine Does.of rfl ?_
           go_simp
           exact HK.out _ _ rfl (Below.refl _ _)
          | 2, _ =>
           obtain rfl := Option.some.inj ho
           have d1 := Hd.out 1 (by kernel_rfl)
           change (a.tmps[105]?.getD undef) = .pointer (some ⟨g, 0, none⟩) at d1
           clear Hd Hb
           refine Does.of rfl ?_
           go_simp
           exact HK.out _ _ rfl (Below.refl _ _)
          | 3, _ =>
           obtain rfl := Option.some.inj ho
           have d2 := Hd.out 2 (by kernel_rfl)
           change (a.tmps[106]?.getD undef) = .pointer (some ⟨g, 0, none⟩) at d2
           clear Hd Hb
           refine Does.of rfl ?_
           go_simp
           exact HK.out _ _ rfl (Below.refl _ _)
          | 4, _ =>
           obtain rfl := Option.some.inj ho
           have d3 := Hd.out 3 (by kernel_rfl)
           change (a.tmps[107]?.getD undef) = .pointer (some ⟨g, 0, none⟩) at d3
           clear Hd Hb
           have m0 := (hG.cell (p := ⟨g, 0, none⟩) hgr).trans x0
           refine Does.of rfl ?_
           go_simp
           exact HK.out _ _ rfl (Below.refl _ _)
          | 5, _ =>
           obtain rfl := Option.some.inj ho
           have e13 : a.tmps[13]?.getD undef = .pointer (some ⟨qe, 0, none⟩) := by rw [Hb.out.2.2 13 (by decide)]; rfl
           clear Hd Hb
           refine Does.of rfl ?_
           go_simp
           exact HK.out _ _ rfl (Below.refl _ _)
          | 6, _ =>
           obtain rfl := Option.some.inj ho
           have d5 := Hd.out 5 (by kernel_rfl)
           change (a.tmps[109]?.getD undef) = .pointer (some ⟨qe, 1, none⟩) at d5
           clear Hd Hb
           have m0 := (hG.cell (p := ⟨qe, 1, none⟩) hqr).trans n1
           refine Does.of rfl ?_
           go_simp
           exact HK.out _ _ rfl (Below.refl _ _)
          | 7, _ =>
           obtain rfl := Option.some.inj ho
           have d4 := Hd.out 4 (by kernel_rfl)
           change (a.tmps[108]?.getD undef) = .slice (some ⟨gm, 0, none⟩) 12 capm at d4
           have d6 := Hd.out 6 (by kernel_rfl)
           change (a.tmps[110]?.getD undef) = .int .i64 ((envAt k.envs j).root) at d6
           clear Hd Hb
           refine Does.of rfl ?_
           go_simp
           refine (CX.out _ hG).mono ?_; rintro e w_ ⟨v', ts', rfl, hO, hmem, _, hb2⟩
           exact HK.out _ _ ⟨ts', own_loV hO (Nat.le_trans hG0.size hG.size), hmem⟩ hb2
          | 8, _ =>
           obtain rfl := Option.some.inj ho
           have e3 : a.tmps[3]?.getD undef = .int .i64 ((an : Int)) := by rw [Hb.out.2.2 3 (by decide)]; rfl
           clear Hd Hb
           refine Does.of rfl ?_
           go_simp
           exact HK.out _ _ rfl (Below.refl _ _)
          | 9, _ =>
           obtain rfl := Option.some.inj ho
           have d7 := Hd.out 7 (by kernel_rfl)
           change ReachIn wr.heap.size k.mem (envAt k.envs j).root wx (a.tmps[111]?.getD undef) at d7
           have d8 := Hd.out 8 (by kernel_rfl)
           change (a.tmps[112]?.getD undef) = .int .i64 ((an : Int)) at d8
           clear Hd Hb
           generalize e111 : a.tmps[111]?.getD undef = v2 at d7
           obtain ⟨ts', hO, hmem⟩ := d7
           have CC := same_below (ContainsInts_any v2 ts' (an : Int) wx (OwnInts.rd hO))
           rw [contains_ints hmem, Hbu.out] at CC
           refine Does.of rfl ?_
           go_simp
           refine CC.mono ?_; rintro e w_ ⟨rfl, hb2⟩
           exact HK.out _ _ rfl hb2
         ·intro vs wx hR hG
          have q9 := hR 9 (by decide)
          change (vs 9) = .bool false at q9
          clear hR
          simp only [fillAt, dstOf, List.range, List.range.loop, List.foldl_cons, List.foldl_nil, q9]
          simp
          try generalize vs 0 = z0
          try generalize vs 1 = z1
          try generalize vs 2 = z2
          try generalize vs 3 = z3
          try generalize vs 4 = z4
          try generalize vs 5 = z5
          try generalize vs 6 = z6
          try generalize vs 7 = z7
          try generalize vs 8 = z8
          clear q9
          have hbx := hG0.trans (hG.mono hG0.size)
          have HOx := Lib.hid (HO.out.below hbx)
          have Hbx := Lib.hid (Hbel.out.trans (hbx.mono Hbel.out.size))
          clear hG hbx y0 x0 x1 n0 n1 hG0 RM RIn R7
          go_wp2_with fail
          go_roundw
          case rel => exact ⟨j + 1, by omega, by go_num, by rw [HU.out]; exact HOx.out, Hbx.out, by rw [HU.out]; exact Hall.out⟩
          case measure => simp [intOf]; omega
        ·have Hbu : Hid ((reachL k.mem (envAt k.envs j).root).contains an = true) := Lib.hid hbu
         have HU := Lib.hid (usersTo_yes hbu)
         have hju : j ∈ usersP k an := by rw [← users_three]; exact List.mem_filter.2 ⟨List.mem_range.2 hlt, hbu⟩
         clear hbu hqe
         refine wp_region_grow 10 Tryz.mixed (by kernel_rfl) 188 rfl (by kernel_rfl) (fun ix vv ww => match ix with
          | 0 => vv = .pointer (some ⟨w.heap.size, 0, none⟩)
          | 1 => vv = .pointer (some ⟨g, 0, none⟩)
          | 2 => vv = .pointer (some ⟨g, 0, none⟩)
          | 3 => vv = .pointer (some ⟨g, 0, none⟩)
          | 4 => vv = .slice (some ⟨gm, 0, none⟩) 12 capm
          | 5 => vv = .pointer (some ⟨qe, 1, none⟩)
          | 6 => vv = .int .i64 ((envAt k.envs j).root)
          | 7 => ReachIn wr.heap.size k.mem (envAt k.envs j).root ww vv
          | 8 => vv = .int .i64 ((an : Int))
          | 9 => vv = .bool true
          | _ => True) ?_ ?_ ?_
         ·intro i hi vv wz ww' hbz hz
          match i, hi with
          | 0, _ => exact hz
          | 1, _ => exact hz
          | 2, _ => exact hz
          | 3, _ => exact hz
          | 4, _ => exact hz
          | 5, _ => exact hz
          | 6, _ => exact hz
          | 7, _ => exact (ReachIn.below hz hbz)
          | 8, _ => exact hz
          | 9, _ => exact hz
         ·intro i hi o ho a wx Hb Hd hG K HK
          match i, hi with
          | 0, _ =>
           obtain rfl := Option.some.inj ho
           have e1 : a.tmps[1]?.getD undef = .pointer (some ⟨w.heap.size, 0, none⟩) := by rw [Hb.out.2.2 1 (by decide)]; rfl
           clear Hd Hb
           refine Does.of rfl ?_
           go_simp
           exact HK.out _ _ rfl (Below.refl _ _)
          | 1, _ =>
           obtain rfl := Option.some.inj ho
           have d0 := Hd.out 0 (by kernel_rfl)
           change (a.tmps[104]?.getD undef) = .pointer (some ⟨w.heap.size, 0, none⟩) at d0
           clear Hd Hb
           have m0 := (hG.cell (p := ⟨w.heap.size, 0, none⟩) hlr).trans y0
           refine Does.of rfl ?_
           go_simp
           exact HK.out _ _ rfl (Below.refl _ _)
          | 2, _ =>
           obtain rfl := Option.some.inj ho
           have d1 := Hd.out 1 (by kernel_rfl)
           change (a.tmps[105]?.getD undef) = .pointer (some ⟨g, 0, none⟩) at d1
           clear Hd Hb
           refine Does.of rfl ?_
           go_simp
           exact HK.out _ _ rfl (Below.refl _ _)
          | 3, _ =>
           obtain rfl := Option.some.inj ho
           have d2 := Hd.out 2 (by kernel_rfl)
           change (a.tmps[106]?.getD undef) = .pointer (some ⟨g, 0, none⟩) at d2
           clear Hd Hb
           refine Does.of rfl ?_
           go_simp
           exact HK.out _ _ rfl (Below.refl _ _)
          | 4, _ =>
           obtain rfl := Option.some.inj ho
           have d3 := Hd.out 3 (by kernel_rfl)
           change (a.tmps[107]?.getD undef) = .pointer (some ⟨g, 0, none⟩) at d3
           clear Hd Hb
           have m0 := (hG.cell (p := ⟨g, 0, none⟩) hgr).trans x0
           refine Does.of rfl ?_
           go_simp
           exact HK.out _ _ rfl (Below.refl _ _)
          | 5, _ =>
           obtain rfl := Option.some.inj ho
           have e13 : a.tmps[13]?.getD undef = .pointer (some ⟨qe, 0, none⟩) := by rw [Hb.out.2.2 13 (by decide)]; rfl
           clear Hd Hb
           refine Does.of rfl ?_
           go_simp
           exact HK.out _ _ rfl (Below.refl _ _)
          | 6, _ =>
           obtain rfl := Option.some.inj ho
           have d5 := Hd.out 5 (by kernel_rfl)
           change (a.tmps[109]?.getD undef) = .pointer (some ⟨qe, 1, none⟩) at d5
           clear Hd Hb
           have m0 := (hG.cell (p := ⟨qe, 1, none⟩) hqr).trans n1
           refine Does.of rfl ?_
           go_simp
           exact HK.out _ _ rfl (Below.refl _ _)
          | 7, _ =>
           obtain rfl := Option.some.inj ho
           have d4 := Hd.out 4 (by kernel_rfl)
           change (a.tmps[108]?.getD undef) = .slice (some ⟨gm, 0, none⟩) 12 capm at d4
           have d6 := Hd.out 6 (by kernel_rfl)
           change (a.tmps[110]?.getD undef) = .int .i64 ((envAt k.envs j).root) at d6
           clear Hd Hb
           refine Does.of rfl ?_
           go_simp
           refine (CX.out _ hG).mono ?_; rintro e w_ ⟨v', ts', rfl, hO, hmem, _, hb2⟩
           exact HK.out _ _ ⟨ts', own_loV hO (Nat.le_trans hG0.size hG.size), hmem⟩ hb2
          | 8, _ =>
           obtain rfl := Option.some.inj ho
           have e3 : a.tmps[3]?.getD undef = .int .i64 ((an : Int)) := by rw [Hb.out.2.2 3 (by decide)]; rfl
           clear Hd Hb
           refine Does.of rfl ?_
           go_simp
           exact HK.out _ _ rfl (Below.refl _ _)
          | 9, _ =>
           obtain rfl := Option.some.inj ho
           have d7 := Hd.out 7 (by kernel_rfl)
           change ReachIn wr.heap.size k.mem (envAt k.envs j).root wx (a.tmps[111]?.getD undef) at d7
           have d8 := Hd.out 8 (by kernel_rfl)
           change (a.tmps[112]?.getD undef) = .int .i64 ((an : Int)) at d8
           clear Hd Hb
           generalize e111 : a.tmps[111]?.getD undef = v2 at d7
           obtain ⟨ts', hO, hmem⟩ := d7
           have CC := same_below (ContainsInts_any v2 ts' (an : Int) wx (OwnInts.rd hO))
           rw [contains_ints hmem, Hbu.out] at CC
           refine Does.of rfl ?_
           go_simp
           refine CC.mono ?_; rintro e w_ ⟨rfl, hb2⟩
           exact HK.out _ _ rfl hb2
         ·intro vs wx hR hG
          have q9 := hR 9 (by decide)
          change (vs 9) = .bool true at q9
          clear hR
          simp only [fillAt, dstOf, List.range, List.range.loop, List.foldl_cons, List.foldl_nil, q9]
          simp
          try generalize vs 0 = z0
          try generalize vs 1 = z1
          try generalize vs 2 = z2
          try generalize vs 3 = z3
          try generalize vs 4 = z4
          try generalize vs 5 = z5
          try generalize vs 6 = z6
          try generalize vs 7 = z7
          try generalize vs 8 = z8
          clear q9
          have hbx := hG0.trans (hG.mono hG0.size)
          have HOx := HO.out.below hbx
          have Hbx := Lib.hid (Hbel.out.trans (hbx.mono Hbel.out.size))
          have b1 := below1 wx (.cells #[.int .i64 (j : Int)] 3)
          have O1 := Lib.hid (show (wx.alloc (.cells #[.int .i64 (j : Int)] 3)).ownsRow W5.heap.size 3 1 (.slice a11 (usersTo k an j).length c11) (usersTo k an j).length ((ints (usersTo k an j)).map (Value.int .i64)) by have := HOx.below b1; unfold OwnInts at this; rwa [ints_len] at this)
          have L1 := Lib.hid (show Rd (wx.alloc (.cells #[.int .i64 (j : Int)] 3)) (.slice (some ⟨wx.heap.size, 0, none⟩) 1 1) 1 1 ((ints [j]).map (Value.int .i64)) from OwnInts.rd (own_lit1 wx (j : Int)))
          have s5 := Hbx.out.size
          have hnb := Lib.hid (show ∀ b, (Value.slice a11 (usersTo k an j).length c11).ownBlock = some b → W5.heap.size ≤ b from fun b hb => (World.ownsRow.lt HO.out b hb).1)
          have S8 := Lib.hid ((S7.out.below hG).below b1)
          have HNE8 := Lib.hid (blk_below (blk_below HNE.out hG) b1)
          have Rx := Lib.hid (RdF.below (RdF.below R7 hG) b1)
          have hOa := Lib.hid HOx
          have HB8 := Lib.hid (Hbx.out.trans (b1.mono s5))
          clear hG hbx y0 x0 x1 n0 n1 hG0 RM RIn R7 HOx b1
          go_wp2_with (at_builtin; go_must (refine wp_append (lo := W5.heap.size) (v := .slice a11 (usersTo k an j).length c11) (n := (usersTo k an j).length) (xs := (ints (usersTo k an j)).map (Value.int .i64)) (m := 1) (news := (ints [j]).map (Value.int .i64)) rfl rfl 3 (.int .i64 0) 1 8 Tryz.underlying38 Tryz.infoInt rfl (by decide) rfl O1.out rfl L1.out mem_ints (by unfold maxLen; omega) (by omega) (by simp; omega) ?_; intro o11 W9 k1_ k2_ k3_; have y0 := (grown_cell (o := 0) k2_ S8.out.lts.1 (own_row_ne O1.out S8.out.blk (by decide))).trans S8.out.ys.1; have n0 := (grown_cell (o := 0) k2_ (blk_lt HNE8.out) (own_row_ne O1.out HNE8.out (by decide))).trans (cell_of_row _ _ 0 _ _ _ HNE8.out)))
          have HB9 := Lib.hid (HB8.out.trans k3_)
          have S9 := Lib.hid (S5.out.below HB9.out)
          have O9 := Lib.hid (app_ints (a := usersTo k an j) (b := [j]) k1_)
          have CAl := allowed_any g _ o10 _ (envAt k.envs j).rights ts k.infos W9 S9.out.xs.2.1 (RdF.below HR5.out HB9.out) (RdF.below S5.out.ink.2.2.2.1.rd HB9.out) (RdInts.below (OwnInts.rd N10.out) HB9.out) (fun g hg => by rw [HK.out.len]; exact Ht.out g hg)
          rw [allowed_mem Hm.out] at CAl
          clear y0 n0 k1_ k2_ k3_ O1 L1
          cases hal : allowedP k.infos (neededP k c1) (envAt k.envs j).rights
          ·have Hal := Lib.hid hal
           have E := Lib.hid (show setP k ⟨k1, (en : Int), (an : Int), (bn : Int), c1, nm⟩ = (k, 0, 1) by rw [HP2.out, if_pos (List.all_eq_false.2 ⟨j, hju, by rw [hal]; decide⟩)])
           rw [hal] at CAl
           clear hal
           refine CAl.mono ?_; rintro r w10 ⟨rfl, hb10⟩
           go_wp2_with fail
           go_ret
           exact Ends1.bad E.out (by decide) (S9.out.below hb10).bel
          ·have Hal := Lib.hid hal
           rw [hal] at CAl
           clear hal
           refine CAl.mono ?_; rintro r w10 ⟨rfl, hb10⟩
           have O10 := Lib.hid (O9.out.below hb10)
           have H10 := Lib.hid (HB9.out.trans (hb10.mono HB9.out.size))
           clear hb10
           go_wp2_with fail
           go_roundw
           case rel => exact ⟨j + 1, by omega, by go_num, by rw [HU.out]; exact O10.out, H10.out, fun e he => by
            rw [HU.out, List.mem_append, List.mem_singleton] at he
            rcases he with he | rfl
            ·exact Hall.out e he
            ·exact Hal.out⟩
           case measure => simp [intOf]; omega
       ·obtain rfl : j = 3 := by omega
        rw [users_three] at HO Hall ⊢
        obtain ⟨us, hus⟩ : ∃ us, us = usersP k an := ⟨_, rfl⟩
        have husl : us.length ≤ 3 := by rw [hus, ← users_three]; exact usersTo_len
        rw [← hus] at HO Hall ⊢
        have HP3 := Lib.hid (show setP k ⟨k1, (en : Int), (an : Int), (bn : Int), c1, nm⟩ = _ by rw [HP2.out, if_neg (by rw [Bool.not_eq_false, List.all_eq_true, ← hus]; exact Hall.out)])
        rw [← hus] at HP3
        clear hus hl6
        obtain ⟨W6, rfl⟩ : ∃ W6 : World, W6 = wr := ⟨_, rfl⟩
        go_wp2_with fail
        have CM := RegB (w1 := W6) (fun W hW => may_c (S6.out.below hW).ink ⟨k1, (en : Int), (an : Int), (bn : Int), c1, nm⟩ (infoAt k.infos f).g (by simp) (by rw [HK.out.envl]; simp only; omega))
        simp only [CallV.on, CallV.onCells] at CM
        obtain ⟨y0, y1, y2, y3, y4, y5, y6⟩ := S6.out.ys
        replace y0 := cell_regrown y0
        replace y1 := cell_regrown y1
        replace y2 := cell_regrown y2
        replace y3 := cell_regrown y3
        replace y4 := cell_regrown y4
        replace y5 := cell_regrown y5
        replace y6 := cell_regrown y6
        have x1 := cell_regrown S6.out.xs.2.1
        have dg := cell_regrown (S6.out.infoAt (f := f) (by rw [HK.out.len]; exact hf12)).2.1
        cases hmy : mayE k (en : Int) (infoAt k.infos f).g
        ·have HMy := Lib.hid hmy
         have E := Lib.hid (show setP k ⟨k1, (en : Int), (an : Int), (bn : Int), c1, nm⟩ = (k, 0, 1) by rw [HP3.out, if_pos ⟨Hent.out, by rw [HF.out]; exact hmy⟩])
         rw [hmy] at CM
         clear hmy
         refine wp_region_quiet_below Tryz.mixed (by kernel_rfl) ?_
         repeat (go_big_quiet_step (exact CM _ _))
         refine wpQuiet_nil ?_
         intro _ hw'
         obtain ⟨⟨dq, osq⟩, hw''⟩ := hw'
         subst hw''
         have bq := below_regrown W6 dq osq
         generalize Sort.grow (redrawn W6 dq) osq = wq at bq
         clear y0 y1 y2 y3 y4 y5 y6 x1 dg
         go_wp2_with fail
         go_ret
         exact Ends1.bad E.out (by decide) (S6.out.below bq).bel
        have HMy := Lib.hid hmy
        rw [hmy] at CM
        clear hmy
        have HP4 := Lib.hid (show setP k ⟨k1, (en : Int), (an : Int), (bn : Int), c1, nm⟩ = _ by rw [HP3.out, if_neg (by rintro ⟨_, x⟩; rw [HF.out, HMy.out] at x; cases x)])
        refine wp_region_quiet_below Tryz.mixed (by kernel_rfl) ?_
        repeat (go_big_quiet_step (exact CM _ _))
        refine wpQuiet_nil ?_
        intro _ hw'
        obtain ⟨⟨dq, osq⟩, hw''⟩ := hw'
        subst hw''
        have bq := below_regrown W6 dq osq
        generalize Sort.grow (redrawn W6 dq) osq = wq at bq
        clear y0 y1 y2 y3 y4 y5 y6 x1 dg CM
        have S7 := Lib.hid (S6.out.below bq)
        obtain ⟨W7, rfl⟩ : ∃ W7 : World, W7 = wq := ⟨_, rfl⟩
        have HO7 := Lib.hid (HO.out.below bq)
        have hs5 := Nat.le_trans Hbel.out.size bq.size
        obtain ⟨y0, y1, y2, y3, y4, y5, y6⟩ := S7.out.ys
        obtain ⟨x0, _, _, _⟩ := S7.out.xs
        obtain ⟨gw, capw, Dw, hgw, hcw, Dj, fzw, ⟨⟨ngw1, ngw2⟩, ngw3, ngw4⟩, _, hT, SW⟩ := S7.out.mrow (kok_parts HK.out).1 (f := an) han
        have Dv := Dj bn hb4
        have fz := fzw bn
        have S8 := Lib.hid (SW bn c1 hb4)
        have hb4i : (bn : Int) < 4 := by omega
        have how := Lib.hid (HK.out.word (f := an) (i := bn) han hb4)
        have hgw5 : gw < W5.heap.size := by
         obtain ⟨gw', capw', Dw', hgw', _⟩ := S5.out.mrow (kok_parts HK.out).1 (f := an) han
         have := ((Hbel.out.trans (bq.mono Hbel.out.size)).cell (World.block_lt_of_cell? _ _ Dw')).trans Dw'
         rw [Dw] at this
         simp at this
         rw [this.1]; exact hgw'
        have HO8 := Lib.hid (show OwnInts W5.heap.size (W7.setCell ⟨gw, bn, none⟩ (.int .i64 c1)) (.slice a11 us.length c11) (ints us) from own_grown HO7.out (grown_set _ _ _ _) (by
         rcases hv : (Value.slice a11 us.length c11).ownBlock with _ | b
         ·exact .inl rfl
         ·refine .inr fun e => ?_
          cases e
          have := (World.ownsRow.lt HO7.out gw hv).1
          omega))
        clear bq Dj fzw SW hT
        go_wp2_with fail
        clear y0 y1 y2 y3 y4 y5 y6 x0 Dw Dv fz
        generalize W7.setCell _ _ = W8 at *
        have CR := S8.out.refer (wdAt k.mem an bn) (-1) (by have := how.out.2; omega) HK.out.len (.inr rfl) ((small_refs (kok_parts HK.out).2.1).mono (by decide))
        simp only [CallV.on, CallV.onCells] at CR
        refine CR.mono ?_; rintro r w9 ⟨rfl, S9, hg9⟩
        have S9 := Lib.hid S9
        have hgi5 := S5.out.gi_lt
        have HO9 := Lib.hid (show OwnInts W5.heap.size w9 (.slice a11 us.length c11) (ints us) from own_grown HO8.out hg9 (by
         rcases hv : (Value.slice a11 us.length c11).ownBlock with _ | b
         ·exact .inl rfl
         ·refine .inr fun e => ?_
          cases e
          have := (World.ownsRow.lt HO8.out gi hv).1
          omega))
        clear hg9 CR
        obtain ⟨y0, y1, y2, y3, y4, y5, y6⟩ := S9.out.ys
        go_wp2_with fail
        clear y0 y1 y2 y3 y4 y5 y6
        have CR := S9.out.refer c1 1 hcc (by simp only [refer1_len]; exact HK.out.len) (.inl rfl) (SmallR.mono (SmallR.refer (small_refs (kok_parts HK.out).2.1) HK.out.len (.inr rfl)) (by decide))
        simp only [CallV.on, CallV.onCells] at CR
        refine CR.mono ?_; rintro r w10 ⟨rfl, S10, hg10⟩
        have S10 := Lib.hid S10
        have HO10 := Lib.hid (show OwnInts W5.heap.size w10 (.slice a11 us.length c11) (ints us) from own_grown HO9.out hg10 (by
         rcases hv : (Value.slice a11 us.length c11).ownBlock with _ | b
         ·exact .inl rfl
         ·refine .inr fun e => ?_
          cases e
          have := (World.ownsRow.lt HO9.out gi hv).1
          omega))
        have hg5 := S5.out.lts.2.1
        clear hg10 CR
        go_wp2_with fail
        go_loopw [172] (fun s172 wr => ∃ j : Nat, j ≤ us.length ∧ s172 = .int .i64 j ∧ OwnInts W5.heap.size wr (.slice a11 us.length c11) (ints us) ∧ ∃ c', CS lo g w.heap.size ⟨k1, (en : Int), (an : Int), (bn : Int), c1, nm⟩ w wr (.slice (some ⟨gm, 0, none⟩) 12 capm) (.slice (some ⟨gi, 0, none⟩) 12 capi) (.slice (some ⟨ge, 0, none⟩) 3 cap) c' { k with mem := setWd k.mem an bn c1, infos := refer1 (refer1 k.infos (wdAt k.mem an bn) (-1)) c1 1, cache := dropsC (us.take j) k.cache }) (fun s172 _ => us.length - (intOf s172).toNat)
        case atStart => exact ⟨0, Nat.zero_le _, rfl, HO10.out, c, S10.out⟩
        case round =>
         obtain ⟨j, hj, rfl, hO, c', hS⟩ := hrel
         have HOr := Lib.hid hO
         have S := Lib.hid hS
         clear hS
         by_cases hlt : j < us.length
         ·obtain ⟨ax, cx, hvx, _, _, H0⟩ := hO.rd.open
          rw [ints_len] at hvx
          simp only [Value.slice.injEq] at hvx
          obtain ⟨rfl, _, rfl⟩ := hvx
          obtain ⟨bx, offx, rfl, DX⟩ := H0.at (k := j) (by rw [ints_len]; exact hlt)
          rw [nth_ints hlt] at DX
          obtain ⟨un, hun⟩ : ∃ u, u = us.getD j 0 := ⟨_, rfl⟩
          rw [← hun] at DX
          have HUN := Lib.hid hun
          obtain ⟨cc, hcc'⟩ : ∃ cc, cc = dropsC (us.take j) k.cache := ⟨_, rfl⟩
          have HCC := Lib.hid hcc'
          clear hun
          have hjl : (j : Int) < us.length := by omega
          obtain ⟨y0, _, _, _, _, _, _⟩ := S.out.ys
          obtain ⟨_, _, _, x3⟩ := S.out.xs
          obtain ⟨hlr, hgr, ngb, nbg⟩ := S.out.lts
          have RC : RdCache wr c' cc := by rw [hcc']; exact S.out.ink.2.2.2.2.2.rd
          clear hcc'
          have CD := Lib.hid (fun W (hW : Below wr.heap.size wr W) => CacheDrop_any c' cc (un : Int) W (RdF.below RC hW) (by rw [HCC.out]; exact dropsC_ok _ (kok_parts HK.out).2.2))
          clear RC H0 hO
          go_wp2_with fail
          clear DX
          refine wp_region_grow 11 Tryz.mixed (by kernel_rfl) 188 rfl (by kernel_rfl) (fun ix vv ww => match ix with
           | 0 => vv = .pointer (some ⟨w.heap.size, 0, none⟩)
           | 1 => vv = .pointer (some ⟨g, 0, none⟩)
           | 2 => vv = .pointer (some ⟨w.heap.size, 0, none⟩)
           | 3 => vv = .pointer (some ⟨g, 0, none⟩)
           | 4 => vv = .pointer (some ⟨g, 0, none⟩)
           | 5 => vv = .pointer (some ⟨g, 3, none⟩)
           | 6 => vv = c'
           | 7 => vv = .int .i64 ((un : Int))
           | 8 => OwnF wr.heap.size 94 4 cachedCs ww vv (dropC cc (un : Int))
           | 9 => vv = .pointer (some ⟨g, 0, none⟩)
           | 10 => vv = .pointer (some ⟨g, 3, none⟩)
           | _ => True) ?_ ?_ ?_
          ·intro i hi vv wz ww' hbz hz
           match i, hi with
           | 0, _ => exact hz
           | 1, _ => exact hz
           | 2, _ => exact hz
           | 3, _ => exact hz
           | 4, _ => exact hz
           | 5, _ => exact hz
           | 6, _ => exact hz
           | 7, _ => exact hz
           | 8, _ => exact (OwnF.below hz hbz)
           | 9, _ => exact hz
           | 10, _ => exact hz
          ·intro i hi o ho a wx Hb Hd hG K HK
           match i, hi with
           | 0, _ =>
            obtain rfl := Option.some.inj ho
            have e1 : a.tmps[1]?.getD undef = .pointer (some ⟨w.heap.size, 0, none⟩) := by rw [Hb.out.2.2 1 (by decide)]; rfl
            clear Hd Hb
            refine Does.of rfl ?_
            go_simp
            exact HK.out _ _ rfl (Below.refl _ _)
           | 1, _ =>
            obtain rfl := Option.some.inj ho
            have d0 := Hd.out 0 (by kernel_rfl)
            change (a.tmps[176]?.getD undef) = .pointer (some ⟨w.heap.size, 0, none⟩) at d0
            clear Hd Hb
            have m0 := (hG.cell (p := ⟨w.heap.size, 0, none⟩) hlr).trans y0
            refine Does.of rfl ?_
            go_simp
            exact HK.out _ _ rfl (Below.refl _ _)
           | 2, _ =>
            obtain rfl := Option.some.inj ho
            have e1 : a.tmps[1]?.getD undef = .pointer (some ⟨w.heap.size, 0, none⟩) := by rw [Hb.out.2.2 1 (by decide)]; rfl
            clear Hd Hb
            refine Does.of rfl ?_
            go_simp
            exact HK.out _ _ rfl (Below.refl _ _)
           | 3, _ =>
            obtain rfl := Option.some.inj ho
            have d2 := Hd.out 2 (by kernel_rfl)
            change (a.tmps[178]?.getD undef) = .pointer (some ⟨w.heap.size, 0, none⟩) at d2
            clear Hd Hb
            have m0 := (hG.cell (p := ⟨w.heap.size, 0, none⟩) hlr).trans y0
            refine Does.of rfl ?_
            go_simp
            exact HK.out _ _ rfl (Below.refl _ _)
           | 4, _ =>
            obtain rfl := Option.some.inj ho
            have d3 := Hd.out 3 (by kernel_rfl)
            change (a.tmps[179]?.getD undef) = .pointer (some ⟨g, 0, none⟩) at d3
            clear Hd Hb
            refine Does.of rfl ?_
            go_simp
            exact HK.out _ _ rfl (Below.refl _ _)
           | 5, _ =>
            obtain rfl := Option.some.inj ho
            have d4 := Hd.out 4 (by kernel_rfl)
            change (a.tmps[180]?.getD undef) = .pointer (some ⟨g, 0, none⟩) at d4
            clear Hd Hb
            refine Does.of rfl ?_
            go_simp
            exact HK.out _ _ rfl (Below.refl _ _)
           | 6, _ =>
            obtain rfl := Option.some.inj ho
            have d5 := Hd.out 5 (by kernel_rfl)
            change (a.tmps[181]?.getD undef) = .pointer (some ⟨g, 3, none⟩) at d5
            clear Hd Hb
            have m0 := (hG.cell (p := ⟨g, 3, none⟩) hgr).trans x3
            refine Does.of rfl ?_
            go_simp
            exact HK.out _ _ rfl (Below.refl _ _)
           | 7, _ =>
            obtain rfl := Option.some.inj ho
            have e16 : a.tmps[16]?.getD undef = .int .i64 ((un : Int)) := by rw [Hb.out.2.2 16 (by decide)]; rfl
            clear Hd Hb
            refine Does.of rfl ?_
            go_simp
            exact HK.out _ _ rfl (Below.refl _ _)
           | 8, _ =>
            obtain rfl := Option.some.inj ho
            have d6 := Hd.out 6 (by kernel_rfl)
            change (a.tmps[182]?.getD undef) = c' at d6
            have d7 := Hd.out 7 (by kernel_rfl)
            change (a.tmps[183]?.getD undef) = .int .i64 ((un : Int)) at d7
            clear Hd Hb
            refine Does.of rfl ?_
            go_simp
            refine (CD.out _ hG).mono ?_; rintro e w_ ⟨v', rfl, hO, hb2⟩
            exact HK.out _ _ (hO.lower hG.size) hb2
           | 9, _ =>
            obtain rfl := Option.some.inj ho
            have d1 := Hd.out 1 (by kernel_rfl)
            change (a.tmps[177]?.getD undef) = .pointer (some ⟨g, 0, none⟩) at d1
            clear Hd Hb
            refine Does.of rfl ?_
            go_simp
            exact HK.out _ _ rfl (Below.refl _ _)
           | 10, _ =>
            obtain rfl := Option.some.inj ho
            have d9 := Hd.out 9 (by kernel_rfl)
            change (a.tmps[185]?.getD undef) = .pointer (some ⟨g, 0, none⟩) at d9
            clear Hd Hb
            refine Does.of rfl ?_
            go_simp
            exact HK.out _ _ rfl (Below.refl _ _)
          ·intro vs wx hR hG
           have q1 := hR 1 (by decide)
           change (vs 1) = .pointer (some ⟨g, 0, none⟩) at q1
           have q8 := hR 8 (by decide)
           change OwnF wr.heap.size 94 4 cachedCs wx (vs 8) (dropC cc (un : Int)) at q8
           have q9 := hR 9 (by decide)
           change (vs 9) = .pointer (some ⟨g, 0, none⟩) at q9
           have q10 := hR 10 (by decide)
           change (vs 10) = .pointer (some ⟨g, 3, none⟩) at q10
           clear hR
           simp only [fillAt, dstOf, List.range, List.range.loop, List.foldl_cons, List.foldl_nil, q1, q9, q10]
           simp
           try generalize vs 0 = z0
           try generalize vs 2 = z2
           try generalize vs 3 = z3
           try generalize vs 4 = z4
           try generalize vs 5 = z5
           try generalize vs 6 = z6
           try generalize vs 7 = z7
           generalize vs 8 = z8 at q8 ⊢
           clear q1 q9 q10
           rw [HCC.out, HUN.out, ← dropsC_take hlt] at q8
           have S8 := Lib.hid (S.out.cache hG q8)
           have HOn := Lib.hid (own_keepI (j := 3) (u := z8) (OwnInts.below HOr.out hG) hg5)
           have fzg := blk_frozen (S.out.below hG).ink.1
           have x3w := (S.out.below hG).xs.2.2.2
           obtain ⟨_, _, rfl, _, _⟩ := q8.rd.shape
           clear q8 hG y0 x3
           go_wp2_with fail
           go_roundw
           case rel => exact ⟨j + 1, by omega, by go_num, HOn.out, _, S8.out⟩
           case measure => simp [intOf]; omega
         ·obtain rfl : j = us.length := by omega
          rw [List.take_length] at S
          have HE := Lib.hid (show setP k ⟨k1, (en : Int), (an : Int), (bn : Int), c1, nm⟩ = ({ k with mem := setWd k.mem an bn c1, infos := refer1 (refer1 k.infos (wdAt k.mem an bn) (-1)) c1 1, cache := dropsC us k.cache }, 0, 0) from HP4.out)
          go_wp2_with fail
          go_ret
          exact ⟨by rw [HE.out] <;> rfl, fun _ => ⟨_, _, _, _, by rw [HE.out]; exact S.out.ink⟩, S.out.bel⟩
    ·have t2 : ((infoAt k.infos f).k != (infoAt k.infos an).k - 1) = true := by simp [h0]
     have E := Lib.hid (show setP k ⟨k1, (en : Int), (an : Int), b1, c1, nm⟩ = (k, 0, 3) by rw [HP.out, if_pos (.inr (.inr (by rw [hwf]; exact decide_eq_false h0)))])
     refine wp_region_quiet_below Tryz.mixed (by kernel_rfl) ?_
     repeat (go_big_quiet_step (first | exact cT _ _ | exact cP _ _ | exact cN _ _))
     refine wpQuiet_nil ?_
     intro _ hw'
     obtain ⟨⟨dq, osq⟩, hw''⟩ := hw'
     subst hw''
     have bq := below_regrown W2 dq osq
     generalize Sort.grow (redrawn W2 dq) osq = wq at bq
     go_wp2_with fail
     go_ret
     exact Ends1.bad E.out (by decide) (S2.out.below bq).bel
end Go.Proofs.YtjacdlekgdnndaaGreatDoor
