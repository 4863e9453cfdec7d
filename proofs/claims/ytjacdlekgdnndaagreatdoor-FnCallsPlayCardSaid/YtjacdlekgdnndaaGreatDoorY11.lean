/-
  Packed: 6 texts.
-/
import Derived.Test.YtjacdlekgdnndaaGreatDoorY9
import Derived.Test.YtjacdlekgdnndaaGreatDoorY10
import Derived.Test.YtjacdlekgdnndaaGreatDoorY8
import Derived.Lib.Strings
import Derived.WalkKit
import Derived.Test.YtjacdlekgdnndaaGreatDoorY6
set_option linter.unusedVariables false
namespace Go.Proofs.YtjacdlekgdnndaaGreatDoor
open Go.RowKit
def frameQ (k : KernV) (c : CallV) : Res :=
 if c.k = 2 then giveP k c
 else if c.k = 3 then pokeP k c
 else if c.k = 4 then pinnedP k (pinP k.mem k.infos c.a.toNat c.b (envAt k.envs c.e.toNat).rights)
 else if c.k = 5 then pinnedP k (unpinP k.mem k.infos c.a.toNat)
 else setP k c
theorem pinCode_ne {n : Int} (h : n ≠ 0) : pinCode n ≠ 0 := by
 unfold pinCode
 rw [if_neg h]
 split <;> decide
set_option maxRecDepth 100000 in
set_option maxHeartbeats 4000000 in
theorem frameC_any {lo g : Nat} {w : World} {m i e c : Value} {k : KernV} (h : InK lo w g m i e c k) (hlo : lo ≤ w.heap.size) (hK : KOk k) (call : CallV) (he : 0 ≤ call.e) (hn : call.e < 3) (hk : 2 ≤ call.k ∧ call.k ≤ 6) (ha : 0 ≤ call.a ∧ call.a < 12) (hk4 : call.k = 4 → tabK call.b = true) (hcc : call.c ≤ 9223372036854775807) :
 Calls Tryz.prog 176 #[call.on g] w (Ends1 lo g w (frameQ k call)) := by
 have S0 := CS.start h hlo call
 have P : frameQ k call = if call.k = 2 then giveP k call else if call.k = 3 then pokeP k call else if call.k = 4 then pinnedP k (pinP k.mem k.infos call.a.toNat call.b (envAt k.envs call.e.toNat).rights) else if call.k = 5 then pinnedP k (unpinP k.mem k.infos call.a.toNat) else setP k call := rfl
 have CS6 := fun (W : World) (hW : Below (w.alloc (.cells (call.onCells g) 150)).heap.size (w.alloc (.cells (call.onCells g) 150)) W) => setC_any (S0.below hW).ink (S0.below hW).lo hK call he hn ha hcc
 obtain ⟨k1, e1, a1, b1, c1, nm⟩ := call
 obtain ⟨en, rfl⟩ : ∃ n : Nat, e1 = (n : Int) := ⟨e1.toNat, by simp only at he; omega⟩
 obtain ⟨an, rfl⟩ : ∃ n : Nat, a1 = (n : Int) := ⟨a1.toNat, by simp only at ha; omega⟩
 have hen : en < 3 := by simp only at hn; omega
 have han : an < 12 := by simp only at ha; omega
 simp only [CallV.on, CallV.onCells] at S0 P hk hk4 CS6 ⊢
 simp only [Int.toNat_natCast] at P
 obtain ⟨ge, cap, e9, _, ⟨⟨nge1, nge2⟩, nge3, nge4⟩, _⟩ := S0.envs (by rw [hK.envl]; omega)
 rw [hK.envl] at e9
 obtain ⟨gi, capi, e8, _, _, ⟨⟨ngi1, ngi2⟩, ngi3, ngi4⟩, _⟩ := S0.infos (by rw [hK.len]; omega)
 rw [hK.len] at e8
 obtain ⟨gm, capm, e7, _, ⟨ngm1, ngm2⟩, ngm3, ngm4⟩ := S0.mems (kok_parts hK).1
 subst e7 e8 e9
 obtain ⟨y0, y1, y2, y3, y4, y5, y6⟩ := S0.ys
 obtain ⟨x0, x1, x2, x3⟩ := S0.xs
 obtain ⟨d0, d1, d2⟩ := S0.infoAt (f := an) (by rw [hK.len]; exact han)
 have hani : (an : Int) < 12 := by omega
 obtain ⟨hl2, hgl2, ngb, nbg⟩ := S0.lts
 have HK := Lib.hid hK
 have HS := Lib.hid S0
 clear hK h S0 hlo he hn
 obtain ⟨kk1, kk2⟩ := hk
 have k5 : k1 = 2 ∨ k1 = 3 ∨ k1 = 4 ∨ k1 = 5 ∨ k1 = 6 := by omega
 clear kk1 kk2
 rcases k5 with rfl | rfl | rfl | rfl | rfl
 ·have HP := Lib.hid (show frameQ k ⟨2, (en : Int), (an : Int), b1, c1, nm⟩ = giveP k ⟨2, (en : Int), (an : Int), b1, c1, nm⟩ from P)
  have HG := Lib.hid (show giveP k ⟨2, (en : Int), (an : Int), b1, c1, nm⟩ = if (infoAt k.infos an).k ≠ 1 then (k, 0, 3) else if (infoAt k.infos an).r ≠ 0 then (k, 0, 2) else ({ k with infos := k.infos.set an InfoV.zero }, 0, 0) from rfl)
  clear P CS6
  by_cases h1 : (infoAt k.infos an).k = 1
  ·have t1 : ((infoAt k.infos an).k == 1) = true := by simp [h1]
   by_cases h2 : (infoAt k.infos an).r = 0
   ·have E := Lib.hid (show frameQ k ⟨2, (en : Int), (an : Int), b1, c1, nm⟩ = ({ k with infos := k.infos.set an InfoV.zero }, 0, 0) by rw [HP.out, HG.out, if_neg (by simp [h1]), if_neg (by simp [h2])])
    have H1 := Lib.hid h1
    have H2 := Lib.hid h2
    clear h1 h2
    go_enter Tryz.func176, Tryz.ntmps176
    go_wp2_with fail
    generalize w.alloc _ = W0 at *
    have CG := Lib.hid (InfosGive_yes _ k.infos an W0 HS.out.ink.2.2.2.1.rd (kok_parts HK.out).2.1 han H1.out H2.out)
    refine CG.out.mono ?_; rintro r w1 ⟨v', rfl, hO, hb⟩
    have S2 := Lib.hid (HS.out.newInfos hb hO)
    have fz := blk_frozen (HS.out.below hb).ink.1
    have x1 := (HS.out.below hb).xs.2.1
    have y0 := (HS.out.below hb).ys.1
    obtain ⟨_, _, rfl, _, _⟩ := hO.rd.shape
    rw [List.length_set] at S2
    clear hO hb
    go_wp2_with fail
    go_ret
    exact ⟨by rw [E.out] <;> rfl, fun _ => ⟨_, _, _, _, by rw [E.out]; exact S2.out.ink⟩, S2.out.bel⟩
   ·have E := Lib.hid (show frameQ k ⟨2, (en : Int), (an : Int), b1, c1, nm⟩ = (k, 0, 2) by rw [HP.out, HG.out, if_neg (by simp [h1]), if_pos h2])
    have H1 := Lib.hid h1
    have H2 := Lib.hid h2
    clear h1 h2
    go_enter Tryz.func176, Tryz.ntmps176
    go_wp2_with fail
    generalize w.alloc _ = W0 at *
    have CG := Lib.hid (InfosGive_no _ k.infos an W0 HS.out.ink.2.2.2.1.rd (kok_parts HK.out).2.1 han H1.out H2.out)
    refine CG.out.mono ?_; rintro r w1 ⟨rfl, hb⟩
    have S2 := Lib.hid (HS.out.below hb)
    go_wp2_with fail
    go_ret
    exact Ends1.bad E.out (by decide) S2.out.bel
  ·have t1 : ((infoAt k.infos an).k == 1) = false := by simp [h1]
   have E := Lib.hid (show frameQ k ⟨2, (en : Int), (an : Int), b1, c1, nm⟩ = (k, 0, 3) by rw [HP.out, HG.out, if_pos h1])
   clear h1
   go_enter Tryz.func176, Tryz.ntmps176
   go_wp2_with fail
   go_ret
   exact Ends1.bad E.out (by decide) HS.out.bel
 ·have HP := Lib.hid (show frameQ k ⟨3, (en : Int), (an : Int), b1, c1, nm⟩ = pokeP k ⟨3, (en : Int), (an : Int), b1, c1, nm⟩ from P)
  have HG := Lib.hid (show pokeP k ⟨3, (en : Int), (an : Int), b1, c1, nm⟩ = if (infoAt k.infos an).k ≠ 1 ∨ inB b1 0 3 = false ∨ wordOk c1 = false then (k, 0, 3) else ({ k with mem := setWd k.mem an b1.toNat c1 }, 0, 0) from rfl)
  clear P CS6
  have C0 := Lib.hid (fun W => same_below (isPlace_any b1 W))
  have C1 := Lib.hid (fun W => same_below (isWord_any c1 W))
  by_cases h1 : (infoAt k.infos an).k = 1
  ·have t1 : ((infoAt k.infos an).k == 1) = true := by simp [h1]
   have H1 := Lib.hid h1
   clear h1
   go_enter Tryz.func176, Tryz.ntmps176
   go_wp2_with fail
   generalize w.alloc _ = W0 at *
   cases h2 : inB b1 0 3
   ·have E := Lib.hid (show frameQ k ⟨3, (en : Int), (an : Int), b1, c1, nm⟩ = (k, 0, 3) by rw [HP.out, HG.out, if_pos (.inr (.inl h2))])
    have T := Lib.hid h2
    clear h2
    refine (C0.out _).mono ?_; rintro r w1 ⟨rfl, hb⟩; rw [T.out]
    have S2 := Lib.hid (HS.out.below hb)
    clear y0 y1 y2 y3 y4 y5 y6 x0 x1 x2 x3 d0 d1 d2
    go_wp2_with fail
    go_ret
    exact Ends1.bad E.out (by decide) S2.out.bel
   ·have T := Lib.hid h2
    have hbb := inB_iff.1 h2
    obtain ⟨bn, rfl⟩ : ∃ n : Nat, b1 = (n : Int) := ⟨b1.toNat, by omega⟩
    have hb4 : bn < 4 := by omega
    clear h2 hbb
    refine (C0.out _).mono ?_; rintro r W1 ⟨rfl, hb⟩; rw [T.out]
    have S1 := Lib.hid (HS.out.below hb)
    clear y0 y1 y2 y3 y4 y5 y6 x0 x1 x2 x3 d0 d1 d2 hb
    obtain ⟨y0, y1, y2, y3, y4, y5, y6⟩ := S1.out.ys
    go_wp2_with fail
    cases h3 : inB c1 0 9999
    ·have E := Lib.hid (show frameQ k ⟨3, (en : Int), (an : Int), (bn : Int), c1, nm⟩ = (k, 0, 3) by rw [HP.out, HG.out, if_pos (.inr (.inr h3))])
     have T3 := Lib.hid h3
     clear h3
     refine (C1.out _).mono ?_; rintro r w1 ⟨rfl, hb⟩; rw [T3.out]
     have S2 := Lib.hid (S1.out.below hb)
     clear y0 y1 y2 y3 y4 y5 y6
     go_wp2_with fail
     go_ret
     exact Ends1.bad E.out (by decide) S2.out.bel
    ·have T3 := Lib.hid h3
     have E := Lib.hid (show frameQ k ⟨3, (en : Int), (an : Int), (bn : Int), c1, nm⟩ = ({ k with mem := setWd k.mem an bn c1 }, 0, 0) by rw [HP.out, HG.out, if_neg (by rintro (x | x | x); (· exact x H1.out); (· rw [T.out] at x; cases x); (· rw [show wordOk c1 = true from h3] at x; cases x)), Int.toNat_natCast])
     clear h3
     refine (C1.out _).mono ?_; rintro r W2 ⟨rfl, hb⟩; rw [T3.out]
     have S2 := Lib.hid (S1.out.below hb)
     clear y0 y1 y2 y3 y4 y5 y6 hb
     obtain ⟨y0, _, _, _, y4, y5, _⟩ := S2.out.ys
     obtain ⟨x0, _, _, _⟩ := S2.out.xs
     obtain ⟨hl2, hgl2, _, _⟩ := S2.out.lts
     obtain ⟨gw, capw, Dw, hgw, hcw, Dj, fzw, ⟨⟨ngw1, ngw2⟩, ngw3, ngw4⟩, _, _, _⟩ := S2.out.mrow (kok_parts HK.out).1 (f := an) han
     have hgm2 := World.block_lt_of_cell? _ _ Dw
     have hb4i : (bn : Int) < 4 := by omega
     clear Dj fzw
     go_wp2_with fail
     refine wp_region_grow 15 Tryz.mixed (by kernel_rfl) 139 rfl (by kernel_rfl) (fun ix vv ww => match ix with
      | 0 => vv = .pointer (some ⟨w.heap.size, 0, none⟩)
      | 1 => vv = .pointer (some ⟨g, 0, none⟩)
      | 2 => vv = .pointer (some ⟨g, 0, none⟩)
      | 3 => vv = .pointer (some ⟨g, 0, none⟩)
      | 4 => vv = .slice (some ⟨gm, 0, none⟩) 12 capm
      | 5 => vv = .int .i64 ((an : Int))
      | 6 => vv = .pointer (some ⟨gm, an, none⟩)
      | 7 => vv = .slice (some ⟨gw, 0, none⟩) 4 capw
      | 8 => vv = .pointer (some ⟨w.heap.size, 1, none⟩)
      | 9 => vv = .pointer (some ⟨w.heap.size, 4, none⟩)
      | 10 => vv = .int .i64 ((bn : Int))
      | 11 => vv = .pointer (some ⟨w.heap.size, 1, none⟩)
      | 12 => vv = .pointer (some ⟨w.heap.size, 5, none⟩)
      | 13 => vv = .int .i64 c1
      | 14 => vv = .pointer (some ⟨gw, bn, none⟩)
      | _ => True) ?_ ?_ ?_
     ·intro i hi vv wz ww' hbz hz
      match i, hi with
      | 0, _ => exact hz
      | 1, _ => exact hz
      | 2, _ => exact hz
      | 3, _ => exact hz
      | 4, _ => exact hz
      | 5, _ => exact hz
      | 6, _ => exact hz
      | 7, _ => exact hz
      | 8, _ => exact hz
      | 9, _ => exact hz
      | 10, _ => exact hz
      | 11, _ => exact hz
      | 12, _ => exact hz
      | 13, _ => exact hz
      | 14, _ => exact hz
      | _ + 15, hq => exact absurd hq (by omega)
     ·intro i hi o ho a wx Hb Hd hG K HK
      match i, hi with
      | 0, _ =>
       obtain rfl := Option.some.inj ho
       have e1 : a.tmps[1]?.getD undef = .pointer (some ⟨w.heap.size, 0, none⟩) := by rw [Hb.out.2.2 1 (by decide)]; rfl
       clear Hd Hb
       refine Does.of rfl ?_
       go_simp
       exact HK.out _ _ rfl (Below.refl _ _)
      | 1, _ =>
       obtain rfl := Option.some.inj ho
       have d0 := Hd.out 0 (by kernel_rfl)
       change (a.tmps[68]?.getD undef) = .pointer (some ⟨w.heap.size, 0, none⟩) at d0
       clear Hd Hb
       have m0 := (hG.cell (p := ⟨w.heap.size, 0, none⟩) hl2).trans y0
       refine Does.of rfl ?_
       go_simp
       exact HK.out _ _ rfl (Below.refl _ _)
      | 2, _ =>
       obtain rfl := Option.some.inj ho
       have d1 := Hd.out 1 (by kernel_rfl)
       change (a.tmps[69]?.getD undef) = .pointer (some ⟨g, 0, none⟩) at d1
       clear Hd Hb
       refine Does.of rfl ?_
       go_simp
       exact HK.out _ _ rfl (Below.refl _ _)
      | 3, _ =>
       obtain rfl := Option.some.inj ho
       have d2 := Hd.out 2 (by kernel_rfl)
       change (a.tmps[70]?.getD undef) = .pointer (some ⟨g, 0, none⟩) at d2
       clear Hd Hb
       refine Does.of rfl ?_
       go_simp
       exact HK.out _ _ rfl (Below.refl _ _)
      | 4, _ =>
       obtain rfl := Option.some.inj ho
       have d3 := Hd.out 3 (by kernel_rfl)
       change (a.tmps[71]?.getD undef) = .pointer (some ⟨g, 0, none⟩) at d3
       clear Hd Hb
       have m0 := (hG.cell (p := ⟨g, 0, none⟩) hgl2).trans x0
       refine Does.of rfl ?_
       go_simp
       exact HK.out _ _ rfl (Below.refl _ _)
      | 5, _ =>
       obtain rfl := Option.some.inj ho
       have e3 : a.tmps[3]?.getD undef = .int .i64 ((an : Int)) := by rw [Hb.out.2.2 3 (by decide)]; rfl
       clear Hd Hb
       refine Does.of rfl ?_
       go_simp
       exact HK.out _ _ rfl (Below.refl _ _)
      | 6, _ =>
       obtain rfl := Option.some.inj ho
       have d4 := Hd.out 4 (by kernel_rfl)
       change (a.tmps[72]?.getD undef) = .slice (some ⟨gm, 0, none⟩) 12 capm at d4
       have d5 := Hd.out 5 (by kernel_rfl)
       change (a.tmps[73]?.getD undef) = .int .i64 ((an : Int)) at d5
       clear Hd Hb
       refine Does.of rfl ?_
       go_simp
       exact HK.out _ _ rfl (Below.refl _ _)
      | 7, _ =>
       obtain rfl := Option.some.inj ho
       have d6 := Hd.out 6 (by kernel_rfl)
       change (a.tmps[74]?.getD undef) = .pointer (some ⟨gm, an, none⟩) at d6
       clear Hd Hb
       have m0 := (hG.cell (p := ⟨gm, an, none⟩) hgm2).trans Dw
       refine Does.of rfl ?_
       go_simp
       exact HK.out _ _ rfl (Below.refl _ _)
      | 8, _ =>
       obtain rfl := Option.some.inj ho
       have e1 : a.tmps[1]?.getD undef = .pointer (some ⟨w.heap.size, 0, none⟩) := by rw [Hb.out.2.2 1 (by decide)]; rfl
       clear Hd Hb
       refine Does.of rfl ?_
       go_simp
       exact HK.out _ _ rfl (Below.refl _ _)
      | 9, _ =>
       obtain rfl := Option.some.inj ho
       have d8 := Hd.out 8 (by kernel_rfl)
       change (a.tmps[76]?.getD undef) = .pointer (some ⟨w.heap.size, 1, none⟩) at d8
       clear Hd Hb
       refine Does.of rfl ?_
       go_simp
       exact HK.out _ _ rfl (Below.refl _ _)
      | 10, _ =>
       obtain rfl := Option.some.inj ho
       have d9 := Hd.out 9 (by kernel_rfl)
       change (a.tmps[77]?.getD undef) = .pointer (some ⟨w.heap.size, 4, none⟩) at d9
       clear Hd Hb
       have m0 := (hG.cell (p := ⟨w.heap.size, 4, none⟩) hl2).trans y4
       refine Does.of rfl ?_
       go_simp
       exact HK.out _ _ rfl (Below.refl _ _)
      | 11, _ =>
       obtain rfl := Option.some.inj ho
       have e1 : a.tmps[1]?.getD undef = .pointer (some ⟨w.heap.size, 0, none⟩) := by rw [Hb.out.2.2 1 (by decide)]; rfl
       clear Hd Hb
       refine Does.of rfl ?_
       go_simp
       exact HK.out _ _ rfl (Below.refl _ _)
      | 12, _ =>
       obtain rfl := Option.some.inj ho
       have d11 := Hd.out 11 (by kernel_rfl)
       change (a.tmps[79]?.getD undef) = .pointer (some ⟨w.heap.size, 1, none⟩) at d11
       clear Hd Hb
       refine Does.of rfl ?_
       go_simp
       exact HK.out _ _ rfl (Below.refl _ _)
      | 13, _ =>
       obtain rfl := Option.some.inj ho
       have d12 := Hd.out 12 (by kernel_rfl)
       change (a.tmps[80]?.getD undef) = .pointer (some ⟨w.heap.size, 5, none⟩) at d12
       clear Hd Hb
       have m0 := (hG.cell (p := ⟨w.heap.size, 5, none⟩) hl2).trans y5
       refine Does.of rfl ?_
       go_simp
       exact HK.out _ _ rfl (Below.refl _ _)
      | 14, _ =>
       obtain rfl := Option.some.inj ho
       have d7 := Hd.out 7 (by kernel_rfl)
       change (a.tmps[75]?.getD undef) = .slice (some ⟨gw, 0, none⟩) 4 capw at d7
       have d10 := Hd.out 10 (by kernel_rfl)
       change (a.tmps[78]?.getD undef) = .int .i64 ((bn : Int)) at d10
       clear Hd Hb
       refine Does.of rfl ?_
       go_simp
       exact HK.out _ _ rfl (Below.refl _ _)
      | _ + 15, hq => exact absurd hq (by omega)
     ·intro vs wx hR hG
      have q13 := hR 13 (by decide)
      change (vs 13) = .int .i64 c1 at q13
      have q14 := hR 14 (by decide)
      change (vs 14) = .pointer (some ⟨gw, bn, none⟩) at q14
      clear hR
      simp only [fillAt, dstOf, List.range, List.range.loop, List.foldl_cons, List.foldl_nil, q13, q14]
      simp
      try generalize vs 0 = z0
      try generalize vs 1 = z1
      try generalize vs 2 = z2
      try generalize vs 3 = z3
      try generalize vs 4 = z4
      try generalize vs 5 = z5
      try generalize vs 6 = z6
      try generalize vs 7 = z7
      try generalize vs 8 = z8
      try generalize vs 9 = z9
      try generalize vs 10 = z10
      try generalize vs 11 = z11
      try generalize vs 12 = z12
      clear q13 q14
      have S3 := Lib.hid (S2.out.below hG)
      obtain ⟨gw', capw', Dw', _, _, Dj, fzw, _, _, _, SW⟩ := S3.out.mrow (kok_parts HK.out).1 (f := an) han
      have hsame := (hG.cell (p := ⟨gm, an, none⟩) hgm2).trans Dw
      rw [hsame] at Dw'
      have hgg : gw = gw' := by simp at Dw'; exact Dw'.1
      subst hgg
      have Dv := Dj bn hb4
      have fz := fzw bn
      have S4 := Lib.hid (SW bn c1 hb4)
      clear hG y0 y4 y5 x0 Dw Dw' hsame Dj fzw SW
      go_wp2_with fail
      go_ret
      exact ⟨by rw [E.out] <;> rfl, fun _ => ⟨_, _, _, _, by rw [E.out]; exact S4.out.ink⟩, S4.out.bel⟩
  ·have t1 : ((infoAt k.infos an).k == 1) = false := by simp [h1]
   have E := Lib.hid (show frameQ k ⟨3, (en : Int), (an : Int), b1, c1, nm⟩ = (k, 0, 3) by rw [HP.out, HG.out, if_pos (.inl h1)])
   clear h1
   go_enter Tryz.func176, Tryz.ntmps176
   go_wp2_with fail
   go_ret
   exact Ends1.bad E.out (by decide) HS.out.bel
 ·have hkt := hk4 rfl
  have HP := Lib.hid (show frameQ k ⟨4, (en : Int), (an : Int), b1, c1, nm⟩ = pinnedP k (pinP k.mem k.infos an b1 (envAt k.envs en).rights) from P)
  obtain ⟨xs, cd, hp⟩ : ∃ xs cd, pinP k.mem k.infos an b1 (envAt k.envs en).rights = (xs, cd) := ⟨_, _, rfl⟩
  have HPp := Lib.hid hp
  clear P CS6 hp
  by_cases h1 : (infoAt k.infos an).k = 1
  all_goals
   first
   | have t1 : ((infoAt k.infos an).k == 1) = true := by simp [h1]
   | have t1 : ((infoAt k.infos an).k == 1) = false := by simp [h1]
   clear h1
   go_enter Tryz.func176, Tryz.ntmps176
   go_wp2_with fail
   generalize w.alloc _ = W2 at *
   have hge := HS.out.ge_lt
   obtain ⟨ua, uc, D0, D1, R⟩ := HS.out.env (j := en) (by rw [HK.out.envl]; exact hen)
   have CE := Lib.hid (fun W (hW : Below W2.heap.size W2 W) => HS.out.callEnv (en := en) rfl hen W hW)
   simp only [CallV.on, CallV.onCells] at CE
   have CT0 := fun W (hW : Below W2.heap.size W2 W) => TablePin_any _ _ _ k.mem k.infos an b1 (envAt k.envs en).rights W (RdRows.below HS.out.ink.2.2.rd.1 hW) (kok_parts HK.out).1 (RdF.below HS.out.ink.2.2.2.1.rd hW) (kok_parts HK.out).2.1 han hkt (RdF.below R hW) (small_rights (HK.out.rights en hen)) (HK.out.rights en hen)
   rw [HPp.out] at CT0
   unfold PinRes at CT0
   simp only at CT0
   have CT := Lib.hid CT0
   clear CT0 R D1
   refine wp_region_grow 24 Tryz.mixed (by kernel_rfl) 139 rfl (by kernel_rfl) (fun ix vv ww => match ix with
    | 0 => vv = .pointer (some ⟨w.heap.size, 0, none⟩)
    | 1 => vv = .pointer (some ⟨g, 0, none⟩)
    | 2 => vv = .pointer (some ⟨g, 0, none⟩)
    | 3 => vv = .pointer (some ⟨g, 0, none⟩)
    | 4 => vv = .slice (some ⟨gm, 0, none⟩) 12 capm
    | 5 => vv = .pointer (some ⟨w.heap.size, 0, none⟩)
    | 6 => vv = .pointer (some ⟨g, 0, none⟩)
    | 7 => vv = .pointer (some ⟨g, 0, none⟩)
    | 8 => vv = .pointer (some ⟨g, 1, none⟩)
    | 9 => vv = .slice (some ⟨gi, 0, none⟩) 12 capi
    | 10 => vv = .int .i64 ((an : Int))
    | 11 => vv = .pointer (some ⟨w.heap.size, 1, none⟩)
    | 12 => vv = .pointer (some ⟨w.heap.size, 4, none⟩)
    | 13 => vv = .int .i64 b1
    | 14 => vv = .agg #[.pointer (some ⟨g, 0, none⟩), .int .i64 4, .int .i64 ((en : Int)), .int .i64 ((an : Int)), .int .i64 b1, .int .i64 c1, .string nm]
    | 15 => vv = .pointer (some ⟨ge, en * 2, none⟩)
    | 16 => vv = .pointer (some ⟨ge, en * 2, none⟩)
    | 17 => vv = .pointer (some ⟨ge, en * 2, none⟩)
    | 18 => vv = .slice ua (envAt k.envs en).rights.length uc
    | 19 => ∃ v', vv = .tuple #[v', .int .i64 cd] ∧ OwnF W2.heap.size 89 3 infoCs ww v' xs
    | 20 => ∃ v', vv = .tuple #[v', .int .i64 cd] ∧ OwnF W2.heap.size 89 3 infoCs ww v' xs
    | 21 => OwnF W2.heap.size 89 3 infoCs ww vv xs
    | 22 => vv = .int .i64 cd
    | 23 => OwnF W2.heap.size 89 3 infoCs ww vv xs
    | _ => True) ?_ ?_ ?_
   ·intro i hi vv wz ww' hbz hz
    match i, hi with
    | 0, _ => exact hz
    | 1, _ => exact hz
    | 2, _ => exact hz
    | 3, _ => exact hz
    | 4, _ => exact hz
    | 5, _ => exact hz
    | 6, _ => exact hz
    | 7, _ => exact hz
    | 8, _ => exact hz
    | 9, _ => exact hz
    | 10, _ => exact hz
    | 11, _ => exact hz
    | 12, _ => exact hz
    | 13, _ => exact hz
    | 14, _ => exact hz
    | 15, _ => exact hz
    | 16, _ => exact hz
    | 17, _ => exact hz
    | 18, _ => exact hz
    | 19, _ => exact (by obtain ⟨v', h0, h1⟩ := hz; exact ⟨v', h0, OwnF.below h1 hbz⟩)
    | 20, _ => exact (by obtain ⟨v', h0, h1⟩ := hz; exact ⟨v', h0, OwnF.below h1 hbz⟩)
    | 21, _ => exact (OwnF.below hz hbz)
    | 22, _ => exact hz
    | 23, _ => exact (OwnF.below hz hbz)
    | _ + 24, hq => exact absurd hq (by omega)
   ·intro i hi o ho a wx Hb Hd hG K HK
    match i, hi with
    | 0, _ =>
     obtain rfl := Option.some.inj ho
     have e1 : a.tmps[1]?.getD undef = .pointer (some ⟨w.heap.size, 0, none⟩) := by rw [Hb.out.2.2 1 (by decide)]; rfl
     clear Hd Hb
     refine Does.of rfl ?_
     go_simp
     exact HK.out _ _ rfl (Below.refl _ _)
    | 1, _ =>
     obtain rfl := Option.some.inj ho
     have d0 := Hd.out 0 (by kernel_rfl)
     change (a.tmps[86]?.getD undef) = .pointer (some ⟨w.heap.size, 0, none⟩) at d0
     clear Hd Hb
     have m0 := (hG.cell (p := ⟨w.heap.size, 0, none⟩) hl2).trans y0
     refine Does.of rfl ?_
     go_simp
     exact HK.out _ _ rfl (Below.refl _ _)
    | 2, _ =>
     obtain rfl := Option.some.inj ho
     have d1 := Hd.out 1 (by kernel_rfl)
     change (a.tmps[87]?.getD undef) = .pointer (some ⟨g, 0, none⟩) at d1
     clear Hd Hb
     refine Does.of rfl ?_
     go_simp
     exact HK.out _ _ rfl (Below.refl _ _)
    | 3, _ =>
     obtain rfl := Option.some.inj ho
     have d2 := Hd.out 2 (by kernel_rfl)
     change (a.tmps[88]?.getD undef) = .pointer (some ⟨g, 0, none⟩) at d2
     clear Hd Hb
     refine Does.of rfl ?_
     go_simp
     exact HK.out _ _ rfl (Below.refl _ _)
    | 4, _ =>
     obtain rfl := Option.some.inj ho
     have d3 := Hd.out 3 (by kernel_rfl)
     change (a.tmps[89]?.getD undef) = .pointer (some ⟨g, 0, none⟩) at d3
     clear Hd Hb
     have m0 := (hG.cell (p := ⟨g, 0, none⟩) hgl2).trans x0
     refine Does.of rfl ?_
     go_simp
     exact HK.out _ _ rfl (Below.refl _ _)
    | 5, _ =>
     obtain rfl := Option.some.inj ho
     have e1 : a.tmps[1]?.getD undef = .pointer (some ⟨w.heap.size, 0, none⟩) := by rw [Hb.out.2.2 1 (by decide)]; rfl
     clear Hd Hb
     refine Does.of rfl ?_
     go_simp
     exact HK.out _ _ rfl (Below.refl _ _)
    | 6, _ =>
     obtain rfl := Option.some.inj ho
     have d5 := Hd.out 5 (by kernel_rfl)
     change (a.tmps[91]?.getD undef) = .pointer (some ⟨w.heap.size, 0, none⟩) at d5
     clear Hd Hb
     have m0 := (hG.cell (p := ⟨w.heap.size, 0, none⟩) hl2).trans y0
     refine Does.of rfl ?_
     go_simp
     exact HK.out _ _ rfl (Below.refl _ _)
    | 7, _ =>
     obtain rfl := Option.some.inj ho
     have d6 := Hd.out 6 (by kernel_rfl)
     change (a.tmps[92]?.getD undef) = .pointer (some ⟨g, 0, none⟩) at d6
     clear Hd Hb
     refine Does.of rfl ?_
     go_simp
     exact HK.out _ _ rfl (Below.refl _ _)
    | 8, _ =>
     obtain rfl := Option.some.inj ho
     have d7 := Hd.out 7 (by kernel_rfl)
     change (a.tmps[93]?.getD undef) = .pointer (some ⟨g, 0, none⟩) at d7
     clear Hd Hb
     refine Does.of rfl ?_
     go_simp
     exact HK.out _ _ rfl (Below.refl _ _)
    | 9, _ =>
     obtain rfl := Option.some.inj ho
     have d8 := Hd.out 8 (by kernel_rfl)
     change (a.tmps[94]?.getD undef) = .pointer (some ⟨g, 1, none⟩) at d8
     clear Hd Hb
     have m0 := (hG.cell (p := ⟨g, 1, none⟩) hgl2).trans x1
     refine Does.of rfl ?_
     go_simp
     exact HK.out _ _ rfl (Below.refl _ _)
    | 10, _ =>
     obtain rfl := Option.some.inj ho
     have e3 : a.tmps[3]?.getD undef = .int .i64 ((an : Int)) := by rw [Hb.out.2.2 3 (by decide)]; rfl
     clear Hd Hb
     refine Does.of rfl ?_
     go_simp
     exact HK.out _ _ rfl (Below.refl _ _)
    | 11, _ =>
     obtain rfl := Option.some.inj ho
     have e1 : a.tmps[1]?.getD undef = .pointer (some ⟨w.heap.size, 0, none⟩) := by rw [Hb.out.2.2 1 (by decide)]; rfl
     clear Hd Hb
     refine Does.of rfl ?_
     go_simp
     exact HK.out _ _ rfl (Below.refl _ _)
    | 12, _ =>
     obtain rfl := Option.some.inj ho
     have d11 := Hd.out 11 (by kernel_rfl)
     change (a.tmps[97]?.getD undef) = .pointer (some ⟨w.heap.size, 1, none⟩) at d11
     clear Hd Hb
     refine Does.of rfl ?_
     go_simp
     exact HK.out _ _ rfl (Below.refl _ _)
    | 13, _ =>
     obtain rfl := Option.some.inj ho
     have d12 := Hd.out 12 (by kernel_rfl)
     change (a.tmps[98]?.getD undef) = .pointer (some ⟨w.heap.size, 4, none⟩) at d12
     clear Hd Hb
     have m0 := (hG.cell (p := ⟨w.heap.size, 4, none⟩) hl2).trans y4
     refine Does.of rfl ?_
     go_simp
     exact HK.out _ _ rfl (Below.refl _ _)
    | 14, _ =>
     obtain rfl := Option.some.inj ho
     have e1 : a.tmps[1]?.getD undef = .pointer (some ⟨w.heap.size, 0, none⟩) := by rw [Hb.out.2.2 1 (by decide)]; rfl
     clear Hd Hb
     have m0 := (hG.cell (p := ⟨w.heap.size, 0, none⟩) hl2).trans y0
     have m1 := (hG.cell (p := ⟨w.heap.size, 1, none⟩) hl2).trans y1
     have m2 := (hG.cell (p := ⟨w.heap.size, 2, none⟩) hl2).trans y2
     have m3 := (hG.cell (p := ⟨w.heap.size, 3, none⟩) hl2).trans y3
     have m4 := (hG.cell (p := ⟨w.heap.size, 4, none⟩) hl2).trans y4
     have m5 := (hG.cell (p := ⟨w.heap.size, 5, none⟩) hl2).trans y5
     have m6 := (hG.cell (p := ⟨w.heap.size, 6, none⟩) hl2).trans y6
     refine Does.of rfl ?_
     go_simp
     exact HK.out _ _ rfl (Below.refl _ _)
    | 15, _ =>
     obtain rfl := Option.some.inj ho
     have d14 := Hd.out 14 (by kernel_rfl)
     change (a.tmps[100]?.getD undef) = .agg #[.pointer (some ⟨g, 0, none⟩), .int .i64 4, .int .i64 ((en : Int)), .int .i64 ((an : Int)), .int .i64 b1, .int .i64 c1, .string nm] at d14
     clear Hd Hb
     refine Does.of rfl ?_
     go_simp
     refine (CE.out _ hG).mono ?_; rintro e w_ ⟨rfl, hb2⟩
     exact HK.out _ _ rfl hb2
    | 16, _ =>
     obtain rfl := Option.some.inj ho
     have d15 := Hd.out 15 (by kernel_rfl)
     change (a.tmps[101]?.getD undef) = .pointer (some ⟨ge, en * 2, none⟩) at d15
     clear Hd Hb
     refine Does.of rfl ?_
     go_simp
     exact HK.out _ _ rfl (Below.refl _ _)
    | 17, _ =>
     obtain rfl := Option.some.inj ho
     have d16 := Hd.out 16 (by kernel_rfl)
     change (a.tmps[102]?.getD undef) = .pointer (some ⟨ge, en * 2, none⟩) at d16
     clear Hd Hb
     refine Does.of rfl ?_
     go_simp
     exact HK.out _ _ rfl (Below.refl _ _)
    | 18, _ =>
     obtain rfl := Option.some.inj ho
     have d17 := Hd.out 17 (by kernel_rfl)
     change (a.tmps[103]?.getD undef) = .pointer (some ⟨ge, en * 2, none⟩) at d17
     clear Hd Hb
     have m0 := (hG.cell (p := ⟨ge, en * 2, none⟩) hge).trans D0
     refine Does.of rfl ?_
     go_simp
     exact HK.out _ _ rfl (Below.refl _ _)
    | 19, _ =>
     obtain rfl := Option.some.inj ho
     have d4 := Hd.out 4 (by kernel_rfl)
     change (a.tmps[90]?.getD undef) = .slice (some ⟨gm, 0, none⟩) 12 capm at d4
     have d9 := Hd.out 9 (by kernel_rfl)
     change (a.tmps[95]?.getD undef) = .slice (some ⟨gi, 0, none⟩) 12 capi at d9
     have d10 := Hd.out 10 (by kernel_rfl)
     change (a.tmps[96]?.getD undef) = .int .i64 ((an : Int)) at d10
     have d13 := Hd.out 13 (by kernel_rfl)
     change (a.tmps[99]?.getD undef) = .int .i64 b1 at d13
     have d18 := Hd.out 18 (by kernel_rfl)
     change (a.tmps[104]?.getD undef) = .slice ua (envAt k.envs en).rights.length uc at d18
     clear Hd Hb
     refine Does.of rfl ?_
     go_simp
     refine (CT.out _ hG).mono ?_; rintro e w_ ⟨v', rfl, hO, hb2⟩
     exact HK.out _ _ ⟨_, rfl, hO.lower hG.size⟩ hb2
    | 20, _ =>
     obtain rfl := Option.some.inj ho
     have d19 := Hd.out 19 (by kernel_rfl)
     change ∃ v', (a.tmps[105]?.getD undef) = .tuple #[v', .int .i64 cd] ∧ OwnF W2.heap.size 89 3 infoCs wx v' xs at d19
     clear Hd Hb
     obtain ⟨v', d19, hO⟩ := d19
     refine Does.of rfl ?_
     go_simp
     exact HK.out _ _ ⟨_, rfl, hO⟩ (Below.refl _ _)
    | 21, _ =>
     obtain rfl := Option.some.inj ho
     have d20 := Hd.out 20 (by kernel_rfl)
     change ∃ v', (a.tmps[85]?.getD undef) = .tuple #[v', .int .i64 cd] ∧ OwnF W2.heap.size 89 3 infoCs wx v' xs at d20
     clear Hd Hb
     obtain ⟨v', d20, hO⟩ := d20
     refine Does.of rfl ?_
     go_simp
     exact HK.out _ _ hO (Below.refl _ _)
    | 22, _ =>
     obtain rfl := Option.some.inj ho
     have d20 := Hd.out 20 (by kernel_rfl)
     change ∃ v', (a.tmps[85]?.getD undef) = .tuple #[v', .int .i64 cd] ∧ OwnF W2.heap.size 89 3 infoCs wx v' xs at d20
     clear Hd Hb
     obtain ⟨v', d20, hO⟩ := d20
     refine Does.of rfl ?_
     go_simp
     exact HK.out _ _ rfl (Below.refl _ _)
    | 23, _ =>
     obtain rfl := Option.some.inj ho
     have d21 := Hd.out 21 (by kernel_rfl)
     change OwnF W2.heap.size 89 3 infoCs wx (a.tmps[106]?.getD undef) xs at d21
     clear Hd Hb
     refine Does.of rfl ?_
     go_simp
     exact HK.out _ _ d21 (Below.refl _ _)
    | _ + 24, hq => exact absurd hq (by omega)
   ·intro vs wx hR hG
    have q22 := hR 22 (by decide)
    change (vs 22) = .int .i64 cd at q22
    have q23 := hR 23 (by decide)
    change OwnF W2.heap.size 89 3 infoCs wx (vs 23) xs at q23
    clear hR
    simp only [fillAt, dstOf, List.range, List.range.loop, List.foldl_cons, List.foldl_nil, q22]
    simp
    try generalize vs 0 = z0
    try generalize vs 1 = z1
    try generalize vs 2 = z2
    try generalize vs 3 = z3
    try generalize vs 4 = z4
    try generalize vs 5 = z5
    try generalize vs 6 = z6
    try generalize vs 7 = z7
    try generalize vs 8 = z8
    try generalize vs 9 = z9
    try generalize vs 10 = z10
    try generalize vs 11 = z11
    try generalize vs 12 = z12
    try generalize vs 13 = z13
    try generalize vs 14 = z14
    try generalize vs 15 = z15
    try generalize vs 16 = z16
    try generalize vs 17 = z17
    try generalize vs 18 = z18
    try generalize vs 19 = z19
    try generalize vs 20 = z20
    try generalize vs 21 = z21
    generalize vs 23 = z23 at q23 ⊢
    clear q22
    have S3 := Lib.hid (HS.out.newInfos hG q23)
    have fzg := blk_frozen (HS.out.below hG).ink.1
    have x1w := (HS.out.below hG).xs.2.1
    have y0w := (HS.out.below hG).ys.1
    have CC := Lib.hid (fun W => pinCode_any cd W)
    obtain ⟨_, _, rfl, _, _⟩ := q23.rd.shape
    clear q23 hG y0 y1 y2 y3 y4 y5 y6 x0 x1 x2 x3 d0 d1 d2 D0
    go_wp2_with fail
    refine (CC.out _).mono ?_; rintro r w9 ⟨rfl, rfl⟩
    go_wp2_with fail
    go_ret
    by_cases h0 : cd = 0
    ·subst h0
     have E : frameQ k ⟨4, (en : Int), (an : Int), b1, c1, nm⟩ = ({ k with infos := xs }, 0, 0) := by rw [HP.out, HPp.out]; rfl
     exact ⟨by rw [E] <;> rfl, fun _ => ⟨_, _, _, _, by rw [E]; exact S3.out.ink⟩, S3.out.bel⟩
    ·have E : frameQ k ⟨4, (en : Int), (an : Int), b1, c1, nm⟩ = (k, 0, pinCode cd) := by
      rw [HP.out, HPp.out]
      unfold pinnedP
      rw [if_neg h0]
     exact Ends1.bad E (pinCode_ne h0) S3.out.bel
 ·have HP := Lib.hid (show frameQ k ⟨5, (en : Int), (an : Int), b1, c1, nm⟩ = pinnedP k (unpinP k.mem k.infos an) from P)
  obtain ⟨xs, cd, hp⟩ : ∃ xs cd, unpinP k.mem k.infos an = (xs, cd) := ⟨_, _, rfl⟩
  have HPp := Lib.hid hp
  clear P CS6 hp
  by_cases h1 : (infoAt k.infos an).k = 1
  all_goals
   first
   | have t1 : ((infoAt k.infos an).k == 1) = true := by simp [h1]
   | have t1 : ((infoAt k.infos an).k == 1) = false := by simp [h1]
   clear h1
   go_enter Tryz.func176, Tryz.ntmps176
   go_wp2_with fail
   generalize w.alloc _ = W2 at *
   have hge := HS.out.ge_lt
   obtain ⟨ua, uc, D0, D1, R⟩ := HS.out.env (j := en) (by rw [HK.out.envl]; exact hen)
   have CE := Lib.hid (fun W (hW : Below W2.heap.size W2 W) => HS.out.callEnv (en := en) rfl hen W hW)
   simp only [CallV.on, CallV.onCells] at CE
   have CT0 := fun W (hW : Below W2.heap.size W2 W) => TableUnpin_any _ _ k.mem k.infos an W (RdRows.below HS.out.ink.2.2.rd.1 hW) (kok_parts HK.out).1 (RdF.below HS.out.ink.2.2.2.1.rd hW) (kok_parts HK.out).2.1 han
   rw [HPp.out] at CT0
   unfold PinRes at CT0
   simp only at CT0
   have CT := Lib.hid CT0
   clear CT0 R D1
   refine wp_region_grow 16 Tryz.mixed (by kernel_rfl) 139 rfl (by kernel_rfl) (fun ix vv ww => match ix with
    | 0 => vv = .pointer (some ⟨w.heap.size, 0, none⟩)
    | 1 => vv = .pointer (some ⟨g, 0, none⟩)
    | 2 => vv = .pointer (some ⟨g, 0, none⟩)
    | 3 => vv = .pointer (some ⟨g, 0, none⟩)
    | 4 => vv = .slice (some ⟨gm, 0, none⟩) 12 capm
    | 5 => vv = .pointer (some ⟨w.heap.size, 0, none⟩)
    | 6 => vv = .pointer (some ⟨g, 0, none⟩)
    | 7 => vv = .pointer (some ⟨g, 0, none⟩)
    | 8 => vv = .pointer (some ⟨g, 1, none⟩)
    | 9 => vv = .slice (some ⟨gi, 0, none⟩) 12 capi
    | 10 => vv = .int .i64 ((an : Int))
    | 11 => ∃ v', vv = .tuple #[v', .int .i64 cd] ∧ OwnF W2.heap.size 89 3 infoCs ww v' xs
    | 12 => ∃ v', vv = .tuple #[v', .int .i64 cd] ∧ OwnF W2.heap.size 89 3 infoCs ww v' xs
    | 13 => OwnF W2.heap.size 89 3 infoCs ww vv xs
    | 14 => vv = .int .i64 cd
    | 15 => OwnF W2.heap.size 89 3 infoCs ww vv xs
    | _ => True) ?_ ?_ ?_
   ·intro i hi vv wz ww' hbz hz
    match i, hi with
    | 0, _ => exact hz
    | 1, _ => exact hz
    | 2, _ => exact hz
    | 3, _ => exact hz
    | 4, _ => exact hz
    | 5, _ => exact hz
    | 6, _ => exact hz
    | 7, _ => exact hz
    | 8, _ => exact hz
    | 9, _ => exact hz
    | 10, _ => exact hz
    | 11, _ => exact (by obtain ⟨v', h0, h1⟩ := hz; exact ⟨v', h0, OwnF.below h1 hbz⟩)
    | 12, _ => exact (by obtain ⟨v', h0, h1⟩ := hz; exact ⟨v', h0, OwnF.below h1 hbz⟩)
    | 13, _ => exact (OwnF.below hz hbz)
    | 14, _ => exact hz
    | 15, _ => exact (OwnF.below hz hbz)
    | _ + 16, hq => exact absurd hq (by omega)
   ·intro i hi o ho a wx Hb Hd hG K HK
    match i, hi with
    | 0, _ =>
     obtain rfl := Option.some.inj ho
     have e1 : a.tmps[1]?.getD undef = .pointer (some ⟨w.heap.size, 0, none⟩) := by rw [Hb.out.2.2 1 (by decide)]; rfl
     clear Hd Hb
     refine Does.of rfl ?_
     go_simp
     exact HK.out _ _ rfl (Below.refl _ _)
    | 1, _ =>
     obtain rfl := Option.some.inj ho
     have d0 := Hd.out 0 (by kernel_rfl)
     change (a.tmps[118]?.getD undef) = .pointer (some ⟨w.heap.size, 0, none⟩) at d0
     clear Hd Hb
     have m0 := (hG.cell (p := ⟨w.heap.size, 0, none⟩) hl2).trans y0
     refine Does.of rfl ?_
     go_simp
     exact HK.out _ _ rfl (Below.refl _ _)
    | 2, _ =>
     obtain rfl := Option.some.inj ho
     have d1 := Hd.out 1 (by kernel_rfl)
     change (a.tmps[119]?.getD undef) = .pointer (some ⟨g, 0, none⟩) at d1
     clear Hd Hb
     refine Does.of rfl ?_
     go_simp
     exact HK.out _ _ rfl (Below.refl _ _)
    | 3, _ =>
     obtain rfl := Option.some.inj ho
     have d2 := Hd.out 2 (by kernel_rfl)
     change (a.tmps[120]?.getD undef) = .pointer (some ⟨g, 0, none⟩) at d2
     clear Hd Hb
     refine Does.of rfl ?_
     go_simp
     exact HK.out _ _ rfl (Below.refl _ _)
    | 4, _ =>
     obtain rfl := Option.some.inj ho
     have d3 := Hd.out 3 (by kernel_rfl)
     change (a.tmps[121]?.getD undef) = .pointer (some ⟨g, 0, none⟩) at d3
     clear Hd Hb
     have m0 := (hG.cell (p := ⟨g, 0, none⟩) hgl2).trans x0
     refine Does.of rfl ?_
     go_simp
     exact HK.out _ _ rfl (Below.refl _ _)
    | 5, _ =>
     obtain rfl := Option.some.inj ho
     have e1 : a.tmps[1]?.getD undef = .pointer (some ⟨w.heap.size, 0, none⟩) := by rw [Hb.out.2.2 1 (by decide)]; rfl
     clear Hd Hb
     refine Does.of rfl ?_
     go_simp
     exact HK.out _ _ rfl (Below.refl _ _)
    | 6, _ =>
     obtain rfl := Option.some.inj ho
     have d5 := Hd.out 5 (by kernel_rfl)
     change (a.tmps[123]?.getD undef) = .pointer (some ⟨w.heap.size, 0, none⟩) at d5
     clear Hd Hb
     have m0 := (hG.cell (p := ⟨w.heap.size, 0, none⟩) hl2).trans y0
     refine Does.of rfl ?_
     go_simp
     exact HK.out _ _ rfl (Below.refl _ _)
    | 7, _ =>
     obtain rfl := Option.some.inj ho
     have d6 := Hd.out 6 (by kernel_rfl)
     change (a.tmps[124]?.getD undef) = .pointer (some ⟨g, 0, none⟩) at d6
     clear Hd Hb
     refine Does.of rfl ?_
     go_simp
     exact HK.out _ _ rfl (Below.refl _ _)
    | 8, _ =>
     obtain rfl := Option.some.inj ho
     have d7 := Hd.out 7 (by kernel_rfl)
     change (a.tmps[125]?.getD undef) = .pointer (some ⟨g, 0, none⟩) at d7
     clear Hd Hb
     refine Does.of rfl ?_
     go_simp
     exact HK.out _ _ rfl (Below.refl _ _)
    | 9, _ =>
     obtain rfl := Option.some.inj ho
     have d8 := Hd.out 8 (by kernel_rfl)
     change (a.tmps[126]?.getD undef) = .pointer (some ⟨g, 1, none⟩) at d8
     clear Hd Hb
     have m0 := (hG.cell (p := ⟨g, 1, none⟩) hgl2).trans x1
     refine Does.of rfl ?_
     go_simp
     exact HK.out _ _ rfl (Below.refl _ _)
    | 10, _ =>
     obtain rfl := Option.some.inj ho
     have e3 : a.tmps[3]?.getD undef = .int .i64 ((an : Int)) := by rw [Hb.out.2.2 3 (by decide)]; rfl
     clear Hd Hb
     refine Does.of rfl ?_
     go_simp
     exact HK.out _ _ rfl (Below.refl _ _)
    | 11, _ =>
     obtain rfl := Option.some.inj ho
     have d4 := Hd.out 4 (by kernel_rfl)
     change (a.tmps[122]?.getD undef) = .slice (some ⟨gm, 0, none⟩) 12 capm at d4
     have d9 := Hd.out 9 (by kernel_rfl)
     change (a.tmps[127]?.getD undef) = .slice (some ⟨gi, 0, none⟩) 12 capi at d9
     have d10 := Hd.out 10 (by kernel_rfl)
     change (a.tmps[128]?.getD undef) = .int .i64 ((an : Int)) at d10
     clear Hd Hb
     refine Does.of rfl ?_
     go_simp
     refine (CT.out _ hG).mono ?_; rintro e w_ ⟨v', rfl, hO, hb2⟩
     exact HK.out _ _ ⟨_, rfl, hO.lower hG.size⟩ hb2
    | 12, _ =>
     obtain rfl := Option.some.inj ho
     have d11 := Hd.out 11 (by kernel_rfl)
     change ∃ v', (a.tmps[129]?.getD undef) = .tuple #[v', .int .i64 cd] ∧ OwnF W2.heap.size 89 3 infoCs wx v' xs at d11
     clear Hd Hb
     obtain ⟨v', d11, hO⟩ := d11
     refine Does.of rfl ?_
     go_simp
     exact HK.out _ _ ⟨_, rfl, hO⟩ (Below.refl _ _)
    | 13, _ =>
     obtain rfl := Option.some.inj ho
     have d12 := Hd.out 12 (by kernel_rfl)
     change ∃ v', (a.tmps[117]?.getD undef) = .tuple #[v', .int .i64 cd] ∧ OwnF W2.heap.size 89 3 infoCs wx v' xs at d12
     clear Hd Hb
     obtain ⟨v', d12, hO⟩ := d12
     refine Does.of rfl ?_
     go_simp
     exact HK.out _ _ hO (Below.refl _ _)
    | 14, _ =>
     obtain rfl := Option.some.inj ho
     have d12 := Hd.out 12 (by kernel_rfl)
     change ∃ v', (a.tmps[117]?.getD undef) = .tuple #[v', .int .i64 cd] ∧ OwnF W2.heap.size 89 3 infoCs wx v' xs at d12
     clear Hd Hb
     obtain ⟨v', d12, hO⟩ := d12
     refine Does.of rfl ?_
     go_simp
     exact HK.out _ _ rfl (Below.refl _ _)
    | 15, _ =>
     obtain rfl := Option.some.inj ho
     have d13 := Hd.out 13 (by kernel_rfl)
     change OwnF W2.heap.size 89 3 infoCs wx (a.tmps[130]?.getD undef) xs at d13
     clear Hd Hb
     refine Does.of rfl ?_
     go_simp
     exact HK.out _ _ d13 (Below.refl _ _)
    | _ + 16, hq => exact absurd hq (by omega)
   ·intro vs wx hR hG
    have q14 := hR 14 (by decide)
    change (vs 14) = .int .i64 cd at q14
    have q15 := hR 15 (by decide)
    change OwnF W2.heap.size 89 3 infoCs wx (vs 15) xs at q15
    clear hR
    simp only [fillAt, dstOf, List.range, List.range.loop, List.foldl_cons, List.foldl_nil, q14]
    simp
    try generalize vs 0 = z0
    try generalize vs 1 = z1
    try generalize vs 2 = z2
    try generalize vs 3 = z3
    try generalize vs 4 = z4
    try generalize vs 5 = z5
    try generalize vs 6 = z6
    try generalize vs 7 = z7
    try generalize vs 8 = z8
    try generalize vs 9 = z9
    try generalize vs 10 = z10
    try generalize vs 11 = z11
    try generalize vs 12 = z12
    try generalize vs 13 = z13
    generalize vs 15 = z15 at q15 ⊢
    clear q14
    have S3 := Lib.hid (HS.out.newInfos hG q15)
    have fzg := blk_frozen (HS.out.below hG).ink.1
    have x1w := (HS.out.below hG).xs.2.1
    have y0w := (HS.out.below hG).ys.1
    have CC := Lib.hid (fun W => pinCode_any cd W)
    obtain ⟨_, _, rfl, _, _⟩ := q15.rd.shape
    clear q15 hG y0 y1 y2 y3 y4 y5 y6 x0 x1 x2 x3 d0 d1 d2 D0
    go_wp2_with fail
    refine (CC.out _).mono ?_; rintro r w9 ⟨rfl, rfl⟩
    go_wp2_with fail
    go_ret
    by_cases h0 : cd = 0
    ·subst h0
     have E : frameQ k ⟨5, (en : Int), (an : Int), b1, c1, nm⟩ = ({ k with infos := xs }, 0, 0) := by rw [HP.out, HPp.out]; rfl
     exact ⟨by rw [E] <;> rfl, fun _ => ⟨_, _, _, _, by rw [E]; exact S3.out.ink⟩, S3.out.bel⟩
    ·have E : frameQ k ⟨5, (en : Int), (an : Int), b1, c1, nm⟩ = (k, 0, pinCode cd) := by
      rw [HP.out, HPp.out]
      unfold pinnedP
      rw [if_neg h0]
     exact Ends1.bad E (pinCode_ne h0) S3.out.bel
 ·have HP := Lib.hid (show frameQ k ⟨6, (en : Int), (an : Int), b1, c1, nm⟩ = setP k ⟨6, (en : Int), (an : Int), b1, c1, nm⟩ from P)
  have HC6 := Lib.hid CS6
  clear P CS6 d1 d2
  by_cases h1 : (infoAt k.infos an).k = 1
  all_goals
   first
   | have t1 : ((infoAt k.infos an).k == 1) = true := by simp [h1]
   | have t1 : ((infoAt k.infos an).k == 1) = false := by simp [h1]
   clear h1
   go_enter Tryz.func176, Tryz.ntmps176
   go_wp2_with fail
   generalize w.alloc _ = W0 at *
   refine (HC6.out W0 (Below.refl _ _)).mono ?_; rintro r w1 ⟨rfl, hK6, hb⟩
   go_wp2_with fail
   go_ret
   exact ⟨by rw [HP.out] <;> rfl, fun h => by rw [HP.out] at h ⊢; exact hK6 h, (HS.out.bel).trans hb⟩
end Go.Proofs.YtjacdlekgdnndaaGreatDoor
set_option linter.unusedVariables false
namespace Go.Proofs.YtjacdlekgdnndaaGreatDoor
open Go.RowKit
theorem rootP_val {k : KernV} {c : CallV} : (rootP k c).2.1 = 0 := by
 unfold rootP
 split
 ·rfl
 ·split <;> rfl
theorem grantP_val {k : KernV} {c : CallV} : (grantP k c).2.1 = 0 := by
 unfold grantP
 split
 ·rfl
 ·split
  ·rfl
  ·split <;> rfl
theorem revokeP_val {k : KernV} {c : CallV} : (revokeP k c).2.1 = 0 := by
 unfold revokeP
 split
 ·rfl
 ·split
  ·rfl
  ·split <;> rfl
theorem setP_val {k : KernV} {c : CallV} : (setP k c).2.1 = 0 := by
 unfold setP
 split
 ·rfl
 ·split
  ·rfl
  ·split <;> rfl
theorem pinnedP_val {k : KernV} {r : List InfoV × Int} : (pinnedP k r).2.1 = 0 := by
 unfold pinnedP
 split <;> rfl
theorem frameQ_val {k : KernV} {c : CallV} : (frameQ k c).2.1 = 0 := by
 unfold frameQ
 split
 ·unfold giveP
  split
  ·rfl
  ·split <;> rfl
 ·split
  ·unfold pokeP
   split <;> rfl
  ·split
   ·exact pinnedP_val
   ·split
    ·exact pinnedP_val
    ·exact setP_val
theorem Ends1.two {lo g : Nat} {w W : World} {res : Res} {r : Ending} {w' : World} (h : Ends1 lo g W res r w') (hv : res.2.1 = 0) (hb : Below lo w W) : ∃ n, r = .returned (.int .i64 n) ∧ Ends2 lo g w res (.returned (.tuple #[.int .i64 0, .int .i64 n])) w' := by
 obtain ⟨h1, h2, h3⟩ := h
 exact ⟨_, h1, by rw [hv], h2, hb.trans h3⟩
theorem Ends2.of {lo g : Nat} {w W : World} {res : Res} {r : Ending} {w' : World} (h : Ends2 lo g W res r w') (hb : Below lo w W) : ∃ v n, r = .returned (.tuple #[.int .i64 v, .int .i64 n]) ∧ Ends2 lo g w res (.returned (.tuple #[.int .i64 v, .int .i64 n])) w' := by
 obtain ⟨h1, h2, h3⟩ := h
 exact ⟨_, _, h1, rfl, h2, hb.trans h3⟩
theorem frameP_eq {k : KernV} {c : CallV} : frameP k c = if inB c.a 0 11 = false ∨ (infoAt k.infos c.a.toNat).k = 0 ∨ (c.k = 4 ∧ tabK c.b = false) then (k, 0, 3) else if mayE k c.e (infoAt k.infos c.a.toNat).g = false then (k, 0, 1) else frameQ k c := rfl
set_option maxRecDepth 100000 in
set_option maxHeartbeats 8000000 in
theorem doC_any {lo g : Nat} {w : World} {m i e c : Value} {k : KernV} (h : InK lo w g m i e c k) (hlo : lo ≤ w.heap.size) (hK : KOk k) (call : CallV) (he : 0 ≤ call.e) (hn : call.e < 3) (hnm : call.nm.size ≤ maxLen) (hcc : call.c ≤ 9223372036854775807) :
 Calls Tryz.prog 109 #[call.on g] w (Ends2 lo g w (callP k call)) := by
 have S0 := CS.start h hlo call
 obtain ⟨k1, e1, a1, b1, c1, nm⟩ := call
 obtain ⟨en, rfl⟩ : ∃ n : Nat, e1 = (n : Int) := ⟨e1.toNat, by simp only at he; omega⟩
 have hen : en < 3 := by simp only at hn; omega
 simp only [CallV.on, CallV.onCells] at S0 hnm hcc ⊢
 obtain ⟨ge, cap, e9, _, ⟨⟨nge1, nge2⟩, nge3, nge4⟩, _⟩ := S0.envs (by rw [hK.envl]; omega)
 rw [hK.envl] at e9
 obtain ⟨gi, capi, e8, _, _, ⟨⟨ngi1, ngi2⟩, ngi3, ngi4⟩, _⟩ := S0.infos (by rw [hK.len]; omega)
 rw [hK.len] at e8
 obtain ⟨gm, capm, e7, _, ⟨ngm1, ngm2⟩, ngm3, ngm4⟩ := S0.mems (kok_parts hK).1
 subst e7 e8 e9
 obtain ⟨y0, y1, y2, y3, y4, y5, y6⟩ := S0.ys
 obtain ⟨x0, x1, x2, x3⟩ := S0.xs
 have HK := Lib.hid hK
 have HS := Lib.hid S0
 clear hK h S0 hlo he hn
 by_cases k1e : k1 = 1
 ·subst k1e
  have HP := Lib.hid (show callP k ⟨1, (en : Int), a1, b1, c1, nm⟩ = takeP k ⟨1, (en : Int), a1, b1, c1, nm⟩ from rfl)
  go_enter Tryz.func109, Tryz.ntmps109
  go_wp2_with fail
  generalize w.alloc _ = W0 at *
  have C := takeC_any HS.out.ink HS.out.lo HK.out ⟨1, (en : Int), a1, b1, c1, nm⟩ (by simp) (by simp only; omega) hnm
  simp only [CallV.on, CallV.onCells] at C
  refine C.mono ?_; rintro r w1 hr
  obtain ⟨v, n, rfl, hE⟩ := Ends2.of hr HS.out.bel
  have HE := Lib.hid hE
  clear hr hE C y0 y1 y2 y3 y4 y5 y6 x0 x1 x2 x3
  go_wp2_with fail
  go_ret2
  rw [HP.out]; exact HE.out
 by_cases k2e : k1 = 2
 ·subst k2e
  have HP := Lib.hid (show callP k ⟨2, (en : Int), a1, b1, c1, nm⟩ = frameP k ⟨2, (en : Int), a1, b1, c1, nm⟩ from rfl)
  cases hfr : inB a1 0 11
  ·have E := Lib.hid (show callP k ⟨2, (en : Int), a1, b1, c1, nm⟩ = (k, 0, 3) by rw [HP.out, frameP_eq, if_pos (.inl hfr)])
   go_enter Tryz.func109, Tryz.ntmps109
   go_wp2_with fail
   generalize w.alloc _ = W0 at *
   have cF := RegS (w1 := W0) (fun W => isFrame_any a1 W)
   have cT := RegS (w1 := W0) (fun W => isTable_any b1 W)
   rw [hfr] at cF
   replace y1 := cell_regrown y1
   replace y3 := cell_regrown y3
   clear y0 y2 y4 y5 y6 x0 x1 x2 x3 hfr
   refine wp_region_quiet_below Tryz.mixed (by kernel_rfl) ?_
   repeat (go_big_quiet_step (first | exact cF _ _ | exact cT _ _))
   refine wpQuiet_nil ?_
   intro _ hw'
   obtain ⟨⟨dq, osq⟩, hw''⟩ := hw'
   subst hw''
   have bq := below_regrown W0 dq osq
   generalize Sort.grow (redrawn W0 dq) osq = wq at bq
   clear y1 y3
   go_wp2_with fail
   go_ret2
   exact Ends2.bad E.out (by decide) (HS.out.below bq).bel
  have T := Lib.hid hfr
  obtain ⟨an, rfl⟩ : ∃ n : Nat, a1 = (n : Int) := ⟨a1.toNat, by have := (inB_iff.1 hfr).1; omega⟩
  have han : an < 12 := by have := (inB_iff.1 hfr).2; omega
  have hai : (an : Int) < 12 := by omega
  clear hfr
  go_enter Tryz.func109, Tryz.ntmps109
  go_wp2_with fail
  generalize w.alloc _ = W0 at *
  obtain ⟨d0, d1, _⟩ := HS.out.infoAt (f := an) (by rw [HK.out.len]; exact han)
  have cF := RegS (w1 := W0) (fun W => isFrame_any (an : Int) W)
  have cT := RegS (w1 := W0) (fun W => isTable_any b1 W)
  rw [T.out] at cF
  replace y0 := cell_regrown y0
  replace y1 := cell_regrown y1
  replace y2 := cell_regrown y2
  replace y3 := cell_regrown y3
  replace y4 := cell_regrown y4
  replace y5 := cell_regrown y5
  replace y6 := cell_regrown y6
  replace x1 := cell_regrown x1
  replace d0 := cell_regrown d0
  replace d1 := cell_regrown d1
  clear x0 x2 x3
  by_cases h0 : (infoAt k.infos an).k = 0
  ·have E := Lib.hid (show callP k ⟨2, (en : Int), (an : Int), b1, c1, nm⟩ = (k, 0, 3) by rw [HP.out, frameP_eq, if_pos (.inr (.inl h0))])
   have t0 : ((infoAt k.infos an).k == 0) = true := by simp [h0]
   clear h0
   refine wp_region_quiet_below Tryz.mixed (by kernel_rfl) ?_
   repeat (go_big_quiet_step (first | exact cF _ _ | exact cT _ _))
   refine wpQuiet_nil ?_
   intro _ hw'
   obtain ⟨⟨dq, osq⟩, hw''⟩ := hw'
   subst hw''
   have bq := below_regrown W0 dq osq
   generalize Sort.grow (redrawn W0 dq) osq = wq at bq
   clear y0 y1 y2 y3 y4 y5 y6 x1 d0 d1 t0
   go_wp2_with fail
   go_ret2
   exact Ends2.bad E.out (by decide) (HS.out.below bq).bel
  have H0 := Lib.hid h0
  have t0 : ((infoAt k.infos an).k == 0) = false := by simp [h0]
  clear h0
  have HP2 := Lib.hid (show callP k ⟨2, (en : Int), (an : Int), b1, c1, nm⟩ = if mayE k (en : Int) (infoAt k.infos an).g = false then (k, 0, 1) else frameQ k ⟨2, (en : Int), (an : Int), b1, c1, nm⟩ by rw [HP.out, frameP_eq, if_neg (by rintro (x | x | ⟨x, _⟩); (· rw [T.out] at x; cases x); (· exact H0.out x); (· simp at x))] <;> rfl)
  refine wp_region_quiet_below Tryz.mixed (by kernel_rfl) ?_
  repeat (go_big_quiet_step (first | exact cF _ _ | exact cT _ _))
  refine wpQuiet_nil ?_
  intro _ hw'
  obtain ⟨⟨dq, osq⟩, hw''⟩ := hw'
  subst hw''
  have bq := below_regrown W0 dq osq
  generalize Sort.grow (redrawn W0 dq) osq = wq at bq
  have S1 := Lib.hid (HS.out.below bq)
  obtain ⟨W1, rfl⟩ : ∃ W1 : World, W1 = wq := ⟨_, rfl⟩
  clear y0 y1 y2 y3 y4 y5 y6 x1 d0 d1 t0 cF cT bq
  obtain ⟨y0, y1, y2, y3, y4, y5, y6⟩ := S1.out.ys
  have x1 := S1.out.xs.2.1
  obtain ⟨_, d1, _⟩ := S1.out.infoAt (f := an) (by rw [HK.out.len]; exact han)
  have CM := RegB (w1 := W1) (fun W hW => may_c (S1.out.below hW).ink ⟨2, (en : Int), (an : Int), b1, c1, nm⟩ (infoAt k.infos an).g (by simp) (by rw [HK.out.envl]; simp only; omega))
  simp only [CallV.on, CallV.onCells] at CM
  replace y0 := cell_regrown y0
  replace y1 := cell_regrown y1
  replace y2 := cell_regrown y2
  replace y3 := cell_regrown y3
  replace y4 := cell_regrown y4
  replace y5 := cell_regrown y5
  replace y6 := cell_regrown y6
  replace x1 := cell_regrown x1
  replace d1 := cell_regrown d1
  cases hm : mayE k (en : Int) (infoAt k.infos an).g
  ·have E := Lib.hid (show callP k ⟨2, (en : Int), (an : Int), b1, c1, nm⟩ = (k, 0, 1) by rw [HP2.out, if_pos hm])
   rw [hm] at CM
   clear hm
   go_wp2_with fail
   refine wp_region_quiet_below Tryz.mixed (by kernel_rfl) ?_
   repeat (go_big_quiet_step (exact CM _ _))
   refine wpQuiet_nil ?_
   intro _ hw'
   obtain ⟨⟨dq, osq⟩, hw''⟩ := hw'
   subst hw''
   have bq := below_regrown W1 dq osq
   generalize Sort.grow (redrawn W1 dq) osq = wq at bq
   clear y0 y1 y2 y3 y4 y5 y6 x1 d1
   go_wp2_with fail
   go_ret2
   exact Ends2.bad E.out (by decide) (S1.out.below bq).bel
  have HP3 := Lib.hid (show callP k ⟨2, (en : Int), (an : Int), b1, c1, nm⟩ = frameQ k ⟨2, (en : Int), (an : Int), b1, c1, nm⟩ by rw [HP2.out, if_neg (by rw [hm]; decide)])
  rw [hm] at CM
  clear hm
  go_wp2_with fail
  refine wp_region_quiet_below Tryz.mixed (by kernel_rfl) ?_
  repeat (go_big_quiet_step (exact CM _ _))
  refine wpQuiet_nil ?_
  intro _ hw'
  obtain ⟨⟨dq, osq⟩, hw''⟩ := hw'
  subst hw''
  have bq := below_regrown W1 dq osq
  generalize Sort.grow (redrawn W1 dq) osq = wq at bq
  have S2 := Lib.hid (S1.out.below bq)
  obtain ⟨W2, rfl⟩ : ∃ W2 : World, W2 = wq := ⟨_, rfl⟩
  clear y0 y1 y2 y3 y4 y5 y6 x1 d1 bq CM
  obtain ⟨y0, y1, y2, y3, y4, y5, y6⟩ := S2.out.ys
  go_wp2_with fail
  have C := frameC_any S2.out.ink S2.out.lo HK.out ⟨2, (en : Int), (an : Int), b1, c1, nm⟩ (by simp) (by simp only; omega) (by simp) (by simp only; omega) (by intro x; simp at x) hcc
  simp only [CallV.on, CallV.onCells] at C
  refine C.mono ?_; rintro r w1 hr
  obtain ⟨n, rfl, hE⟩ := Ends1.two hr frameQ_val S2.out.bel
  have HE := Lib.hid hE
  clear hr hE C y0 y1 y2 y3 y4 y5 y6
  go_wp2_with fail
  go_ret2
  rw [HP3.out]; exact HE.out
 by_cases k3e : k1 = 3
 ·subst k3e
  have HP := Lib.hid (show callP k ⟨3, (en : Int), a1, b1, c1, nm⟩ = frameP k ⟨3, (en : Int), a1, b1, c1, nm⟩ from rfl)
  cases hfr : inB a1 0 11
  ·have E := Lib.hid (show callP k ⟨3, (en : Int), a1, b1, c1, nm⟩ = (k, 0, 3) by rw [HP.out, frameP_eq, if_pos (.inl hfr)])
   go_enter Tryz.func109, Tryz.ntmps109
   go_wp2_with fail
   generalize w.alloc _ = W0 at *
   have cF := RegS (w1 := W0) (fun W => isFrame_any a1 W)
   have cT := RegS (w1 := W0) (fun W => isTable_any b1 W)
   rw [hfr] at cF
   replace y1 := cell_regrown y1
   replace y3 := cell_regrown y3
   clear y0 y2 y4 y5 y6 x0 x1 x2 x3 hfr
   refine wp_region_quiet_below Tryz.mixed (by kernel_rfl) ?_
   repeat (go_big_quiet_step (first | exact cF _ _ | exact cT _ _))
   refine wpQuiet_nil ?_
   intro _ hw'
   obtain ⟨⟨dq, osq⟩, hw''⟩ := hw'
   subst hw''
   have bq := below_regrown W0 dq osq
   generalize Sort.grow (redrawn W0 dq) osq = wq at bq
   clear y1 y3
   go_wp2_with fail
   go_ret2
   exact Ends2.bad E.out (by decide) (HS.out.below bq).bel
  have T := Lib.hid hfr
  obtain ⟨an, rfl⟩ : ∃ n : Nat, a1 = (n : Int) := ⟨a1.toNat, by have := (inB_iff.1 hfr).1; omega⟩
  have han : an < 12 := by have := (inB_iff.1 hfr).2; omega
  have hai : (an : Int) < 12 := by omega
  clear hfr
  go_enter Tryz.func109, Tryz.ntmps109
  go_wp2_with fail
  generalize w.alloc _ = W0 at *
  obtain ⟨d0, d1, _⟩ := HS.out.infoAt (f := an) (by rw [HK.out.len]; exact han)
  have cF := RegS (w1 := W0) (fun W => isFrame_any (an : Int) W)
  have cT := RegS (w1 := W0) (fun W => isTable_any b1 W)
  rw [T.out] at cF
  replace y0 := cell_regrown y0
  replace y1 := cell_regrown y1
  replace y2 := cell_regrown y2
  replace y3 := cell_regrown y3
  replace y4 := cell_regrown y4
  replace y5 := cell_regrown y5
  replace y6 := cell_regrown y6
  replace x1 := cell_regrown x1
  replace d0 := cell_regrown d0
  replace d1 := cell_regrown d1
  clear x0 x2 x3
  by_cases h0 : (infoAt k.infos an).k = 0
  ·have E := Lib.hid (show callP k ⟨3, (en : Int), (an : Int), b1, c1, nm⟩ = (k, 0, 3) by rw [HP.out, frameP_eq, if_pos (.inr (.inl h0))])
   have t0 : ((infoAt k.infos an).k == 0) = true := by simp [h0]
   clear h0
   refine wp_region_quiet_below Tryz.mixed (by kernel_rfl) ?_
   repeat (go_big_quiet_step (first | exact cF _ _ | exact cT _ _))
   refine wpQuiet_nil ?_
   intro _ hw'
   obtain ⟨⟨dq, osq⟩, hw''⟩ := hw'
   subst hw''
   have bq := below_regrown W0 dq osq
   generalize Sort.grow (redrawn W0 dq) osq = wq at bq
   clear y0 y1 y2 y3 y4 y5 y6 x1 d0 d1 t0
   go_wp2_with fail
   go_ret2
   exact Ends2.bad E.out (by decide) (HS.out.below bq).bel
  have H0 := Lib.hid h0
  have t0 : ((infoAt k.infos an).k == 0) = false := by simp [h0]
  clear h0
  have HP2 := Lib.hid (show callP k ⟨3, (en : Int), (an : Int), b1, c1, nm⟩ = if mayE k (en : Int) (infoAt k.infos an).g = false then (k, 0, 1) else frameQ k ⟨3, (en : Int), (an : Int), b1, c1, nm⟩ by rw [HP.out, frameP_eq, if_neg (by rintro (x | x | ⟨x, _⟩); (· rw [T.out] at x; cases x); (· exact H0.out x); (· simp at x))] <;> rfl)
  refine wp_region_quiet_below Tryz.mixed (by kernel_rfl) ?_
  repeat (go_big_quiet_step (first | exact cF _ _ | exact cT _ _))
  refine wpQuiet_nil ?_
  intro _ hw'
  obtain ⟨⟨dq, osq⟩, hw''⟩ := hw'
  subst hw''
  have bq := below_regrown W0 dq osq
  generalize Sort.grow (redrawn W0 dq) osq = wq at bq
  have S1 := Lib.hid (HS.out.below bq)
  obtain ⟨W1, rfl⟩ : ∃ W1 : World, W1 = wq := ⟨_, rfl⟩
  clear y0 y1 y2 y3 y4 y5 y6 x1 d0 d1 t0 cF cT bq
  obtain ⟨y0, y1, y2, y3, y4, y5, y6⟩ := S1.out.ys
  have x1 := S1.out.xs.2.1
  obtain ⟨_, d1, _⟩ := S1.out.infoAt (f := an) (by rw [HK.out.len]; exact han)
  have CM := RegB (w1 := W1) (fun W hW => may_c (S1.out.below hW).ink ⟨3, (en : Int), (an : Int), b1, c1, nm⟩ (infoAt k.infos an).g (by simp) (by rw [HK.out.envl]; simp only; omega))
  simp only [CallV.on, CallV.onCells] at CM
  replace y0 := cell_regrown y0
  replace y1 := cell_regrown y1
  replace y2 := cell_regrown y2
  replace y3 := cell_regrown y3
  replace y4 := cell_regrown y4
  replace y5 := cell_regrown y5
  replace y6 := cell_regrown y6
  replace x1 := cell_regrown x1
  replace d1 := cell_regrown d1
  cases hm : mayE k (en : Int) (infoAt k.infos an).g
  ·have E := Lib.hid (show callP k ⟨3, (en : Int), (an : Int), b1, c1, nm⟩ = (k, 0, 1) by rw [HP2.out, if_pos hm])
   rw [hm] at CM
   clear hm
   go_wp2_with fail
   refine wp_region_quiet_below Tryz.mixed (by kernel_rfl) ?_
   repeat (go_big_quiet_step (exact CM _ _))
   refine wpQuiet_nil ?_
   intro _ hw'
   obtain ⟨⟨dq, osq⟩, hw''⟩ := hw'
   subst hw''
   have bq := below_regrown W1 dq osq
   generalize Sort.grow (redrawn W1 dq) osq = wq at bq
   clear y0 y1 y2 y3 y4 y5 y6 x1 d1
   go_wp2_with fail
   go_ret2
   exact Ends2.bad E.out (by decide) (S1.out.below bq).bel
  have HP3 := Lib.hid (show callP k ⟨3, (en : Int), (an : Int), b1, c1, nm⟩ = frameQ k ⟨3, (en : Int), (an : Int), b1, c1, nm⟩ by rw [HP2.out, if_neg (by rw [hm]; decide)])
  rw [hm] at CM
  clear hm
  go_wp2_with fail
  refine wp_region_quiet_below Tryz.mixed (by kernel_rfl) ?_
  repeat (go_big_quiet_step (exact CM _ _))
  refine wpQuiet_nil ?_
  intro _ hw'
  obtain ⟨⟨dq, osq⟩, hw''⟩ := hw'
  subst hw''
  have bq := below_regrown W1 dq osq
  generalize Sort.grow (redrawn W1 dq) osq = wq at bq
  have S2 := Lib.hid (S1.out.below bq)
  obtain ⟨W2, rfl⟩ : ∃ W2 : World, W2 = wq := ⟨_, rfl⟩
  clear y0 y1 y2 y3 y4 y5 y6 x1 d1 bq CM
  obtain ⟨y0, y1, y2, y3, y4, y5, y6⟩ := S2.out.ys
  go_wp2_with fail
  have C := frameC_any S2.out.ink S2.out.lo HK.out ⟨3, (en : Int), (an : Int), b1, c1, nm⟩ (by simp) (by simp only; omega) (by simp) (by simp only; omega) (by intro x; simp at x) hcc
  simp only [CallV.on, CallV.onCells] at C
  refine C.mono ?_; rintro r w1 hr
  obtain ⟨n, rfl, hE⟩ := Ends1.two hr frameQ_val S2.out.bel
  have HE := Lib.hid hE
  clear hr hE C y0 y1 y2 y3 y4 y5 y6
  go_wp2_with fail
  go_ret2
  rw [HP3.out]; exact HE.out
 by_cases k4e : k1 = 4
 ·subst k4e
  have HP := Lib.hid (show callP k ⟨4, (en : Int), a1, b1, c1, nm⟩ = frameP k ⟨4, (en : Int), a1, b1, c1, nm⟩ from rfl)
  cases hfr : inB a1 0 11
  ·have E := Lib.hid (show callP k ⟨4, (en : Int), a1, b1, c1, nm⟩ = (k, 0, 3) by rw [HP.out, frameP_eq, if_pos (.inl hfr)])
   go_enter Tryz.func109, Tryz.ntmps109
   go_wp2_with fail
   generalize w.alloc _ = W0 at *
   have cF := RegS (w1 := W0) (fun W => isFrame_any a1 W)
   have cT := RegS (w1 := W0) (fun W => isTable_any b1 W)
   rw [hfr] at cF
   replace y1 := cell_regrown y1
   replace y3 := cell_regrown y3
   clear y0 y2 y4 y5 y6 x0 x1 x2 x3 hfr
   refine wp_region_quiet_below Tryz.mixed (by kernel_rfl) ?_
   repeat (go_big_quiet_step (first | exact cF _ _ | exact cT _ _))
   refine wpQuiet_nil ?_
   intro _ hw'
   obtain ⟨⟨dq, osq⟩, hw''⟩ := hw'
   subst hw''
   have bq := below_regrown W0 dq osq
   generalize Sort.grow (redrawn W0 dq) osq = wq at bq
   clear y1 y3
   go_wp2_with fail
   go_ret2
   exact Ends2.bad E.out (by decide) (HS.out.below bq).bel
  have T := Lib.hid hfr
  obtain ⟨an, rfl⟩ : ∃ n : Nat, a1 = (n : Int) := ⟨a1.toNat, by have := (inB_iff.1 hfr).1; omega⟩
  have han : an < 12 := by have := (inB_iff.1 hfr).2; omega
  have hai : (an : Int) < 12 := by omega
  clear hfr
  go_enter Tryz.func109, Tryz.ntmps109
  go_wp2_with fail
  generalize w.alloc _ = W0 at *
  obtain ⟨d0, d1, _⟩ := HS.out.infoAt (f := an) (by rw [HK.out.len]; exact han)
  have cF := RegS (w1 := W0) (fun W => isFrame_any (an : Int) W)
  have cT := RegS (w1 := W0) (fun W => isTable_any b1 W)
  rw [T.out] at cF
  replace y0 := cell_regrown y0
  replace y1 := cell_regrown y1
  replace y2 := cell_regrown y2
  replace y3 := cell_regrown y3
  replace y4 := cell_regrown y4
  replace y5 := cell_regrown y5
  replace y6 := cell_regrown y6
  replace x1 := cell_regrown x1
  replace d0 := cell_regrown d0
  replace d1 := cell_regrown d1
  clear x0 x2 x3
  by_cases h0 : (infoAt k.infos an).k = 0
  ·have E := Lib.hid (show callP k ⟨4, (en : Int), (an : Int), b1, c1, nm⟩ = (k, 0, 3) by rw [HP.out, frameP_eq, if_pos (.inr (.inl h0))])
   have t0 : ((infoAt k.infos an).k == 0) = true := by simp [h0]
   clear h0
   refine wp_region_quiet_below Tryz.mixed (by kernel_rfl) ?_
   repeat (go_big_quiet_step (first | exact cF _ _ | exact cT _ _))
   refine wpQuiet_nil ?_
   intro _ hw'
   obtain ⟨⟨dq, osq⟩, hw''⟩ := hw'
   subst hw''
   have bq := below_regrown W0 dq osq
   generalize Sort.grow (redrawn W0 dq) osq = wq at bq
   clear y0 y1 y2 y3 y4 y5 y6 x1 d0 d1 t0
   go_wp2_with fail
   go_ret2
   exact Ends2.bad E.out (by decide) (HS.out.below bq).bel
  have H0 := Lib.hid h0
  have t0 : ((infoAt k.infos an).k == 0) = false := by simp [h0]
  clear h0
  cases ht : tabK b1
  ·have E := Lib.hid (show callP k ⟨4, (en : Int), (an : Int), b1, c1, nm⟩ = (k, 0, 3) by rw [HP.out, frameP_eq, if_pos (.inr (.inr ⟨rfl, ht⟩))])
   rw [ht] at cT
   refine wp_region_quiet_below Tryz.mixed (by kernel_rfl) ?_
   repeat (go_big_quiet_step (first | exact cF _ _ | exact cT _ _))
   refine wpQuiet_nil ?_
   intro _ hw'
   obtain ⟨⟨dq, osq⟩, hw''⟩ := hw'
   subst hw''
   have bq := below_regrown W0 dq osq
   generalize Sort.grow (redrawn W0 dq) osq = wq at bq
   clear y0 y1 y2 y3 y4 y5 y6 x1 d0 d1
   go_wp2_with fail
   go_ret2
   exact Ends2.bad E.out (by decide) (HS.out.below bq).bel
  rw [ht] at cT
  have HP2 := Lib.hid (show callP k ⟨4, (en : Int), (an : Int), b1, c1, nm⟩ = if mayE k (en : Int) (infoAt k.infos an).g = false then (k, 0, 1) else frameQ k ⟨4, (en : Int), (an : Int), b1, c1, nm⟩ by rw [HP.out, frameP_eq, if_neg (by rintro (x | x | ⟨_, x⟩); (· rw [T.out] at x; cases x); (· exact H0.out x); (· rw [ht] at x; cases x))] <;> rfl)
  refine wp_region_quiet_below Tryz.mixed (by kernel_rfl) ?_
  repeat (go_big_quiet_step (first | exact cF _ _ | exact cT _ _))
  refine wpQuiet_nil ?_
  intro _ hw'
  obtain ⟨⟨dq, osq⟩, hw''⟩ := hw'
  subst hw''
  have bq := below_regrown W0 dq osq
  generalize Sort.grow (redrawn W0 dq) osq = wq at bq
  have S1 := Lib.hid (HS.out.below bq)
  obtain ⟨W1, rfl⟩ : ∃ W1 : World, W1 = wq := ⟨_, rfl⟩
  clear y0 y1 y2 y3 y4 y5 y6 x1 d0 d1 t0 cF cT bq
  obtain ⟨y0, y1, y2, y3, y4, y5, y6⟩ := S1.out.ys
  have x1 := S1.out.xs.2.1
  obtain ⟨_, d1, _⟩ := S1.out.infoAt (f := an) (by rw [HK.out.len]; exact han)
  have CM := RegB (w1 := W1) (fun W hW => may_c (S1.out.below hW).ink ⟨4, (en : Int), (an : Int), b1, c1, nm⟩ (infoAt k.infos an).g (by simp) (by rw [HK.out.envl]; simp only; omega))
  simp only [CallV.on, CallV.onCells] at CM
  replace y0 := cell_regrown y0
  replace y1 := cell_regrown y1
  replace y2 := cell_regrown y2
  replace y3 := cell_regrown y3
  replace y4 := cell_regrown y4
  replace y5 := cell_regrown y5
  replace y6 := cell_regrown y6
  replace x1 := cell_regrown x1
  replace d1 := cell_regrown d1
  cases hm : mayE k (en : Int) (infoAt k.infos an).g
  ·have E := Lib.hid (show callP k ⟨4, (en : Int), (an : Int), b1, c1, nm⟩ = (k, 0, 1) by rw [HP2.out, if_pos hm])
   rw [hm] at CM
   clear hm
   go_wp2_with fail
   refine wp_region_quiet_below Tryz.mixed (by kernel_rfl) ?_
   repeat (go_big_quiet_step (exact CM _ _))
   refine wpQuiet_nil ?_
   intro _ hw'
   obtain ⟨⟨dq, osq⟩, hw''⟩ := hw'
   subst hw''
   have bq := below_regrown W1 dq osq
   generalize Sort.grow (redrawn W1 dq) osq = wq at bq
   clear y0 y1 y2 y3 y4 y5 y6 x1 d1
   go_wp2_with fail
   go_ret2
   exact Ends2.bad E.out (by decide) (S1.out.below bq).bel
  have HP3 := Lib.hid (show callP k ⟨4, (en : Int), (an : Int), b1, c1, nm⟩ = frameQ k ⟨4, (en : Int), (an : Int), b1, c1, nm⟩ by rw [HP2.out, if_neg (by rw [hm]; decide)])
  rw [hm] at CM
  clear hm
  go_wp2_with fail
  refine wp_region_quiet_below Tryz.mixed (by kernel_rfl) ?_
  repeat (go_big_quiet_step (exact CM _ _))
  refine wpQuiet_nil ?_
  intro _ hw'
  obtain ⟨⟨dq, osq⟩, hw''⟩ := hw'
  subst hw''
  have bq := below_regrown W1 dq osq
  generalize Sort.grow (redrawn W1 dq) osq = wq at bq
  have S2 := Lib.hid (S1.out.below bq)
  obtain ⟨W2, rfl⟩ : ∃ W2 : World, W2 = wq := ⟨_, rfl⟩
  clear y0 y1 y2 y3 y4 y5 y6 x1 d1 bq CM
  obtain ⟨y0, y1, y2, y3, y4, y5, y6⟩ := S2.out.ys
  go_wp2_with fail
  have C := frameC_any S2.out.ink S2.out.lo HK.out ⟨4, (en : Int), (an : Int), b1, c1, nm⟩ (by simp) (by simp only; omega) (by simp) (by simp only; omega) (by intro _; exact ht) hcc
  simp only [CallV.on, CallV.onCells] at C
  refine C.mono ?_; rintro r w1 hr
  obtain ⟨n, rfl, hE⟩ := Ends1.two hr frameQ_val S2.out.bel
  have HE := Lib.hid hE
  clear hr hE C y0 y1 y2 y3 y4 y5 y6
  go_wp2_with fail
  go_ret2
  rw [HP3.out]; exact HE.out
 by_cases k5e : k1 = 5
 ·subst k5e
  have HP := Lib.hid (show callP k ⟨5, (en : Int), a1, b1, c1, nm⟩ = frameP k ⟨5, (en : Int), a1, b1, c1, nm⟩ from rfl)
  cases hfr : inB a1 0 11
  ·have E := Lib.hid (show callP k ⟨5, (en : Int), a1, b1, c1, nm⟩ = (k, 0, 3) by rw [HP.out, frameP_eq, if_pos (.inl hfr)])
   go_enter Tryz.func109, Tryz.ntmps109
   go_wp2_with fail
   generalize w.alloc _ = W0 at *
   have cF := RegS (w1 := W0) (fun W => isFrame_any a1 W)
   have cT := RegS (w1 := W0) (fun W => isTable_any b1 W)
   rw [hfr] at cF
   replace y1 := cell_regrown y1
   replace y3 := cell_regrown y3
   clear y0 y2 y4 y5 y6 x0 x1 x2 x3 hfr
   refine wp_region_quiet_below Tryz.mixed (by kernel_rfl) ?_
   repeat (go_big_quiet_step (first | exact cF _ _ | exact cT _ _))
   refine wpQuiet_nil ?_
   intro _ hw'
   obtain ⟨⟨dq, osq⟩, hw''⟩ := hw'
   subst hw''
   have bq := below_regrown W0 dq osq
   generalize Sort.grow (redrawn W0 dq) osq = wq at bq
   clear y1 y3
   go_wp2_with fail
   go_ret2
   exact Ends2.bad E.out (by decide) (HS.out.below bq).bel
  have T := Lib.hid hfr
  obtain ⟨an, rfl⟩ : ∃ n : Nat, a1 = (n : Int) := ⟨a1.toNat, by have := (inB_iff.1 hfr).1; omega⟩
  have han : an < 12 := by have := (inB_iff.1 hfr).2; omega
  have hai : (an : Int) < 12 := by omega
  clear hfr
  go_enter Tryz.func109, Tryz.ntmps109
  go_wp2_with fail
  generalize w.alloc _ = W0 at *
  obtain ⟨d0, d1, _⟩ := HS.out.infoAt (f := an) (by rw [HK.out.len]; exact han)
  have cF := RegS (w1 := W0) (fun W => isFrame_any (an : Int) W)
  have cT := RegS (w1 := W0) (fun W => isTable_any b1 W)
  rw [T.out] at cF
  replace y0 := cell_regrown y0
  replace y1 := cell_regrown y1
  replace y2 := cell_regrown y2
  replace y3 := cell_regrown y3
  replace y4 := cell_regrown y4
  replace y5 := cell_regrown y5
  replace y6 := cell_regrown y6
  replace x1 := cell_regrown x1
  replace d0 := cell_regrown d0
  replace d1 := cell_regrown d1
  clear x0 x2 x3
  by_cases h0 : (infoAt k.infos an).k = 0
  ·have E := Lib.hid (show callP k ⟨5, (en : Int), (an : Int), b1, c1, nm⟩ = (k, 0, 3) by rw [HP.out, frameP_eq, if_pos (.inr (.inl h0))])
   have t0 : ((infoAt k.infos an).k == 0) = true := by simp [h0]
   clear h0
   refine wp_region_quiet_below Tryz.mixed (by kernel_rfl) ?_
   repeat (go_big_quiet_step (first | exact cF _ _ | exact cT _ _))
   refine wpQuiet_nil ?_
   intro _ hw'
   obtain ⟨⟨dq, osq⟩, hw''⟩ := hw'
   subst hw''
   have bq := below_regrown W0 dq osq
   generalize Sort.grow (redrawn W0 dq) osq = wq at bq
   clear y0 y1 y2 y3 y4 y5 y6 x1 d0 d1 t0
   go_wp2_with fail
   go_ret2
   exact Ends2.bad E.out (by decide) (HS.out.below bq).bel
  have H0 := Lib.hid h0
  have t0 : ((infoAt k.infos an).k == 0) = false := by simp [h0]
  clear h0
  have HP2 := Lib.hid (show callP k ⟨5, (en : Int), (an : Int), b1, c1, nm⟩ = if mayE k (en : Int) (infoAt k.infos an).g = false then (k, 0, 1) else frameQ k ⟨5, (en : Int), (an : Int), b1, c1, nm⟩ by rw [HP.out, frameP_eq, if_neg (by rintro (x | x | ⟨x, _⟩); (· rw [T.out] at x; cases x); (· exact H0.out x); (· simp at x))] <;> rfl)
  refine wp_region_quiet_below Tryz.mixed (by kernel_rfl) ?_
  repeat (go_big_quiet_step (first | exact cF _ _ | exact cT _ _))
  refine wpQuiet_nil ?_
  intro _ hw'
  obtain ⟨⟨dq, osq⟩, hw''⟩ := hw'
  subst hw''
  have bq := below_regrown W0 dq osq
  generalize Sort.grow (redrawn W0 dq) osq = wq at bq
  have S1 := Lib.hid (HS.out.below bq)
  obtain ⟨W1, rfl⟩ : ∃ W1 : World, W1 = wq := ⟨_, rfl⟩
  clear y0 y1 y2 y3 y4 y5 y6 x1 d0 d1 t0 cF cT bq
  obtain ⟨y0, y1, y2, y3, y4, y5, y6⟩ := S1.out.ys
  have x1 := S1.out.xs.2.1
  obtain ⟨_, d1, _⟩ := S1.out.infoAt (f := an) (by rw [HK.out.len]; exact han)
  have CM := RegB (w1 := W1) (fun W hW => may_c (S1.out.below hW).ink ⟨5, (en : Int), (an : Int), b1, c1, nm⟩ (infoAt k.infos an).g (by simp) (by rw [HK.out.envl]; simp only; omega))
  simp only [CallV.on, CallV.onCells] at CM
  replace y0 := cell_regrown y0
  replace y1 := cell_regrown y1
  replace y2 := cell_regrown y2
  replace y3 := cell_regrown y3
  replace y4 := cell_regrown y4
  replace y5 := cell_regrown y5
  replace y6 := cell_regrown y6
  replace x1 := cell_regrown x1
  replace d1 := cell_regrown d1
  cases hm : mayE k (en : Int) (infoAt k.infos an).g
  ·have E := Lib.hid (show callP k ⟨5, (en : Int), (an : Int), b1, c1, nm⟩ = (k, 0, 1) by rw [HP2.out, if_pos hm])
   rw [hm] at CM
   clear hm
   go_wp2_with fail
   refine wp_region_quiet_below Tryz.mixed (by kernel_rfl) ?_
   repeat (go_big_quiet_step (exact CM _ _))
   refine wpQuiet_nil ?_
   intro _ hw'
   obtain ⟨⟨dq, osq⟩, hw''⟩ := hw'
   subst hw''
   have bq := below_regrown W1 dq osq
   generalize Sort.grow (redrawn W1 dq) osq = wq at bq
   clear y0 y1 y2 y3 y4 y5 y6 x1 d1
   go_wp2_with fail
   go_ret2
   exact Ends2.bad E.out (by decide) (S1.out.below bq).bel
  have HP3 := Lib.hid (show callP k ⟨5, (en : Int), (an : Int), b1, c1, nm⟩ = frameQ k ⟨5, (en : Int), (an : Int), b1, c1, nm⟩ by rw [HP2.out, if_neg (by rw [hm]; decide)])
  rw [hm] at CM
  clear hm
  go_wp2_with fail
  refine wp_region_quiet_below Tryz.mixed (by kernel_rfl) ?_
  repeat (go_big_quiet_step (exact CM _ _))
  refine wpQuiet_nil ?_
  intro _ hw'
  obtain ⟨⟨dq, osq⟩, hw''⟩ := hw'
  subst hw''
  have bq := below_regrown W1 dq osq
  generalize Sort.grow (redrawn W1 dq) osq = wq at bq
  have S2 := Lib.hid (S1.out.below bq)
  obtain ⟨W2, rfl⟩ : ∃ W2 : World, W2 = wq := ⟨_, rfl⟩
  clear y0 y1 y2 y3 y4 y5 y6 x1 d1 bq CM
  obtain ⟨y0, y1, y2, y3, y4, y5, y6⟩ := S2.out.ys
  go_wp2_with fail
  have C := frameC_any S2.out.ink S2.out.lo HK.out ⟨5, (en : Int), (an : Int), b1, c1, nm⟩ (by simp) (by simp only; omega) (by simp) (by simp only; omega) (by intro x; simp at x) hcc
  simp only [CallV.on, CallV.onCells] at C
  refine C.mono ?_; rintro r w1 hr
  obtain ⟨n, rfl, hE⟩ := Ends1.two hr frameQ_val S2.out.bel
  have HE := Lib.hid hE
  clear hr hE C y0 y1 y2 y3 y4 y5 y6
  go_wp2_with fail
  go_ret2
  rw [HP3.out]; exact HE.out
 by_cases k6e : k1 = 6
 ·subst k6e
  have HP := Lib.hid (show callP k ⟨6, (en : Int), a1, b1, c1, nm⟩ = frameP k ⟨6, (en : Int), a1, b1, c1, nm⟩ from rfl)
  cases hfr : inB a1 0 11
  ·have E := Lib.hid (show callP k ⟨6, (en : Int), a1, b1, c1, nm⟩ = (k, 0, 3) by rw [HP.out, frameP_eq, if_pos (.inl hfr)])
   go_enter Tryz.func109, Tryz.ntmps109
   go_wp2_with fail
   generalize w.alloc _ = W0 at *
   have cF := RegS (w1 := W0) (fun W => isFrame_any a1 W)
   have cT := RegS (w1 := W0) (fun W => isTable_any b1 W)
   rw [hfr] at cF
   replace y1 := cell_regrown y1
   replace y3 := cell_regrown y3
   clear y0 y2 y4 y5 y6 x0 x1 x2 x3 hfr
   refine wp_region_quiet_below Tryz.mixed (by kernel_rfl) ?_
   repeat (go_big_quiet_step (first | exact cF _ _ | exact cT _ _))
   refine wpQuiet_nil ?_
   intro _ hw'
   obtain ⟨⟨dq, osq⟩, hw''⟩ := hw'
   subst hw''
   have bq := below_regrown W0 dq osq
   generalize Sort.grow (redrawn W0 dq) osq = wq at bq
   clear y1 y3
   go_wp2_with fail
   go_ret2
   exact Ends2.bad E.out (by decide) (HS.out.below bq).bel
  have T := Lib.hid hfr
  obtain ⟨an, rfl⟩ : ∃ n : Nat, a1 = (n : Int) := ⟨a1.toNat, by have := (inB_iff.1 hfr).1; omega⟩
  have han : an < 12 := by have := (inB_iff.1 hfr).2; omega
  have hai : (an : Int) < 12 := by omega
  clear hfr
  go_enter Tryz.func109, Tryz.ntmps109
  go_wp2_with fail
  generalize w.alloc _ = W0 at *
  obtain ⟨d0, d1, _⟩ := HS.out.infoAt (f := an) (by rw [HK.out.len]; exact han)
  have cF := RegS (w1 := W0) (fun W => isFrame_any (an : Int) W)
  have cT := RegS (w1 := W0) (fun W => isTable_any b1 W)
  rw [T.out] at cF
  replace y0 := cell_regrown y0
  replace y1 := cell_regrown y1
  replace y2 := cell_regrown y2
  replace y3 := cell_regrown y3
  replace y4 := cell_regrown y4
  replace y5 := cell_regrown y5
  replace y6 := cell_regrown y6
  replace x1 := cell_regrown x1
  replace d0 := cell_regrown d0
  replace d1 := cell_regrown d1
  clear x0 x2 x3
  by_cases h0 : (infoAt k.infos an).k = 0
  ·have E := Lib.hid (show callP k ⟨6, (en : Int), (an : Int), b1, c1, nm⟩ = (k, 0, 3) by rw [HP.out, frameP_eq, if_pos (.inr (.inl h0))])
   have t0 : ((infoAt k.infos an).k == 0) = true := by simp [h0]
   clear h0
   refine wp_region_quiet_below Tryz.mixed (by kernel_rfl) ?_
   repeat (go_big_quiet_step (first | exact cF _ _ | exact cT _ _))
   refine wpQuiet_nil ?_
   intro _ hw'
   obtain ⟨⟨dq, osq⟩, hw''⟩ := hw'
   subst hw''
   have bq := below_regrown W0 dq osq
   generalize Sort.grow (redrawn W0 dq) osq = wq at bq
   clear y0 y1 y2 y3 y4 y5 y6 x1 d0 d1 t0
   go_wp2_with fail
   go_ret2
   exact Ends2.bad E.out (by decide) (HS.out.below bq).bel
  have H0 := Lib.hid h0
  have t0 : ((infoAt k.infos an).k == 0) = false := by simp [h0]
  clear h0
  have HP2 := Lib.hid (show callP k ⟨6, (en : Int), (an : Int), b1, c1, nm⟩ = if mayE k (en : Int) (infoAt k.infos an).g = false then (k, 0, 1) else frameQ k ⟨6, (en : Int), (an : Int), b1, c1, nm⟩ by rw [HP.out, frameP_eq, if_neg (by rintro (x | x | ⟨x, _⟩); (· rw [T.out] at x; cases x); (· exact H0.out x); (· simp at x))] <;> rfl)
  refine wp_region_quiet_below Tryz.mixed (by kernel_rfl) ?_
  repeat (go_big_quiet_step (first | exact cF _ _ | exact cT _ _))
  refine wpQuiet_nil ?_
  intro _ hw'
  obtain ⟨⟨dq, osq⟩, hw''⟩ := hw'
  subst hw''
  have bq := below_regrown W0 dq osq
  generalize Sort.grow (redrawn W0 dq) osq = wq at bq
  have S1 := Lib.hid (HS.out.below bq)
  obtain ⟨W1, rfl⟩ : ∃ W1 : World, W1 = wq := ⟨_, rfl⟩
  clear y0 y1 y2 y3 y4 y5 y6 x1 d0 d1 t0 cF cT bq
  obtain ⟨y0, y1, y2, y3, y4, y5, y6⟩ := S1.out.ys
  have x1 := S1.out.xs.2.1
  obtain ⟨_, d1, _⟩ := S1.out.infoAt (f := an) (by rw [HK.out.len]; exact han)
  have CM := RegB (w1 := W1) (fun W hW => may_c (S1.out.below hW).ink ⟨6, (en : Int), (an : Int), b1, c1, nm⟩ (infoAt k.infos an).g (by simp) (by rw [HK.out.envl]; simp only; omega))
  simp only [CallV.on, CallV.onCells] at CM
  replace y0 := cell_regrown y0
  replace y1 := cell_regrown y1
  replace y2 := cell_regrown y2
  replace y3 := cell_regrown y3
  replace y4 := cell_regrown y4
  replace y5 := cell_regrown y5
  replace y6 := cell_regrown y6
  replace x1 := cell_regrown x1
  replace d1 := cell_regrown d1
  cases hm : mayE k (en : Int) (infoAt k.infos an).g
  ·have E := Lib.hid (show callP k ⟨6, (en : Int), (an : Int), b1, c1, nm⟩ = (k, 0, 1) by rw [HP2.out, if_pos hm])
   rw [hm] at CM
   clear hm
   go_wp2_with fail
   refine wp_region_quiet_below Tryz.mixed (by kernel_rfl) ?_
   repeat (go_big_quiet_step (exact CM _ _))
   refine wpQuiet_nil ?_
   intro _ hw'
   obtain ⟨⟨dq, osq⟩, hw''⟩ := hw'
   subst hw''
   have bq := below_regrown W1 dq osq
   generalize Sort.grow (redrawn W1 dq) osq = wq at bq
   clear y0 y1 y2 y3 y4 y5 y6 x1 d1
   go_wp2_with fail
   go_ret2
   exact Ends2.bad E.out (by decide) (S1.out.below bq).bel
  have HP3 := Lib.hid (show callP k ⟨6, (en : Int), (an : Int), b1, c1, nm⟩ = frameQ k ⟨6, (en : Int), (an : Int), b1, c1, nm⟩ by rw [HP2.out, if_neg (by rw [hm]; decide)])
  rw [hm] at CM
  clear hm
  go_wp2_with fail
  refine wp_region_quiet_below Tryz.mixed (by kernel_rfl) ?_
  repeat (go_big_quiet_step (exact CM _ _))
  refine wpQuiet_nil ?_
  intro _ hw'
  obtain ⟨⟨dq, osq⟩, hw''⟩ := hw'
  subst hw''
  have bq := below_regrown W1 dq osq
  generalize Sort.grow (redrawn W1 dq) osq = wq at bq
  have S2 := Lib.hid (S1.out.below bq)
  obtain ⟨W2, rfl⟩ : ∃ W2 : World, W2 = wq := ⟨_, rfl⟩
  clear y0 y1 y2 y3 y4 y5 y6 x1 d1 bq CM
  obtain ⟨y0, y1, y2, y3, y4, y5, y6⟩ := S2.out.ys
  go_wp2_with fail
  have C := frameC_any S2.out.ink S2.out.lo HK.out ⟨6, (en : Int), (an : Int), b1, c1, nm⟩ (by simp) (by simp only; omega) (by simp) (by simp only; omega) (by intro x; simp at x) hcc
  simp only [CallV.on, CallV.onCells] at C
  refine C.mono ?_; rintro r w1 hr
  obtain ⟨n, rfl, hE⟩ := Ends1.two hr frameQ_val S2.out.bel
  have HE := Lib.hid hE
  clear hr hE C y0 y1 y2 y3 y4 y5 y6
  go_wp2_with fail
  go_ret2
  rw [HP3.out]; exact HE.out
 by_cases k7e : k1 = 7
 ·subst k7e
  have HP := Lib.hid (show callP k ⟨7, (en : Int), a1, b1, c1, nm⟩ = rootP k ⟨7, (en : Int), a1, b1, c1, nm⟩ from rfl)
  go_enter Tryz.func109, Tryz.ntmps109
  go_wp2_with fail
  generalize w.alloc _ = W0 at *
  have C := rootC_any HS.out.ink HS.out.lo HK.out ⟨7, (en : Int), a1, b1, c1, nm⟩ (by simp) (by simp only; omega)
  simp only [CallV.on, CallV.onCells] at C
  refine C.mono ?_; rintro r w1 hr
  obtain ⟨n, rfl, hE⟩ := Ends1.two hr rootP_val HS.out.bel
  have HE := Lib.hid hE
  clear hr hE C y0 y1 y2 y3 y4 y5 y6 x0 x1 x2 x3
  go_wp2_with fail
  go_ret2
  rw [HP.out]; exact HE.out
 by_cases k8e : k1 = 8
 ·subst k8e
  have HP := Lib.hid (show callP k ⟨8, (en : Int), a1, b1, c1, nm⟩ = grantP k ⟨8, (en : Int), a1, b1, c1, nm⟩ from rfl)
  go_enter Tryz.func109, Tryz.ntmps109
  go_wp2_with fail
  generalize w.alloc _ = W0 at *
  have C := grantC_any HS.out.ink HS.out.lo HK.out ⟨8, (en : Int), a1, b1, c1, nm⟩ (by simp) (by simp only; omega) hnm
  simp only [CallV.on, CallV.onCells] at C
  refine C.mono ?_; rintro r w1 hr
  obtain ⟨n, rfl, hE⟩ := Ends1.two hr grantP_val HS.out.bel
  have HE := Lib.hid hE
  clear hr hE C y0 y1 y2 y3 y4 y5 y6 x0 x1 x2 x3
  go_wp2_with fail
  go_ret2
  rw [HP.out]; exact HE.out
 by_cases k9e : k1 = 9
 ·subst k9e
  have HP := Lib.hid (show callP k ⟨9, (en : Int), a1, b1, c1, nm⟩ = revokeP k ⟨9, (en : Int), a1, b1, c1, nm⟩ from rfl)
  go_enter Tryz.func109, Tryz.ntmps109
  go_wp2_with fail
  generalize w.alloc _ = W0 at *
  have C := revokeC_any HS.out.ink HS.out.lo HK.out ⟨9, (en : Int), a1, b1, c1, nm⟩ (by simp) (by simp only; omega) hnm
  simp only [CallV.on, CallV.onCells] at C
  refine C.mono ?_; rintro r w1 hr
  obtain ⟨n, rfl, hE⟩ := Ends1.two hr revokeP_val HS.out.bel
  have HE := Lib.hid hE
  clear hr hE C y0 y1 y2 y3 y4 y5 y6 x0 x1 x2 x3
  go_wp2_with fail
  go_ret2
  rw [HP.out]; exact HE.out
 by_cases kae : k1 = 10
 ·subst kae
  have HP := Lib.hid (show callP k ⟨10, (en : Int), a1, b1, c1, nm⟩ = useP k ⟨10, (en : Int), a1, b1, c1, nm⟩ from rfl)
  go_enter Tryz.func109, Tryz.ntmps109
  go_wp2_with fail
  generalize w.alloc _ = W0 at *
  have C := useC_any HS.out.ink HS.out.lo HK.out ⟨10, (en : Int), a1, b1, c1, nm⟩ (by simp) (by simp only; omega) (.inl rfl)
  simp only [CallV.on, CallV.onCells] at C
  refine C.mono ?_; rintro r w1 hr
  obtain ⟨v, n, rfl, hE⟩ := Ends2.of hr HS.out.bel
  have HE := Lib.hid hE
  clear hr hE C y0 y1 y2 y3 y4 y5 y6 x0 x1 x2 x3
  go_wp2_with fail
  go_ret2
  rw [HP.out]; exact HE.out
 by_cases kbe : k1 = 11
 ·subst kbe
  have HP := Lib.hid (show callP k ⟨11, (en : Int), a1, b1, c1, nm⟩ = useP k ⟨11, (en : Int), a1, b1, c1, nm⟩ from rfl)
  go_enter Tryz.func109, Tryz.ntmps109
  go_wp2_with fail
  generalize w.alloc _ = W0 at *
  have C := useC_any HS.out.ink HS.out.lo HK.out ⟨11, (en : Int), a1, b1, c1, nm⟩ (by simp) (by simp only; omega) (.inr rfl)
  simp only [CallV.on, CallV.onCells] at C
  refine C.mono ?_; rintro r w1 hr
  obtain ⟨v, n, rfl, hE⟩ := Ends2.of hr HS.out.bel
  have HE := Lib.hid hE
  clear hr hE C y0 y1 y2 y3 y4 y5 y6 x0 x1 x2 x3
  go_wp2_with fail
  go_ret2
  rw [HP.out]; exact HE.out
 have E := Lib.hid (show callP k ⟨k1, (en : Int), a1, b1, c1, nm⟩ = (k, 0, 3) by
  unfold callP
  rw [if_neg k1e, if_neg (by rw [Bool.not_eq_true, inB_no]; show k1 < 2 ∨ 6 < k1; omega), if_neg k7e, if_neg k8e, if_neg k9e, if_neg (by rintro (x | x); (· exact kae x); (· exact kbe x))])
 have t1 : (k1 == 1) = false := by simp [k1e]
 have t2 : (k1 == 2) = false := by simp [k2e]
 have t3 : (k1 == 3) = false := by simp [k3e]
 have t4 : (k1 == 4) = false := by simp [k4e]
 have t5 : (k1 == 5) = false := by simp [k5e]
 have t6 : (k1 == 6) = false := by simp [k6e]
 have t7 : (k1 == 7) = false := by simp [k7e]
 have t8 : (k1 == 8) = false := by simp [k8e]
 have t9 : (k1 == 9) = false := by simp [k9e]
 have ta : (k1 == 10) = false := by simp [kae]
 have tb : (k1 == 11) = false := by simp [kbe]
 clear k1e k2e k3e k4e k5e k6e k7e k8e k9e kae kbe y0 y2 y3 y4 y5 y6 x0 x1 x2 x3
 go_enter Tryz.func109, Tryz.ntmps109
 go_wp2_with fail
 go_ret2
 exact Ends2.bad E.out (by decide) HS.out.bel
end Go.Proofs.YtjacdlekgdnndaaGreatDoor
set_option linter.unusedVariables false
set_option linter.unusedSimpArgs false
namespace Go.Proofs.YtjacdlekgdnndaaGreatDoor
def Owned (k : KernV) (f : Nat) : Prop := (infoAt k.infos f).r = 1 ∧ ((∃ t i, t < 12 ∧ tabK (kindAt k t) = true ∧ i < 4 ∧ names f (wdAt k.mem t i) = true ∧ (infoAt k.infos t).g = gA) ∨ rootOf k 0 = (f : Int))
def Keeps (k k' : KernV) : Prop := (∀ e, e < 3 → mayP (rightsOf k' e) gA = mayP (rightsOf k e) gA) ∧ rootOf k' 0 = rootOf k 0 ∧
 ∀ f, f < 12 → (infoAt k.infos f).g = gA → kindAt k f ≠ 0 → rowAt k'.mem f = rowAt k.mem f ∧ (infoAt k'.infos f).g = gA ∧ (Owned k f → (infoAt k'.infos f).r = (infoAt k.infos f).r)
theorem Keeps.refl (k : KernV) : Keeps k k := ⟨fun _ _ => rfl, rfl, fun _ _ h _ => ⟨rfl, h, fun _ => rfl⟩⟩
section
variable {k : KernV} (h : KOk k)
include h
end
section
variable {k : KernV} (h : KOk k) {c : CallV} (he : c.e = 1 ∨ c.e = 2) (hal : ∀ e, 1 ≤ e → e < 3 → mayP (rightsOf k e) gA = false)
include h he hal
end
end Go.Proofs.YtjacdlekgdnndaaGreatDoor
set_option linter.unusedVariables false
namespace Go.Proofs.YtjacdlekgdnndaaGreatDoor
def NoChange (k : KernV) (r : Res) : Prop := (r.2.2 ≠ 0 → r = (k, 0, r.2.2)) ∧ 0 ≤ r.2.2 ∧ r.2.2 ≤ 4
theorem NoChange.code {k : KernV} {n : Int} (h0 : 0 ≤ n) (h4 : n ≤ 4) : NoChange k (k, 0, n) := ⟨fun _ => rfl, h0, h4⟩
theorem NoChange.done {k k' : KernV} {v : Int} : NoChange k (k', v, 0) := ⟨fun h => absurd rfl h, by show (0 : Int) ≤ 0; omega, by show (0 : Int) ≤ 4; omega⟩
theorem NoChange.iteP {k : KernV} {p : Prop} [Decidable p] {a b : Res} (ha : NoChange k a) (hb : NoChange k b) : NoChange k (if p then a else b) := by split <;> assumption
theorem pinnedP_no {k : KernV} {r : List InfoV × Int} : NoChange k (pinnedP k r) := by
 unfold pinnedP pinCode
 split
 ·exact .done
 ·split
  ·exact .code (by omega) (by omega)
  ·exact .code (by omega) (by omega)
theorem callP_no {k : KernV} {c : CallV} : NoChange k (callP k c) := by
 have c1 : NoChange k (k, 0, 1) := .code (by omega) (by omega)
 have c2 : NoChange k (k, 0, 2) := .code (by omega) (by omega)
 have c3 : NoChange k (k, 0, 3) := .code (by omega) (by omega)
 have c4 : NoChange k (k, 0, 4) := .code (by omega) (by omega)
 unfold callP
 refine .iteP (.iteP c3 (.iteP c1 (.iteP c4 .done))) (.iteP ?_ (.iteP ?_ (.iteP ?_ (.iteP ?_ (.iteP ?_ c3)))))
 ·unfold frameP
  refine .iteP c3 (.iteP c1 (.iteP (.iteP c3 (.iteP c2 .done)) (.iteP (.iteP c3 .done) (.iteP pinnedP_no (.iteP pinnedP_no ?_)))))
  unfold setP
  exact .iteP c3 (.iteP c1 (.iteP c1 .done))
 ·unfold rootP
  exact .iteP c3 (.iteP c1 .done)
 ·unfold grantP
  exact .iteP c3 (.iteP c1 (.iteP c4 .done))
 ·unfold revokeP
  exact .iteP c3 (.iteP c1 (.iteP c2 .done))
 ·unfold useP
  exact .iteP c3 (.iteP c3 (.iteP c1 (.iteP .done .done)))
theorem callP_same {k : KernV} {c : CallV} (h : (callP k c).2.2 ≠ 0) : callP k c = (k, 0, (callP k c).2.2) := callP_no.1 h
end Go.Proofs.YtjacdlekgdnndaaGreatDoor
set_option linter.unusedVariables false
namespace Go.Proofs.YtjacdlekgdnndaaGreatDoor
open Go.RowKit
def CalledRes (w : World) (res : Res) (e : Ending) (w' : World) : Prop := ∃ m i ev c, e = .returned (.tuple #[.agg #[m, i, ev, c], .int .i64 res.2.1, .int .i64 res.2.2]) ∧ OwnK w.heap.size w' m i ev c res.1 ∧ Below w.heap.size w w'
theorem OwnK.lower {lo lo' : Nat} {w : World} {m i e c : Value} {k : KernV} (h : OwnK lo w m i e c k) (hl : lo' ≤ lo) : OwnK lo' w m i e c k :=
 ⟨⟨_, h.1.choose_spec.lower hl⟩, h.2.1.lower hl, ⟨_, h.2.2.1.choose_spec.lower hl⟩, h.2.2.2.lower hl⟩
theorem OwnK.far {lo g : Nat} {w w' : World} {m i e c : Value} {k : KernV} {cs : Array Value} {T : Nat} {fr : Nat × Nat} (h : OwnK lo w m i e c k) (hg : w.grownBy w' (some g)) (hB : w.heap[g]? = some (.cells cs T fr))
 (h1 : 38 ≠ T) (h2 : 3 ≠ T) (h3 : 89 ≠ T) (h4 : 80 ≠ T) (h5 : 9 ≠ T) (h6 : 94 ≠ T) : OwnK lo w' m i e c k :=
 ⟨⟨_, h.1.choose_spec.far hg hB h1 h2⟩, h.2.1.far hg hB h3, ⟨_, h.2.2.1.choose_spec.far hg hB h4 h5⟩, h.2.2.2.far hg hB h6⟩
theorem blk_cells6 {w : World} {g t : Nat} {a b c d e f : Value} (h : w.heap[g]? = some (.cells #[a, b, c, d, e, f] t (0, 0))) : w.cell? ⟨g, 0, none⟩ = some a ∧ w.cell? ⟨g, 1, none⟩ = some b ∧ w.cell? ⟨g, 2, none⟩ = some c ∧ w.cell? ⟨g, 3, none⟩ = some d ∧ w.cell? ⟨g, 4, none⟩ = some e ∧ w.cell? ⟨g, 5, none⟩ = some f :=
 ⟨cell_of_row w g 0 _ _ _ h, cell_of_row w g 1 _ _ _ h, cell_of_row w g 2 _ _ _ h, cell_of_row w g 3 _ _ _ h, cell_of_row w g 4 _ _ _ h, cell_of_row w g 5 _ _ _ h⟩
theorem set4_grown (w : World) (g : Nat) (a b c d : Value) : w.grownBy ((((w.setCell ⟨g, 0, none⟩ a).setCell ⟨g, 1, none⟩ b).setCell ⟨g, 2, none⟩ c).setCell ⟨g, 3, none⟩ d) (some g) :=
 grown_set' (grown_set' (grown_set' (grown_set w g 0 a) 1 b) 2 c) 3 d
theorem OwnK.shapes {lo : Nat} {w : World} {m i e c : Value} {k : KernV} (h : OwnK lo w m i e c k) : (∃ a n q, m = .slice a n q) ∧ (∃ a n q, i = .slice a n q) ∧ (∃ a n q, e = .slice a n q) ∧ ∃ a n q, c = .slice a n q := by
 obtain ⟨⟨_, h1⟩, h2, ⟨_, h3⟩, h4⟩ := h
 obtain ⟨_, _, rfl, _, _⟩ := h1.1.rd.shape
 obtain ⟨_, _, rfl, _, _⟩ := h2.rd.shape
 obtain ⟨_, _, rfl, _, _⟩ := h3.1.rd.shape
 obtain ⟨_, _, rfl, _, _⟩ := h4.rd.shape
 exact ⟨⟨_, _, _, rfl⟩, ⟨_, _, _, rfl⟩, ⟨_, _, _, rfl⟩, ⟨_, _, _, rfl⟩⟩
theorem three_blocks (w : World) (a b c : Obj) : (((w.alloc a).alloc b).alloc c).heap[w.heap.size]? = some a ∧ (((w.alloc a).alloc b).alloc c).heap[w.heap.size + 1]? = some b ∧ (((w.alloc a).alloc b).alloc c).heap[w.heap.size + 1 + 1]? = some c ∧ Below w.heap.size w (((w.alloc a).alloc b).alloc c) ∧ (((w.alloc a).alloc b).alloc c).heap.size = w.heap.size + 3 := by
 have h1 := heap_alloc_new w a
 have h2 := heap_alloc_new (w.alloc a) b
 have h3 := heap_alloc_new ((w.alloc a).alloc b) c
 have h4 := blk_below (blk_below h1 (below1 _ b)) (below1 _ c)
 have h5 := blk_below h2 (below1 _ c)
 simp only [World.size_alloc] at h2 h3 h5
 refine ⟨h4, h5, h3, (below2 w a b).trans ((below1 _ c).mono (below2 w a b).size), by simp⟩
theorem set4_cells {w : World} {g t : Nat} {m i e c m' i' e' c' : Value} (h : w.heap[g]? = some (.cells #[m, i, e, c] t (0, 0))) : ((((w.setCell ⟨g, 0, none⟩ m').setCell ⟨g, 1, none⟩ i').setCell ⟨g, 2, none⟩ e').setCell ⟨g, 3, none⟩ c').cell? ⟨g, 0, none⟩ = some m' ∧ ((((w.setCell ⟨g, 0, none⟩ m').setCell ⟨g, 1, none⟩ i').setCell ⟨g, 2, none⟩ e').setCell ⟨g, 3, none⟩ c').cell? ⟨g, 1, none⟩ = some i' ∧ ((((w.setCell ⟨g, 0, none⟩ m').setCell ⟨g, 1, none⟩ i').setCell ⟨g, 2, none⟩ e').setCell ⟨g, 3, none⟩ c').cell? ⟨g, 2, none⟩ = some e' ∧ ((((w.setCell ⟨g, 0, none⟩ m').setCell ⟨g, 1, none⟩ i').setCell ⟨g, 2, none⟩ e').setCell ⟨g, 3, none⟩ c').cell? ⟨g, 3, none⟩ = some c' := blk_cells4 (blk_set4 h)
set_option maxRecDepth 100000 in
set_option maxHeartbeats 4000000 in
theorem called_any (m i e c : Value) (k : KernV) (call : CallV) (w : World) (h : RdK w m i e c k) (hk : KOk k) (he : 0 ≤ call.e) (hn : call.e < 3) (hnm : call.nm.size ≤ maxLen) (hcc : call.c ≤ 9223372036854775807) :
 Calls Tryz.prog 44 #[.agg #[m, i, e, c], .agg #[.int .i64 call.k, .int .i64 call.e, .int .i64 call.a, .int .i64 call.b, .int .i64 call.c, .string call.nm]] w (CalledRes w (callP k call)) := by
 have C := Lib.hid (fun (lo g : Nat) (w : World) (m i e c : Value) (h : InK lo w g m i e c k) (hlo : lo ≤ w.heap.size) => doC_any h hlo hk call he hn hnm hcc)
 have HR := Lib.hid h
 have HK := Lib.hid hk
 have HN := Lib.hid (@callP_same k call)
 generalize callP k call = res at C HN ⊢
 obtain ⟨kr, vr, nr⟩ := res
 obtain ⟨ck, ce, ca, cb, cc, nm⟩ := call
 simp only [CallV.on, CallV.onCells] at C
 clear he hn hnm hcc h hk
 go_enter Tryz.func44, Tryz.ntmps44
 go_wp2_with fail
 obtain ⟨B0, B1, B2, hb0, hs0⟩ := three_blocks w (.cells #[m, i, e, c] 33) (.cells #[.int .i64 ck, .int .i64 ce, .int .i64 ca, .int .i64 cb, .int .i64 cc, .string nm] 60) (.cells #[.slice none 0 0, .slice none 0 0, .slice none 0 0, .slice none 0 0] 33)
 generalize ((w.alloc _).alloc _).alloc _ = W0 at *
 refine (own_any m i e c k W0 (HR.out.below hb0) HK.out).mono ?_; rintro r w1 ⟨m1, i1, e1, c1, rfl, O1, b1⟩
 have hs1 := b1.size
 obtain ⟨⟨ma, mn, mc, rfl⟩, ⟨ia, iN, ic, rfl⟩, ⟨ea, en, ec, rfl⟩, ⟨qa, qn, qc, rfl⟩⟩ := O1.shapes
 have N3 := heap_alloc_new w1 (.cells #[.slice ma mn mc, .slice ia iN ic, .slice ea en ec, .slice qa qn qc] 33)
 have b2 := below1 w1 (.cells #[.slice ma mn mc, .slice ia iN ic, .slice ea en ec, .slice qa qn qc] 33)
 obtain ⟨y0, y1, y2, y3, y4, y5⟩ := blk_cells6 (blk_below (blk_below B1 b1) b2)
 have hI := Lib.hid (show InK W0.heap.size _ w1.heap.size _ _ _ _ k from ⟨N3, hs1, O1.below b2⟩)
 have hb1 := Lib.hid (b1.trans (b2.mono hs1))
 clear N3 O1 b1 b2 B1
 go_wp2_with fail
 refine (C.out _ _ _ _ _ _ _ hI.out (by have := hb1.out.size; omega)).mono ?_; rintro r w3 ⟨rfl, hk3, b3⟩
 have hb3 := hb1.out.trans b3
 have hlt : w.heap.size + 1 + 1 < W0.heap.size := by omega
 have B0' := (hb3.block _ (by omega)).trans B0
 have B2' := (hb3.block _ (by omega)).trans B2
 have HW3 := Lib.hid (hb0.trans (hb3.mono hb0.size))
 clear y0 y1 y2 y3 y4 y5 hI hb1 b3 B0 B2 C
 by_cases h0 : nr = 0
 ·subst h0
  have t0 : ((0 : Int) == 0) = true := rfl
  obtain ⟨m', i', e', c', hI3⟩ := hk3 rfl
  obtain ⟨⟨ma', mn', mc', rfl⟩, ⟨ia', iN', ic', rfl⟩, ⟨ea', en', ec', rfl⟩, ⟨qa', qn', qc', rfl⟩⟩ := hI3.2.2.shapes
  obtain ⟨x0, x1, x2, x3⟩ := hI3.cells
  have hfz := blk_frozen B2'
  obtain ⟨z0, z1, z2, z3⟩ := blk_cells4 B2'
  obtain ⟨E0, E1, E2, E3⟩ := set4_cells (m' := .slice ma' mn' mc') (i' := .slice ia' iN' ic') (e' := .slice ea' en' ec') (c' := .slice qa' qn' qc') B2'
  have HE := Lib.hid (And.intro E0 (And.intro E1 (And.intro E2 E3)))
  have hgr := set4_grown w3 (w.heap.size + 1 + 1) (.slice ma' mn' mc') (.slice ia' iN' ic') (.slice ea' en' ec') (.slice qa' qn' qc')
  have HR4 := Lib.hid (show OwnK w.heap.size _ (.slice ma' mn' mc') (.slice ia' iN' ic') (.slice ea' en' ec') (.slice qa' qn' qc') kr from (hI3.2.2.far hgr B2' (by decide) (by decide) (by decide) (by decide) (by decide) (by decide)).lower hb0.size)
  have HB4 := Lib.hid (below_grown HW3.out hgr (by omega) HW3.out.size)
  clear E0 E1 E2 E3 hI3 hk3 hgr B0' B2' HN hb3
  go_wp2_with fail
  obtain ⟨E0, E1, E2, E3⟩ := HE.out
  exact bodyPost_ret (v := .tuple #[.agg #[_, _, _, _], _, _]) (by simp [results, Tryz.results44, go_sem, E0, E1, E2, E3]) rfl ⟨_, _, _, _, rfl, HR4.out, HB4.out⟩
 ·have t0 : (nr == 0) = false := by simp [h0]
  have hN := HN.out h0
  simp only [Prod.mk.injEq, and_true] at hN
  obtain ⟨rfl, rfl⟩ := hN
  obtain ⟨x0, x1, x2, x3⟩ := blk_cells4 B0'
  clear hk3
  go_wp2_with fail
  refine (own_any m i e c kr w3 (HR.out.below HW3.out) HK.out).mono ?_; rintro r w4 ⟨m4, i4, e4, c4, rfl, O4, b4⟩
  have B4 := blk_below B2' b4
  have hfz := blk_frozen B4
  obtain ⟨z0, z1, z2, z3⟩ := blk_cells4 B4
  obtain ⟨E0, E1, E2, E3⟩ := set4_cells (m' := m4) (i' := i4) (e' := e4) (c' := c4) B4
  have HE := Lib.hid (And.intro E0 (And.intro E1 (And.intro E2 E3)))
  have hgr := set4_grown w4 (w.heap.size + 1 + 1) m4 i4 e4 c4
  have HR4 := Lib.hid (show OwnK w.heap.size _ m4 i4 e4 c4 kr from (O4.far hgr B4 (by decide) (by decide) (by decide) (by decide) (by decide) (by decide)).lower HW3.out.size)
  have HB4 := Lib.hid (below_grown (HW3.out.trans (b4.mono HW3.out.size)) hgr (by omega) (by have := HW3.out.size; have := b4.size; omega))
  obtain ⟨⟨_, _, _, rfl⟩, ⟨_, _, _, rfl⟩, ⟨_, _, _, rfl⟩, ⟨_, _, _, rfl⟩⟩ := O4.shapes
  clear E0 E1 E2 E3 O4 b4 B4 hgr B0' B2' x0 x1 x2 x3
  go_wp2_with fail
  obtain ⟨E0, E1, E2, E3⟩ := HE.out
  exact bodyPost_ret (v := .tuple #[.agg #[_, _, _, _], _, _]) (by simp [results, Tryz.results44, go_sem, E0, E1, E2, E3]) rfl ⟨_, _, _, _, rfl, HR4.out, HB4.out⟩
end Go.Proofs.YtjacdlekgdnndaaGreatDoor
