/- The law GlassEnds (walk). -/
import Derived.Test.YtlgmeofpkfliaaaGi
import Derived.Test.YtlgmeofpkfliaaaGj
import Derived.Test.YtlgmeofpkfliaaaGh
import Derived.Test.YtlgmeofpkfliaaaGf
set_option linter.unusedVariables false
set_option linter.unusedSimpArgs false
set_option linter.unusedSectionVars false
section
namespace Go.Proofs.Ytlgmeofpkfliaaa
open Go.RowKit
attribute [local go_sem] Ex.cell? Ex.frozen? Gx.cell?

theorem cC_len (c : Ic) : (cC c).length = 3 := rfl
theorem cC_at (l : List Ic) (k : Nat) (hk : k < l.length) (j : Nat) (hj : j < 3) : (cC l[k])[j]? = some (fC l k j) := by
  have e : gC l k = l[k] := gC_at hk
  match j, hj with
  | 0, _ => simp [cC, fC, e]
  | 1, _ => simp [cC, fC, e]
  | 2, _ => simp [cC, fC, e]
theorem ice_row (a b c : Int) (j : Nat) (hj : j < 3) : (#[.int .i64 a, .int .i64 b, .int .i64 c] : Array Value)[j]? = some (fC [⟨a, b, c⟩] 0 j) := by
  match j, hj with
  | 0, _ => rfl
  | 1, _ => rfl
  | 2, _ => rfl
theorem cC_one (c : Ic) (u : Value) (hu : u ∈ cC c) : u.oneCell' = true := by
  simp only [cC, List.mem_cons, List.not_mem_nil, or_false] at hu
  rcases hu with rfl | rfl | rfl <;> rfl

set_option maxRecDepth 100000 in
set_option maxHeartbeats 6400000 in
theorem EndsLaw_any (g : Gl) (Ab Ad Ah Aw : Option Addr) (cb cd ch cw : Nat) (h : List Rg) (ws : List Int) (w : World) (hg : GlIn w w.heap.size g Ab Ad) (hh : SlAt w w.heap.size 2 Ah h.length (fR h)) (hw : SlAt w w.heap.size 1 Aw ws.length (fU ws))
    (hwb : ∀ k, k < ws.length → 0 ≤ gI ws k ∧ gI ws k ≤ 65535) (hwl : ws.length ≤ maxLen) (m3 m4 : Int) (hm3 : 0 ≤ m3 ∧ m3 ≤ 255) (hm4 : 0 ≤ m4 ∧ m4 ≤ 255) :
    Calls Try.prog 5 #[.agg #[.int .i64 g.base, .slice Ab g.bands.length cb, .slice Ad g.depths.length cd, .int .i64 g.blo, .int .i64 g.bhi], .slice Ah h.length ch, .slice Aw ws.length cw, .int .u8 m3, .int .u8 m4] w fun e w' => e = .returned (.bool true) ∧ Below w.heap.size w w' := by
  obtain ⟨i0, hi0, hz0', hz1', hz2'⟩ := info_parts icR_info
  have HI := Lib.hid hi0
  clear hi0
  have hb1 := ex_alloc (Below.refl w.heap.size w) (.cells #[.int .i64 g.base, .slice Ab g.bands.length cb, .slice Ad g.depths.length cd, .int .i64 g.blo, .int .i64 g.bhi] 27)
  have q1 : Blk (w.alloc (.cells #[.int .i64 g.base, .slice Ab g.bands.length cb, .slice Ad g.depths.length cd, .int .i64 g.blo, .int .i64 g.bhi] 27)) w.heap.size 27 #[.int .i64 g.base, .slice Ab g.bands.length cb, .slice Ad g.depths.length cd, .int .i64 g.blo, .int .i64 g.bhi] := Blk.new _ _ _
  cases hr : readyB g h
  · have HR := Lib.hid hr
    clear hr
    go_enter Try.func5, Try.ntmps5
    go_wp2_with fail
    refine (ready_any g _ _ _ _ _ _ h _ ((hg.below hb1).up hb1.size) ((hh.below hb1).up hb1.size)).mono ?_
    rintro e w2 ⟨rfl, hb2⟩
    rw [HR.out]
    go_wp2_with fail
    refine (awake_any _).mono ?_
    rintro e w3 ⟨rfl, hb3⟩
    go_wp2
    go_ret
    exact ⟨rfl, ex_trans (ex_trans hb1 hb2) hb3⟩
  have HR := Lib.hid hr
  unfold readyB at hr
  simp only [Bool.and_eq_true, decide_eq_true_eq] at hr
  obtain ⟨hth, hlv⟩ := hr
  obtain ⟨hnb, hnd, hnh, _⟩ := thinB_iff.1 hth
  have hok := ok_of_lived hlv
  have hpos := hok.nh.1
  have HK := Lib.hid hok
  have HLV := Lib.hid hlv
  clear hth hlv hok
  go_enter Try.func5, Try.ntmps5
  go_wp2_with fail
  refine (ready_any g _ _ _ _ _ _ h _ ((hg.below hb1).up hb1.size) ((hh.below hb1).up hb1.size)).mono ?_
  rintro e w2 ⟨rfl, hb2⟩
  have hB2 := ex_trans hb1 hb2
  rw [HR.out]
  have p1 := q1.below hb2 q1.lt
  clear q1
  have a0 : w2.cell? ⟨w.heap.size, 0, none⟩ = some (.int .i64 g.base) := p1.cell 0
  have a1 : w2.cell? ⟨w.heap.size, 1, none⟩ = some (.slice Ab g.bands.length cb) := p1.cell 1
  have a2 : w2.cell? ⟨w.heap.size, 2, none⟩ = some (.slice Ad g.depths.length cd) := p1.cell 2
  have a3 : w2.cell? ⟨w.heap.size, 3, none⟩ = some (.int .i64 g.blo) := p1.cell 3
  have a4 : w2.cell? ⟨w.heap.size, 4, none⟩ = some (.int .i64 g.bhi) := p1.cell 4
  have l1 := p1.lt
  go_wp2_with fail
  refine wp_region_ext_mix 8 [(false, 0), (false, 1), (false, 2), (false, 3), (false, 5), (false, 6), (true, 4), (true, 7)] (by kernel_rfl) (by kernel_rfl) (by intro d _ _ _ _ h; cases d <;> exact h) ?_
  have hW0 := (Below.refl w2.heap.size w2).drew
  repeat (refine mix_quiet rfl ?_; go_big_quiet_step (fail); refine wpQuiet_nil ?_)
  refine mix_loud rfl ?_
  go_wp2_with fail
  refine (Picked_any g _ _ _ _ _ _ _ _ h ws w2.drew ((hg.below (ex_trans hB2 hW0)).up (ex_trans hB2 hW0).size) ((hh.below (ex_trans hB2 hW0)).up (ex_trans hB2 hW0).size) ((hw.below (ex_trans hB2 hW0)).up (ex_trans hB2 hW0).size) hwb hwl HK.out).mono ?_
  rintro e w3 ⟨⟨A1, A2, A3, c1, c2, c3, t1, t2, t3, rfl, ht, k1, k2, k3⟩, hb3⟩
  have hW3 := ex_trans hW0 hb3
  have hB3 := ex_trans hB2 hW3
  have HT := Lib.hid ht
  clear ht
  go_wp2_with fail
  refine ⟨inEx hW3, ?_⟩
  refine mix_loud rfl ?_
  go_wp2_with fail
  refine (Read_any g _ _ _ _ _ _ h ws m3 0 w3 ((hg.below hB3).up hB3.size) _ _ _ _ _ _ t1 t2 t3 k1 k2 k3 ((hw.below hB3).up hB3.size) hwb hwl HK.out HT.out hm3.1 hm3.2 (by omega) (by omega)).mono ?_
  rintro e w5 ⟨⟨Ai, ci, l, rfl, hl4, hci1, hci2, hR, hi⟩, hb5⟩
  have hW5 := ex_trans hW3 hb5
  have hB5 := ex_trans hB2 hW5
  go_wp2_with fail
  refine ⟨inEx hW5, ?_⟩
  refine mix_nil rfl ?_
  replace p1 := p1.below hW5 l1
  clear a0 a1 a2 a3 a4 l1 k1 k2 k3
  go_wp2_with fail
  refine (IcesFault_any _ _ _ _ h.length l _ (by omega) hi).mono ?_
  rintro e w6 ⟨rfl, hb6⟩
  have hB6 := ex_trans hB5 hb6
  by_cases hic : icsF h.length l ≠ 0
  · have e1 : (icsF h.length l != 0) = true := by simp [hic]
    clear hic
    go_wp2_with fail
    refine (awake_any _).mono ?_
    rintro e w7 ⟨rfl, hb7⟩
    go_wp2
    go_ret
    exact ⟨rfl, ex_trans hB6 hb7⟩
  have HIC := Lib.hid (iced_of HLV.out (by simpa using hic))
  have e0 : icsF h.length l = 0 := by simpa using hic
  rw [e0]
  clear hic e0
  have HA := Lib.hid hR.all
  clear hR
  replace p1 := p1.below hb6 p1.lt
  have a0 : w6.cell? ⟨w.heap.size, 0, none⟩ = some (.int .i64 g.base) := p1.cell 0
  have a1 : w6.cell? ⟨w.heap.size, 1, none⟩ = some (.slice Ab g.bands.length cb) := p1.cell 1
  have a2 : w6.cell? ⟨w.heap.size, 2, none⟩ = some (.slice Ad g.depths.length cd) := p1.cell 2
  have a3 : w6.cell? ⟨w.heap.size, 3, none⟩ = some (.int .i64 g.blo) := p1.cell 3
  have a4 : w6.cell? ⟨w.heap.size, 4, none⟩ = some (.int .i64 g.bhi) := p1.cell 4
  have l1 := p1.lt
  go_wp2_with fail
  refine (Glass_any g _ _ _ _ w6 ((hg.below hB6).up hB6.size) (by omega) (by omega)).mono ?_
  rintro e y1 ⟨⟨Ab_y1, Ad_y1, cb_y1, cd_y1, rfl, hg_y1⟩, hy1⟩
  have B_y1 := ex_trans hB6 hy1
  go_wp2_with fail
  refine (History_any _ _ h y1 (by omega) ((hh.below B_y1).up B_y1.size)).mono ?_
  rintro e y2 ⟨⟨Ah_y2, ch_y2, rfl, _, _, hh_y2⟩, hy2⟩
  have B_y2 := ex_trans B_y1 hy2
  have I_y2 := ex_trans hb6 (ex_trans hy1 hy2)
  go_wp2_with fail
  refine (Ices_any _ _ l y2 (by omega) ((hi.below I_y2).up I_y2.size)).mono ?_
  rintro e y3 ⟨⟨Ai_y3, ci_y3, rfl, hc1_y3, hc2_y3, hi_y3⟩, hy3⟩
  have B_y3 := ex_trans B_y2 hy3
  have I_y3 := ex_trans I_y2 hy3
  go_wp2_with fail
  refine (Zeros_ok g _ _ _ _ _ _ _ _ h l _ ((hg_y1.below (ex_trans hy2 hy3)).up (ex_trans hy2 hy3).size) ((hh_y2.below hy3).up hy3.size) hi_y3 HIC.out).mono ?_
  rintro e y4 ⟨⟨hno, rfl⟩ | ⟨_, Az, zs, rfl, hz, hsz⟩, hy4⟩
  · exact absurd (HA.out.can HK.out HT.out off0) hno
  have B_y := ex_trans B_y3 hy4
  have I_y := ex_trans I_y3 hy4
  have X_y := ex_trans (ex_trans (ex_trans hy1 hy2) hy3) hy4
  have HZ := Lib.hid hz
  clear hz hg_y1 hh_y2 hi_y3
  replace p1 := p1.below X_y l1
  clear a0 a1 a2 a3 a4 l1
  obtain ⟨d, hd⟩ : ∃ d : Nat, m4 % (h.length : Int) = (d : Int) := ⟨(m4 % (h.length : Int)).toNat, by have := Int.emod_nonneg m4 (show (h.length : Int) ≠ 0 by omega); omega⟩
  have hdl : d < h.length := by have := Int.emod_lt_of_pos m4 (show (0 : Int) < (h.length : Int) by omega); omega
  have hn0 : ((h.length : Int) == 0) = false := by rw [beq_eq_false_iff_ne]; omega
  have hn0' : (h.length == 0) = false := by rw [beq_eq_false_iff_ne]; omega
  have hn1 : (1 : Int) ≤ (h.length : Int) := by omega
  have hm40 := hm4.1
  have hm41 := hm4.2
  have HP := Lib.hid (fun j (hj : j < l.length) => (HA.out.take (j + 1)).agree HK.out HT.out off0)
  have hzok := ((zs_iff HK.out).1 HZ.out).2 d hdl
  have hlo := zat_bd HK.out hdl hzok.1
  have hhi := zat_bd HK.out hdl hzok.2.1
  have hlh := hzok.2.2 _ hzok.1
  clear hzok
  go_wp2_with fail
  rw [hd]
  refine wp_loop (fun a W => ∃ k : Nat, k ≤ 4 ∧ Below y4.heap.size y4 W ∧ ∃ u : Nat → Value, a = ⟨List.toArray (.agg #[.int .i64 g.base, .slice Ab g.bands.length cb, .slice Ad g.depths.length cd, .int .i64 g.blo, .int .i64 g.bhi] :: .slice Ah h.length ch :: u 2 :: u 3 :: u 4 :: .pointer (some ⟨w.heap.size, 0, none⟩) :: u 6 :: u 7 :: u 8 :: u 9 :: u 10 :: .slice Ai l.length ci :: .slice Az h.length h.length :: u 13 :: .int .i64 (d : Int) :: .int .i64 (k : Int) :: u 16 :: u 17 :: u 18 :: u 19 :: u 20 :: u 21 :: u 22 :: u 23 :: u 24 :: u 25 :: u 26 :: u 27 :: u 28 :: u 29 :: u 30 :: u 31 :: u 32 :: u 33 :: u 34 :: u 35 :: u 36 :: u 37 :: u 38 :: u 39 :: u 40 :: u 41 :: u 42 :: u 43 :: u 44 :: u 45 :: u 46 :: u 47 :: u 48 :: u 49 :: u 50 :: u 51 :: u 52 :: u 53 :: u 54 :: u 55 :: u 56 :: u 57 :: u 58 :: u 59 :: u 60 :: u 61 :: u 62 :: u 63 :: u 64 :: u 65 :: u 66 :: u 67 :: u 68 :: u 69 :: u 70 :: u 71 :: u 72 :: u 73 :: u 74 :: u 75 :: u 76 :: u 77 :: u 78 :: u 79 :: u 80 :: u 81 :: u 82 :: u 83 :: u 84 :: u 85 :: u 86 :: u 87 :: u 88 :: u 89 :: u 90 :: u 91 :: u 92 :: u 93 :: u 94 :: u 95 :: u 96 :: u 97 :: u 98 :: u 99 :: u 100 :: u 101 :: u 102 :: u 103 :: u 104 :: u 105 :: u 106 :: u 107 :: u 108 :: u 109 :: u 110 :: u 111 :: u 112 :: u 113 :: u 114 :: u 115 :: u 116 :: u 117 :: u 118 :: u 119 :: u 120 :: u 121 :: u 122 :: u 123 :: u 124 :: u 125 :: u 126 :: u 127 :: u 128 :: u 129 :: u 130 :: u 131 :: u 132 :: u 133 :: u 134 :: u 135 :: u 136 :: u 137 :: u 138 :: u 139 :: u 140 :: u 141 :: u 142 :: u 143 :: u 144 :: u 145 :: u 146 :: u 147 :: u 148 :: u 149 :: u 150 :: u 151 :: u 152 :: u 153 :: u 154 :: []), []⟩)
    (fun a _ => 4 - (intOf (a.tmps.getD 15 undef)).toNat) ⟨0, by omega, Below.refl _ _, exFrame (by kernel_rfl)⟩ ?_
  · rintro a wr ⟨k, hk, hbl, u, rfl⟩
    have hwr := ex_trans B_y hbl
    by_cases hlt : k < 4
    · obtain ⟨bz, oz, rfl, hbz, g0, g1⟩ := IsRgs.at_ (hsz.below hbl) hdl
      have hws := hbl.size
      have hbz' : bz < wr.heap.size := by omega
      obtain ⟨lo, elo⟩ : ∃ lo, (gR zs d).lo = lo := ⟨_, rfl⟩
      obtain ⟨hi', ehi⟩ : ∃ hi', (gR zs d).hi = hi' := ⟨_, rfl⟩
      rw [elo] at g0 hlo hlh
      rw [ehi] at g1 hhi hlh
      have HLO := Lib.hid elo
      have HHI := Lib.hid ehi
      clear elo ehi
      have w1 : IntKind.i64.wrap (lo - 1) = lo - 1 := IntWalk.i64_in _ (by omega)
      have w2' : IntKind.i64.wrap (hi' + 1) = hi' + 1 := IntWalk.i64_in _ (by omega)
      obtain ⟨nk, hnk1, hnk2, hcell⟩ : ∃ nk : Int, (k < 2 → nk = lo ∨ nk = hi') ∧ (2 ≤ k → nk < lo ∨ hi' < nk) ∧ (#[.int .i64 lo, .int .i64 hi', .int .i64 (lo - 1), .int .i64 (hi' + 1)] : Array Value)[k]? = some (.int .i64 nk) := by
        match k, hlt with
        | 0, _ => exact ⟨lo, fun _ => .inl rfl, fun h => by omega, rfl⟩
        | 1, _ => exact ⟨hi', fun _ => .inr rfl, fun h => by omega, rfl⟩
        | 2, _ => exact ⟨lo - 1, fun h => by omega, fun _ => .inl (by omega), rfl⟩
        | 3, _ => exact ⟨hi' + 1, fun h => by omega, fun _ => .inr (by omega), rfl⟩
      have hnkb : -2001 ≤ nk ∧ nk ≤ 2001 := by
        match k, hlt with
        | 0, _ => rcases hnk1 (by omega) with h | h <;> omega
        | 1, _ => rcases hnk1 (by omega) with h | h <;> omega
        | 2, _ => have : nk = lo - 1 := by simpa using hcell.symm
                  omega
        | 3, _ => have : nk = hi' + 1 := by simpa using hcell.symm
                  omega
      have HN1 := Lib.hid hnk1
      have HN2 := Lib.hid hnk2
      clear hnk1 hnk2
      have hV := ((Below.refl wr.heap.size wr).alloc (Nat.le_refl _) (.cells #[.int .i64 lo, .int .i64 hi', .int .i64 (lo - 1), .int .i64 (hi' + 1)] 3)).drew
      have hVc : (wr.alloc (.cells #[.int .i64 lo, .int .i64 hi', .int .i64 (lo - 1), .int .i64 (hi' + 1)] 3)).drew.cell? ⟨wr.heap.size, k, none⟩ = some (.int .i64 nk) := by
        rw [cell_of_row _ _ _ _ _ _ (show (wr.alloc (.cells #[.int .i64 lo, .int .i64 hi', .int .i64 (lo - 1), .int .i64 (hi' + 1)] 3)).drew.heap[wr.heap.size]? = _ from heap_alloc_new wr _)]
        exact hcell
      go_wp2_with fail
      refine wp_region_ext_mix 26 [(false, 0), (false, 1), (false, 2), (false, 3), (false, 4), (false, 5), (false, 6), (false, 7), (false, 8), (false, 9), (false, 10), (false, 11), (false, 12), (false, 13), (false, 14), (false, 15), (false, 16), (false, 17), (false, 18), (false, 19), (false, 20), (false, 21), (false, 23), (true, 22), (true, 24), (true, 25)] (by kernel_rfl) (by kernel_rfl) (by intro d _ _ _ _ h; cases d <;> exact h) ?_
      repeat (refine mix_quiet rfl ?_; go_big_quiet_step (fail); refine wpQuiet_nil ?_)
      refine mix_loud rfl ?_
      go_wp2_with fail
      refine ⟨inEx hV, ?_⟩
      generalize (wr.alloc (.cells #[.int .i64 lo, .int .i64 hi', .int .i64 (lo - 1), .int .i64 (hi' + 1)] 3)).drew = V at *
      refine mix_loud rfl ?_
      go_wp2_with fail
      refine ⟨inEx hV, ?_⟩
      refine mix_loud rfl ?_
      go_wp2_with fail
      refine ⟨inEx hV, ?_⟩
      refine mix_nil rfl ?_
      have hVy := ex_trans hbl hV
      have hVw := ex_trans B_y hVy
      have hE := ex_alloc hVy (.cells #[] 62)
      have hiE : SlAt (V.alloc (.cells #[] 62)) (V.alloc (.cells #[] 62)).heap.size 3 Ai l.length (fC l) := (hi.below (ex_trans I_y hE)).up (ex_trans I_y hE).size
      have hbE : V.heap.size ≤ (V.alloc (.cells #[] 62)).heap.size := by simp
      go_wp2_with (at_builtin; first
        | (refine wpList_append_list (f := cC) (F := fC) (sz := 3) cC_len cC_at cC_one rfl _ _ _ rfl V.heap.size 62 i0 _ 24 Try.underlying29 HI.out hz0' hz1' hz2' rfl (by omega) (some ⟨V.heap.size, 0, none⟩) 0 [] rfl (own_empty (Blk.new _ _ _) (Nat.le_refl _)) Ai ci l rfl hiE (by simp; unfold maxLen; omega) (by simp; omega) hbE (V.heap.size + 1) (by simp) ?_; intro L1 B1' k1' v1 HL1 o1 g1 n1; have hl1 : L1.length ≤ 4 := (by rw [HL1.out]; simpa using hl4); have hb1E : V.heap.size ≤ (v1.alloc (.cells #[.int .i64 (d : Int), .int .i64 nk, .int .i64 0] 62)).heap.size := (by have := g1.size; simp at this ⊢; omega))
        | (refine wpList_append_list (f := cC) (F := fC) (sz := 3) cC_len cC_at cC_one rfl _ _ _ rfl V.heap.size 62 i0 _ 24 Try.underlying29 HI.out hz0' hz1' hz2' rfl (by omega) B1' k1' L1 rfl (own_below o1 ((Below.refl _ _).alloc (Nat.le_refl _) _)) (some ⟨v1.heap.size, 0, none⟩) 1 [⟨(d : Int), nk, 0⟩] rfl (one_at (Blk.new _ _ _) (ice_row (d : Int) nk 0)) (by simp; unfold maxLen; omega) (by simp; omega) hb1E (v1.heap.size + 1) (by simp) ?_; intro L2 B2' k2' v2 HL2 o2 g2 n2))
      have HL : Hid (L2 = l ++ [⟨(d : Int), nk, 0⟩]) := Lib.hid (by rw [HL2.out, HL1.out]; rfl)
      have hl2 : L2.length ≤ 5 := by rw [HL.out]; simp; omega
      have hy4V := hVy.size
      have hE1 : Below y4.heap.size y4 v1 := hE.grown g1 hE.size (fun j hj => by have : V.heap.size = j := by simpa [Value.ownBlock] using hj
                                                                                 omega)
      have hE2 := ex_alloc hE1 (.cells #[.int .i64 (d : Int), .int .i64 nk, .int .i64 0] 62)
      have hE3 : Below y4.heap.size y4 v2 := hE2.grown g2 hE2.size (fun j hj => by have := own_ge o1 hj; omega)
      obtain ⟨A', c', hv, hc1', hc2', hs2⟩ := own_C o2
      injection hv with hva hvb hvc
      subst hva
      have B_v := ex_trans B_y hE3
      clear o1 o2 g1 g2 n1 n2 HL1 HL2 hE hE1 hE2 hiE hbE hb1E hvb hvc hVc hcell hV hVy hVw
      go_wp2_with fail
      refine (IcesFault_any _ _ _ _ h.length L2 _ (by omega) hs2).mono ?_
      rintro e v3 ⟨rfl, hv3⟩
      have B_v3 := ex_trans B_v hv3
      have E_v3 := ex_trans hE3 hv3
      by_cases hic2 : icsF h.length L2 ≠ 0
      · have e1 : (icsF h.length L2 != 0) = true := by simp [hic2]
        clear hic2
        go_wp2
        refine ⟨⟨k + 1, by omega, E_v3, exFrame (by kernel_rfl)⟩, ?_⟩
        show 4 - (intOf (.int .i64 ((k : Int) + 1))).toNat < 4 - (intOf (.int .i64 (k : Int))).toNat
        simp [intOf]
        omega
      have HIC2 := Lib.hid (iced_of HLV.out (by simpa using hic2))
      have e0 : icsF h.length L2 = 0 := by simpa using hic2
      rw [e0]
      clear hic2 e0
      have p3 := p1.below E_v3 p1.lt
      have a0 : v3.cell? ⟨w.heap.size, 0, none⟩ = some (.int .i64 g.base) := p3.cell 0
      have a1 : v3.cell? ⟨w.heap.size, 1, none⟩ = some (.slice Ab g.bands.length cb) := p3.cell 1
      have a2 : v3.cell? ⟨w.heap.size, 2, none⟩ = some (.slice Ad g.depths.length cd) := p3.cell 2
      have a3 : v3.cell? ⟨w.heap.size, 3, none⟩ = some (.int .i64 g.blo) := p3.cell 3
      have a4 : v3.cell? ⟨w.heap.size, 4, none⟩ = some (.int .i64 g.bhi) := p3.cell 4
      have l1 := p3.lt
      by_cases hk2 : k < 2
      · have HAG : Hid (agreeB g h L2 off0 = true) := Lib.hid (by rw [HL.out]; exact ends_agree HK.out HZ.out hdl (by rw [HLO.out, HHI.out]; exact HN1.out hk2))
        have f1 : decide (k < 2) = true := decide_eq_true hk2
        have f2 : decide ((k : Int) < 2) = true := decide_eq_true (by omega)
        have f3 : decide (2 ≤ k) = false := decide_eq_false (by omega)
        have f4 : decide ((2 : Int) ≤ (k : Int)) = false := decide_eq_false (by omega)
        go_wp2_with fail
        refine (Glass_any g _ _ _ _ v3 ((hg.below B_v3).up B_v3.size) (by omega) (by omega)).mono ?_
        rintro e r1 ⟨⟨Ab_r1, Ad_r1, cb_r1, cd_r1, rfl, hg_r1⟩, hr1⟩
        have B_r1 := ex_trans B_v3 hr1
        go_wp2_with fail
        refine (History_any _ _ h r1 (by omega) ((hh.below B_r1).up B_r1.size)).mono ?_
        rintro e r2 ⟨⟨Ah_r2, ch_r2, rfl, _, _, hh_r2⟩, hr2⟩
        have B_r2 := ex_trans B_r1 hr2
        have I_r2 := ex_trans hv3 (ex_trans hr1 hr2)
        go_wp2_with fail
        refine (Ices_any _ _ L2 r2 (by omega) ((hs2.below I_r2).up I_r2.size)).mono ?_
        rintro e r3 ⟨⟨Ai_r3, ci_r3, rfl, hc1_r3, hc2_r3, hi_r3⟩, hr3⟩
        have B_r3 := ex_trans B_r2 hr3
        have I_r3 := ex_trans I_r2 hr3
        go_wp2_with fail
        refine (Zeros_ok g _ _ _ _ _ _ _ _ h L2 _ ((hg_r1.below (ex_trans hr2 hr3)).up (ex_trans hr2 hr3).size) ((hh_r2.below hr3).up hr3.size) hi_r3 HIC2.out).mono ?_
        rintro e r4 ⟨⟨hno, rfl⟩ | ⟨_, Az', zs', rfl, _, _⟩, hr4⟩
        · exact absurd (agreeB_iff.1 HAG.out) hno
        have B_r := ex_trans B_r3 hr4
        have I_r := ex_trans I_r3 hr4
        have X_r := ex_trans (ex_trans (ex_trans hr1 hr2) hr3) hr4
        clear hg_r1 hh_r2 hi_r3
        have p4 := p3.below X_r l1
        clear a0 a1 a2 a3 a4 l1
        have a0 : r4.cell? ⟨w.heap.size, 0, none⟩ = some (.int .i64 g.base) := p4.cell 0
        have a1 : r4.cell? ⟨w.heap.size, 1, none⟩ = some (.slice Ab g.bands.length cb) := p4.cell 1
        have a2 : r4.cell? ⟨w.heap.size, 2, none⟩ = some (.slice Ad g.depths.length cd) := p4.cell 2
        have a3 : r4.cell? ⟨w.heap.size, 3, none⟩ = some (.int .i64 g.blo) := p4.cell 3
        have a4 : r4.cell? ⟨w.heap.size, 4, none⟩ = some (.int .i64 g.bhi) := p4.cell 4
        have l1 := p4.lt
        go_wp2_with fail
        refine (Glass_any g _ _ _ _ r4 ((hg.below B_r).up B_r.size) (by omega) (by omega)).mono ?_
        rintro e j1 ⟨⟨Ab_j1, Ad_j1, cb_j1, cd_j1, rfl, hg_j1⟩, hj1⟩
        have B_j1 := ex_trans B_r hj1
        go_wp2_with fail
        refine (History_any _ _ h j1 (by omega) ((hh.below B_j1).up B_j1.size)).mono ?_
        rintro e j2 ⟨⟨Ah_j2, ch_j2, rfl, _, _, hh_j2⟩, hj2⟩
        have B_j2 := ex_trans B_j1 hj2
        have I_j2 := ex_trans I_r (ex_trans hj1 hj2)
        go_wp2_with fail
        refine (Ices_any _ _ L2 j2 (by omega) ((hs2.below I_j2).up I_j2.size)).mono ?_
        rintro e j3 ⟨⟨Ai_j3, ci_j3, rfl, hc1_j3, hc2_j3, hi_j3⟩, hj3⟩
        have B_j3 := ex_trans B_j2 hj3
        have I_j3 := ex_trans I_j2 hj3
        go_wp2_with fail
        refine (Shows_good g _ _ _ _ _ _ _ _ h L2 _ ((hg_j1.below (ex_trans hj2 hj3)).up (ex_trans hj2 hj3).size) ((hh_j2.below hj3).up hj3.size) hi_j3 hc1_j3 hc2_j3 HIC2.out).mono ?_
        rintro e j4 ⟨he, hj4⟩
        rw [HL.out] at he
        obtain rfl := shows_more' HP.out (by rw [← HL.out]; exact HAG.out) he
        clear he
        have B_j := ex_trans B_j3 hj4
        have I_j := ex_trans I_j3 hj4
        have X_j := ex_trans (ex_trans (ex_trans hj1 hj2) hj3) hj4
        go_wp2_with fail
        refine ⟨⟨k + 1, by omega, ex_trans E_v3 (ex_trans X_r X_j), exFrame (by kernel_rfl)⟩, ?_⟩
        show 4 - (intOf (.int .i64 ((k : Int) + 1))).toNat < 4 - (intOf (.int .i64 (k : Int))).toNat
        simp [intOf]
        omega
      · have HAG : Hid (agreeB g h L2 off0 = false) := Lib.hid (by rw [HL.out]; exact ends_false HK.out HZ.out hdl (by rw [HLO.out, HHI.out]; exact HN2.out (by omega)))
        have f1 : decide (k < 2) = false := decide_eq_false hk2
        have f2 : decide ((k : Int) < 2) = false := decide_eq_false (by omega)
        have f3 : decide (2 ≤ k) = true := decide_eq_true (by omega)
        have f4 : decide ((2 : Int) ≤ (k : Int)) = true := decide_eq_true (by omega)
        go_wp2_with fail
        refine (Glass_any g _ _ _ _ v3 ((hg.below B_v3).up B_v3.size) (by omega) (by omega)).mono ?_
        rintro e r1 ⟨⟨Ab_r1, Ad_r1, cb_r1, cd_r1, rfl, hg_r1⟩, hr1⟩
        have B_r1 := ex_trans B_v3 hr1
        go_wp2_with fail
        refine (History_any _ _ h r1 (by omega) ((hh.below B_r1).up B_r1.size)).mono ?_
        rintro e r2 ⟨⟨Ah_r2, ch_r2, rfl, _, _, hh_r2⟩, hr2⟩
        have B_r2 := ex_trans B_r1 hr2
        have I_r2 := ex_trans hv3 (ex_trans hr1 hr2)
        go_wp2_with fail
        refine (Ices_any _ _ L2 r2 (by omega) ((hs2.below I_r2).up I_r2.size)).mono ?_
        rintro e r3 ⟨⟨Ai_r3, ci_r3, rfl, hc1_r3, hc2_r3, hi_r3⟩, hr3⟩
        have B_r3 := ex_trans B_r2 hr3
        have I_r3 := ex_trans I_r2 hr3
        go_wp2_with fail
        refine (Zeros_ok g _ _ _ _ _ _ _ _ h L2 _ ((hg_r1.below (ex_trans hr2 hr3)).up (ex_trans hr2 hr3).size) ((hh_r2.below hr3).up hr3.size) hi_r3 HIC2.out).mono ?_
        rintro e r4 ⟨⟨hno, rfl⟩ | ⟨hyes, Az', zs', rfl, _, _⟩, hr4⟩
        rotate_left
        · exact absurd (agreeB_iff.2 hyes) (by rw [HAG.out]; simp)
        have B_r := ex_trans B_r3 hr4
        have I_r := ex_trans I_r3 hr4
        have X_r := ex_trans (ex_trans (ex_trans hr1 hr2) hr3) hr4
        clear hg_r1 hh_r2 hi_r3
        have p4 := p3.below X_r l1
        clear a0 a1 a2 a3 a4 l1
        have a0 : r4.cell? ⟨w.heap.size, 0, none⟩ = some (.int .i64 g.base) := p4.cell 0
        have a1 : r4.cell? ⟨w.heap.size, 1, none⟩ = some (.slice Ab g.bands.length cb) := p4.cell 1
        have a2 : r4.cell? ⟨w.heap.size, 2, none⟩ = some (.slice Ad g.depths.length cd) := p4.cell 2
        have a3 : r4.cell? ⟨w.heap.size, 3, none⟩ = some (.int .i64 g.blo) := p4.cell 3
        have a4 : r4.cell? ⟨w.heap.size, 4, none⟩ = some (.int .i64 g.bhi) := p4.cell 4
        have l1 := p4.lt
        go_wp2_with fail
        refine (Glass_any g _ _ _ _ r4 ((hg.below B_r).up B_r.size) (by omega) (by omega)).mono ?_
        rintro e j1 ⟨⟨Ab_j1, Ad_j1, cb_j1, cd_j1, rfl, hg_j1⟩, hj1⟩
        have B_j1 := ex_trans B_r hj1
        go_wp2_with fail
        refine (History_any _ _ h j1 (by omega) ((hh.below B_j1).up B_j1.size)).mono ?_
        rintro e j2 ⟨⟨Ah_j2, ch_j2, rfl, _, _, hh_j2⟩, hj2⟩
        have B_j2 := ex_trans B_j1 hj2
        have I_j2 := ex_trans I_r (ex_trans hj1 hj2)
        go_wp2_with fail
        refine (Ices_any _ _ L2 j2 (by omega) ((hs2.below I_j2).up I_j2.size)).mono ?_
        rintro e j3 ⟨⟨Ai_j3, ci_j3, rfl, hc1_j3, hc2_j3, hi_j3⟩, hj3⟩
        have B_j3 := ex_trans B_j2 hj3
        have I_j3 := ex_trans I_j2 hj3
        go_wp2_with fail
        refine (Shows_good g _ _ _ _ _ _ _ _ h L2 _ ((hg_j1.below (ex_trans hj2 hj3)).up (ex_trans hj2 hj3).size) ((hh_j2.below hj3).up hj3.size) hi_j3 hc1_j3 hc2_j3 HIC2.out).mono ?_
        rintro e j4 ⟨he, hj4⟩
        rw [HL.out] at he
        obtain rfl := shows_more HP.out (by rw [← HL.out]; exact HAG.out) he
        clear he
        have B_j := ex_trans B_j3 hj4
        have I_j := ex_trans I_j3 hj4
        have X_j := ex_trans (ex_trans (ex_trans hj1 hj2) hj3) hj4
        go_wp2_with fail
        refine ⟨⟨k + 1, by omega, ex_trans E_v3 (ex_trans X_r X_j), exFrame (by kernel_rfl)⟩, ?_⟩
        show 4 - (intOf (.int .i64 ((k : Int) + 1))).toNat < 4 - (intOf (.int .i64 (k : Int))).toNat
        simp [intOf]
        omega
    · go_wp2_with fail
      refine (awake_any _).mono ?_
      rintro e we ⟨rfl, hbe⟩
      go_wp2
      go_ret
      exact ⟨rfl, ex_trans hwr hbe⟩

end Go.Proofs.Ytlgmeofpkfliaaa
end
