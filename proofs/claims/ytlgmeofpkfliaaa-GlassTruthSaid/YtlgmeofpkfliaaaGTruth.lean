/- The law GlassTruth (walk). · The row GlassTruth: in each truth in which all ices are true the zero of each day is in its range. -/
import Derived.WalkKit
import Derived.ProofKit
import Derived.OpenShut
import Derived.Test.YtlgmeofpkfliaaaGi
import Derived.Test.YtlgmeofpkfliaaaGh
import Derived.Test.YtlgmeofpkfliaaaGf
import Derived.Test.YtlgmeofpkfliaaaRows
set_option linter.unusedVariables false
set_option linter.unusedSimpArgs false
set_option linter.unusedSectionVars false
section
namespace Go.Proofs.Ytlgmeofpkfliaaa
open Go.RowKit
attribute [local go_sem] Ex.cell? Ex.frozen? Gx.cell?

set_option maxRecDepth 100000 in
set_option maxHeartbeats 6400000 in
theorem TruthLaw_any (g : Gl) (Ab Ad Ah Aw : Option Addr) (cb cd ch cw : Nat) (h : List Rg) (ws : List Int) (w : World) (hg : GlIn w w.heap.size g Ab Ad) (hh : SlAt w w.heap.size 2 Ah h.length (fR h)) (hw : SlAt w w.heap.size 1 Aw ws.length (fU ws))
    (hwb : ∀ k, k < ws.length → 0 ≤ gI ws k ∧ gI ws k ≤ 65535) (hwl : ws.length ≤ maxLen) (m : Int) (hm0 : 0 ≤ m) (hm1 : m ≤ 255) :
    Calls Try.prog 15 #[.agg #[.int .i64 g.base, .slice Ab g.bands.length cb, .slice Ad g.depths.length cd, .int .i64 g.blo, .int .i64 g.bhi], .slice Ah h.length ch, .slice Aw ws.length cw, .int .u8 m] w fun e w' => e = .returned (.bool true) ∧ Below w.heap.size w w' := by
  have hb1 := ex_alloc (Below.refl w.heap.size w) (.cells #[.int .i64 g.base, .slice Ab g.bands.length cb, .slice Ad g.depths.length cd, .int .i64 g.blo, .int .i64 g.bhi] 27)
  have q1 : Blk (w.alloc (.cells #[.int .i64 g.base, .slice Ab g.bands.length cb, .slice Ad g.depths.length cd, .int .i64 g.blo, .int .i64 g.bhi] 27)) w.heap.size 27 #[.int .i64 g.base, .slice Ab g.bands.length cb, .slice Ad g.depths.length cd, .int .i64 g.blo, .int .i64 g.bhi] := Blk.new _ _ _
  cases hr : readyB g h
  · have HR := Lib.hid hr
    clear hr
    go_enter Try.func15, Try.ntmps15
    go_wp2_with fail
    refine (ready_any g _ _ _ _ _ _ h _ ((hg.below hb1).up hb1.size) ((hh.below hb1).up hb1.size)).mono ?_
    rintro e w2 ⟨rfl, hb2⟩
    rw [HR.out]
    go_wp2_with fail
    refine (awake_any _).mono ?_
    rintro e w3 ⟨rfl, hb3⟩
    go_wp2
    go_ret
    exact ⟨rfl, ex_trans (ex_trans hb1 hb2) hb3⟩
  have HR := Lib.hid hr
  unfold readyB at hr
  simp only [Bool.and_eq_true, decide_eq_true_eq] at hr
  obtain ⟨hth, hlv⟩ := hr
  obtain ⟨hnb, hnd, hnh, _⟩ := thinB_iff.1 hth
  have hok := ok_of_lived hlv
  have HK := Lib.hid hok
  have HLV := Lib.hid hlv
  clear hth hlv hok
  go_enter Try.func15, Try.ntmps15
  go_wp2_with fail
  refine (ready_any g _ _ _ _ _ _ h _ ((hg.below hb1).up hb1.size) ((hh.below hb1).up hb1.size)).mono ?_
  rintro e w2 ⟨rfl, hb2⟩
  have hB2 := ex_trans hb1 hb2
  rw [HR.out]
  have p1 := q1.below hb2 q1.lt
  clear q1
  have a0 : w2.cell? ⟨w.heap.size, 0, none⟩ = some (.int .i64 g.base) := p1.cell 0
  have a1 : w2.cell? ⟨w.heap.size, 1, none⟩ = some (.slice Ab g.bands.length cb) := p1.cell 1
  have a2 : w2.cell? ⟨w.heap.size, 2, none⟩ = some (.slice Ad g.depths.length cd) := p1.cell 2
  have a3 : w2.cell? ⟨w.heap.size, 3, none⟩ = some (.int .i64 g.blo) := p1.cell 3
  have a4 : w2.cell? ⟨w.heap.size, 4, none⟩ = some (.int .i64 g.bhi) := p1.cell 4
  have l1 := p1.lt
  go_wp2_with fail
  refine (Picked_any g _ _ _ _ _ _ _ _ h ws w2 ((hg.below hB2).up hB2.size) ((hh.below hB2).up hB2.size) ((hw.below hB2).up hB2.size) hwb hwl HK.out).mono ?_
  rintro e w3 ⟨⟨A1, A2, A3, c1, c2, c3, t1, t2, t3, rfl, ht, k1, k2, k3⟩, hb3⟩
  have hB3 := ex_trans hB2 hb3
  have HT := Lib.hid ht
  have htl := (truthB_iff.1 ht).1
  have ht1 : t1.length ≤ 1000 := by omega
  have ht2 : t2.length ≤ 1000 := by omega
  have ht3 : t3.length ≤ 1000 := by omega
  clear ht htl
  replace p1 := p1.below hb3 l1
  clear a0 a1 a2 a3 a4 l1
  have a0 : w3.cell? ⟨w.heap.size, 0, none⟩ = some (.int .i64 g.base) := p1.cell 0
  have a1 : w3.cell? ⟨w.heap.size, 1, none⟩ = some (.slice Ab g.bands.length cb) := p1.cell 1
  have a2 : w3.cell? ⟨w.heap.size, 2, none⟩ = some (.slice Ad g.depths.length cd) := p1.cell 2
  have a3 : w3.cell? ⟨w.heap.size, 3, none⟩ = some (.int .i64 g.blo) := p1.cell 3
  have a4 : w3.cell? ⟨w.heap.size, 4, none⟩ = some (.int .i64 g.bhi) := p1.cell 4
  have l1 := p1.lt
  have hb4 := ex_alloc (Below.refl w3.heap.size w3) (.cells #[.slice A1 t1.length c1, .slice A2 t2.length c2, .slice A3 t3.length c3] 56)
  have p2 : Blk (w3.alloc (.cells #[.slice A1 t1.length c1, .slice A2 t2.length c2, .slice A3 t3.length c3] 56)) w3.heap.size 56 #[.slice A1 t1.length c1, .slice A2 t2.length c2, .slice A3 t3.length c3] := Blk.new _ _ _
  go_wp2_with fail
  refine (Read_any g _ _ _ _ _ _ h ws m 0 _ ((hg.below (ex_trans hB3 hb4)).up (ex_trans hB3 hb4).size) _ _ _ _ _ _ t1 t2 t3 ((k1.below hb4).up hb4.size) ((k2.below hb4).up hb4.size) ((k3.below hb4).up hb4.size) ((hw.below (ex_trans hB3 hb4)).up (ex_trans hB3 hb4).size) hwb hwl HK.out HT.out hm0 hm1 (by omega) (by omega)).mono ?_
  rintro e w5 ⟨⟨Ai, ci, l, rfl, hl4, hci1, hci2, hR, hi⟩, hb5⟩
  have K5 := ex_trans hb4 hb5
  have hB5 := ex_trans hB3 K5
  replace p1 := p1.below K5 l1
  replace p2 := p2.below hb5 p2.lt
  clear a0 a1 a2 a3 a4 l1
  go_wp2_with fail
  refine (IcesFault_any _ _ _ _ h.length l _ (by omega) hi).mono ?_
  rintro e w6 ⟨rfl, hb6⟩
  have hB6 := ex_trans hB5 hb6
  have K6 := ex_trans K5 hb6
  by_cases hic : icsF h.length l ≠ 0
  · have e1 : (icsF h.length l != 0) = true := by simp [hic]
    clear hic
    go_wp2_with fail
    refine (awake_any _).mono ?_
    rintro e w7 ⟨rfl, hb7⟩
    go_wp2
    go_ret
    exact ⟨rfl, ex_trans hB6 hb7⟩
  have HIC := Lib.hid (iced_of HLV.out (by simpa using hic))
  have e0 : icsF h.length l = 0 := by simpa using hic
  rw [e0]
  clear hic e0
  have HA := Lib.hid hR.all
  clear hR
  replace p1 := p1.below hb6 p1.lt
  replace p2 := p2.below hb6 p2.lt
  have hpw := hB3.size
  have a0 : w6.cell? ⟨w.heap.size, 0, none⟩ = some (.int .i64 g.base) := p1.cell 0
  have a1 : w6.cell? ⟨w.heap.size, 1, none⟩ = some (.slice Ab g.bands.length cb) := p1.cell 1
  have a2 : w6.cell? ⟨w.heap.size, 2, none⟩ = some (.slice Ad g.depths.length cd) := p1.cell 2
  have a3 : w6.cell? ⟨w.heap.size, 3, none⟩ = some (.int .i64 g.blo) := p1.cell 3
  have a4 : w6.cell? ⟨w.heap.size, 4, none⟩ = some (.int .i64 g.bhi) := p1.cell 4
  have l1 := p1.lt
  have d0 : w6.cell? ⟨w3.heap.size, 0, none⟩ = some (.slice A1 t1.length c1) := p2.cell 0
  have d1 : w6.cell? ⟨w3.heap.size, 1, none⟩ = some (.slice A2 t2.length c2) := p2.cell 1
  have d2 : w6.cell? ⟨w3.heap.size, 2, none⟩ = some (.slice A3 t3.length c3) := p2.cell 2
  have l2 := p2.lt

  go_wp2_with fail
  refine wp_region_ext_mix 11 [(false, 0), (false, 2), (false, 4), (true, 1), (true, 3), (true, 5), (true, 6), (false, 7), (false, 8), (false, 9), (false, 10)] (by kernel_rfl) (by kernel_rfl) (by intro d _ _ _ _ h; cases d <;> exact h) ?_
  have hX0 := (Below.refl w6.heap.size w6).drew
  repeat (refine mix_quiet rfl ?_; go_big_quiet_step (fail); refine wpQuiet_nil ?_)
  refine mix_loud rfl ?_
  go_wp2_with fail
  refine (Glass_any g _ _ _ _ w6.drew ((hg.below (ex_trans hB6 hX0)).up (ex_trans hB6 hX0).size) (by omega) (by omega)).mono ?_
  rintro e x1 ⟨⟨Ab_x1, Ad_x1, cb_x1, cd_x1, rfl, hg_x1⟩, hx1⟩
  have hX1 := ex_trans hX0 hx1
  go_wp2_with fail
  refine ⟨inEx hX1, ?_⟩
  refine mix_loud rfl ?_
  go_wp2_with fail
  refine (History_any _ _ h x1 (by omega) ((hh.below (ex_trans hB6 hX1)).up (ex_trans hB6 hX1).size)).mono ?_
  rintro e x2 ⟨⟨Ah_x2, ch_x2, rfl, _, _, hh_x2⟩, hx2⟩
  have hX2 := ex_trans hX1 hx2
  go_wp2_with fail
  refine ⟨inEx hX2, ?_⟩
  refine mix_loud rfl ?_
  go_wp2_with fail
  refine (Truth_any x2 _ _ _ _ _ _ t1 t2 t3 ((k1.below (ex_trans K6 hX2)).up (ex_trans K6 hX2).size) ((k2.below (ex_trans K6 hX2)).up (ex_trans K6 hX2).size) ((k3.below (ex_trans K6 hX2)).up (ex_trans K6 hX2).size) (by omega) (by omega) (by omega)).mono ?_
  rintro e x3 ⟨⟨B1_x3, B2_x3, B3_x3, m1_x3, m2_x3, m3_x3, rfl, s1_x3, s2_x3, s3_x3⟩, hx3⟩
  have hX3 := ex_trans hX2 hx3
  go_wp2_with fail
  refine ⟨inEx hX3, ?_⟩
  refine mix_loud rfl ?_
  go_wp2_with fail
  refine (Play_ok g _ _ _ _ _ _ _ _ _ _ _ _ h t1 t2 t3 _ ((hg_x1.below (ex_trans hx2 hx3)).up (ex_trans hx2 hx3).size) ((hh_x2.below hx3).up hx3.size) s1_x3 s2_x3 s3_x3 HLV.out HT.out).mono ?_
  rintro e x4 ⟨⟨v, rfl, hv⟩, hx4⟩
  obtain ⟨Av, cv, hvv, _, hsv⟩ := own_sl hv
  clear hv
  rw [playTo_len] at hvv hsv
  subst hvv
  have hX4 := ex_trans hX3 hx4
  go_wp2_with fail
  refine ⟨inEx hX4, ?_⟩
  repeat (refine mix_quiet rfl ?_; go_big_quiet_step (fail); refine wpQuiet_nil ?_)
  refine mix_nil rfl ?_
  have hB7 := ex_trans hB6 hX4
  have K7 := ex_trans K6 hX4
  have I7 := ex_trans hb6 hX4
  replace p1 := p1.below hX4 l1
  replace p2 := p2.below hX4 l2
  clear a0 a1 a2 a3 a4 l1 d0 d1 d2 l2 hg_x1 hh_x2 s1_x3 s2_x3 s3_x3
  have a0 : x4.cell? ⟨w.heap.size, 0, none⟩ = some (.int .i64 g.base) := p1.cell 0
  have a1 : x4.cell? ⟨w.heap.size, 1, none⟩ = some (.slice Ab g.bands.length cb) := p1.cell 1
  have a2 : x4.cell? ⟨w.heap.size, 2, none⟩ = some (.slice Ad g.depths.length cd) := p1.cell 2
  have a3 : x4.cell? ⟨w.heap.size, 3, none⟩ = some (.int .i64 g.blo) := p1.cell 3
  have a4 : x4.cell? ⟨w.heap.size, 4, none⟩ = some (.int .i64 g.bhi) := p1.cell 4
  have l1 := p1.lt
  go_wp2_with fail
  refine (Glass_any g _ _ _ _ x4 ((hg.below hB7).up hB7.size) (by omega) (by omega)).mono ?_
  rintro e y1 ⟨⟨Ab_y1, Ad_y1, cb_y1, cd_y1, rfl, hg_y1⟩, hy1⟩
  have B_y1 := ex_trans hB7 hy1
  go_wp2_with fail
  refine (History_any _ _ h y1 (by omega) ((hh.below B_y1).up B_y1.size)).mono ?_
  rintro e y2 ⟨⟨Ah_y2, ch_y2, rfl, _, _, hh_y2⟩, hy2⟩
  have B_y2 := ex_trans B_y1 hy2
  have I_y2 := ex_trans I7 (ex_trans hy1 hy2)
  go_wp2_with fail
  refine (Ices_any _ _ l y2 (by omega) ((hi.below I_y2).up I_y2.size)).mono ?_
  rintro e y3 ⟨⟨Ai_y3, ci_y3, rfl, hc1_y3, hc2_y3, hi_y3⟩, hy3⟩
  have B_y3 := ex_trans B_y2 hy3
  have I_y3 := ex_trans I_y2 hy3
  go_wp2_with fail
  refine (Zeros_ok g _ _ _ _ _ _ _ _ h l _ ((hg_y1.below (ex_trans hy2 hy3)).up (ex_trans hy2 hy3).size) ((hh_y2.below hy3).up hy3.size) hi_y3 HIC.out).mono ?_
  rintro e y4 ⟨⟨hno, rfl⟩ | ⟨_, Az, zs, rfl, hz, hsz⟩, hy4⟩
  · exact absurd (HA.out.can HK.out HT.out off0) hno
  have B_y := ex_trans B_y3 hy4
  have I_y := ex_trans I_y3 hy4
  have X_y := ex_trans (ex_trans (ex_trans hy1 hy2) hy3) hy4
  have HZ := Lib.hid hz
  clear hz hg_y1 hh_y2 hi_y3
  replace p1 := p1.below X_y l1
  replace p2 := p2.below X_y p2.lt
  clear a0 a1 a2 a3 a4 l1
  have a0 : y4.cell? ⟨w.heap.size, 0, none⟩ = some (.int .i64 g.base) := p1.cell 0
  have a1 : y4.cell? ⟨w.heap.size, 1, none⟩ = some (.slice Ab g.bands.length cb) := p1.cell 1
  have a2 : y4.cell? ⟨w.heap.size, 2, none⟩ = some (.slice Ad g.depths.length cd) := p1.cell 2
  have a3 : y4.cell? ⟨w.heap.size, 3, none⟩ = some (.int .i64 g.blo) := p1.cell 3
  have a4 : y4.cell? ⟨w.heap.size, 4, none⟩ = some (.int .i64 g.bhi) := p1.cell 4
  have l1 := p1.lt
  go_wp2_with fail
  refine (Glass_any g _ _ _ _ y4 ((hg.below B_y).up B_y.size) (by omega) (by omega)).mono ?_
  rintro e z1 ⟨⟨Ab_z1, Ad_z1, cb_z1, cd_z1, rfl, hg_z1⟩, hz1⟩
  have B_z1 := ex_trans B_y hz1
  go_wp2_with fail
  refine (History_any _ _ h z1 (by omega) ((hh.below B_z1).up B_z1.size)).mono ?_
  rintro e z2 ⟨⟨Ah_z2, ch_z2, rfl, _, _, hh_z2⟩, hz2⟩
  have B_z2 := ex_trans B_z1 hz2
  have I_z2 := ex_trans I_y (ex_trans hz1 hz2)
  go_wp2_with fail
  refine (Ices_any _ _ l z2 (by omega) ((hi.below I_z2).up I_z2.size)).mono ?_
  rintro e z3 ⟨⟨Ai_z3, ci_z3, rfl, hc1_z3, hc2_z3, hi_z3⟩, hz3⟩
  have B_z3 := ex_trans B_z2 hz3
  have I_z3 := ex_trans I_z2 hz3
  go_wp2_with fail
  refine (Shows_good g _ _ _ _ _ _ _ _ h l _ ((hg_z1.below (ex_trans hz2 hz3)).up (ex_trans hz2 hz3).size) ((hh_z2.below hz3).up hz3.size) hi_z3 hc1_z3 hc2_z3 HIC.out).mono ?_
  rintro e z4 ⟨he, hz4⟩
  obtain rfl := HA.out.shows HK.out HT.out he
  clear he
  have B_z := ex_trans B_z3 hz4
  have I_z := ex_trans I_z3 hz4
  have X_z := ex_trans (ex_trans (ex_trans hz1 hz2) hz3) hz4
  clear hg_z1 hh_z2 hi_z3
  replace p1 := p1.below X_z l1
  replace p2 := p2.below X_z p2.lt
  clear a0 a1 a2 a3 a4 l1
  have a0 : z4.cell? ⟨w.heap.size, 0, none⟩ = some (.int .i64 g.base) := p1.cell 0
  have a1 : z4.cell? ⟨w.heap.size, 1, none⟩ = some (.slice Ab g.bands.length cb) := p1.cell 1
  have a2 : z4.cell? ⟨w.heap.size, 2, none⟩ = some (.slice Ad g.depths.length cd) := p1.cell 2
  have a3 : z4.cell? ⟨w.heap.size, 3, none⟩ = some (.int .i64 g.blo) := p1.cell 3
  have a4 : z4.cell? ⟨w.heap.size, 4, none⟩ = some (.int .i64 g.bhi) := p1.cell 4
  have l1 := p1.lt
  go_wp2_with fail
  refine (Glass_any g _ _ _ _ z4 ((hg.below B_z).up B_z.size) (by omega) (by omega)).mono ?_
  rintro e u1 ⟨⟨Ab_u1, Ad_u1, cb_u1, cd_u1, rfl, hg_u1⟩, hu1⟩
  have B_u1 := ex_trans B_z hu1
  go_wp2_with fail
  refine (History_any _ _ h u1 (by omega) ((hh.below B_u1).up B_u1.size)).mono ?_
  rintro e u2 ⟨⟨Ah_u2, ch_u2, rfl, _, _, hh_u2⟩, hu2⟩
  have B_u2 := ex_trans B_u1 hu2
  have I_u2 := ex_trans I_z (ex_trans hu1 hu2)
  go_wp2_with fail
  refine (Ices_any _ _ l u2 (by omega) ((hi.below I_u2).up I_u2.size)).mono ?_
  rintro e u3 ⟨⟨Ai_u3, ci_u3, rfl, hc1_u3, hc2_u3, hi_u3⟩, hu3⟩
  have B_u3 := ex_trans B_u2 hu3
  have I_u3 := ex_trans I_u2 hu3
  go_wp2_with fail
  refine (Fewest_good g _ _ _ _ _ _ _ _ h l _ ((hg_u1.below (ex_trans hu2 hu3)).up (ex_trans hu2 hu3).size) ((hh_u2.below hu3).up hu3.size) hi_u3 HIC.out).mono ?_
  rintro e u4 ⟨⟨vf, rf, rfl, hf, hof⟩, hu4⟩
  obtain rfl := few_none (HA.out.agree HK.out HT.out off0) hf
  obtain ⟨Af, cf, hvf, _, _⟩ := own_sl hof
  subst hvf
  clear hf hof
  have B_u := ex_trans B_u3 hu4
  have I_u := ex_trans I_u3 hu4
  have X_u := ex_trans (ex_trans (ex_trans hu1 hu2) hu3) hu4
  clear hg_u1 hh_u2 hi_u3
  replace p1 := p1.below X_u l1
  replace p2 := p2.below X_u p2.lt
  clear a0 a1 a2 a3 a4 l1
  have K8 := ex_trans (ex_trans (ex_trans K7 X_y) X_z) X_u
  have a0 : u4.cell? ⟨w.heap.size, 0, none⟩ = some (.int .i64 g.base) := p1.cell 0
  have a1 : u4.cell? ⟨w.heap.size, 1, none⟩ = some (.slice Ab g.bands.length cb) := p1.cell 1
  have a2 : u4.cell? ⟨w.heap.size, 2, none⟩ = some (.slice Ad g.depths.length cd) := p1.cell 2
  have a3 : u4.cell? ⟨w.heap.size, 3, none⟩ = some (.int .i64 g.blo) := p1.cell 3
  have a4 : u4.cell? ⟨w.heap.size, 4, none⟩ = some (.int .i64 g.bhi) := p1.cell 4
  have l1 := p1.lt
  have d0 : u4.cell? ⟨w3.heap.size, 0, none⟩ = some (.slice A1 t1.length c1) := p2.cell 0
  have d1 : u4.cell? ⟨w3.heap.size, 1, none⟩ = some (.slice A2 t2.length c2) := p2.cell 1
  have d2 : u4.cell? ⟨w3.heap.size, 2, none⟩ = some (.slice A3 t3.length c3) := p2.cell 2
  have l2 := p2.lt
  go_wp2_with fail
  refine wp_region_ext_mix 44 [(false, 0), (false, 1), (false, 2), (false, 3), (false, 4), (false, 5), (false, 6), (false, 7), (false, 8), (false, 9), (false, 10), (false, 11), (false, 12), (false, 13), (false, 14), (false, 15), (false, 16), (false, 17), (false, 18), (false, 19), (false, 20), (false, 21), (false, 22), (false, 23), (false, 24), (false, 25), (false, 26), (false, 27), (false, 28), (false, 29), (false, 30), (false, 31), (false, 32), (false, 33), (false, 34), (false, 36), (false, 38), (false, 40), (true, 35), (true, 37), (true, 39), (true, 41), (true, 42), (false, 43)] (by kernel_rfl) (by kernel_rfl) (by intro d _ _ _ _ h; cases d <;> exact h) ?_
  have hY0 := (Below.refl u4.heap.size u4).drew
  repeat (refine mix_quiet rfl ?_; go_big_quiet_step (fail); refine wpQuiet_nil ?_)
  refine mix_loud rfl ?_
  go_wp2_with fail
  refine (Glass_any g _ _ _ _ u4.drew ((hg.below (ex_trans B_u hY0)).up (ex_trans B_u hY0).size) (by omega) (by omega)).mono ?_
  rintro e r1 ⟨⟨Ab_r1, Ad_r1, cb_r1, cd_r1, rfl, hg_r1⟩, hr1⟩
  have hY1 := ex_trans hY0 hr1
  go_wp2_with fail
  refine ⟨inEx hY1, ?_⟩
  refine mix_loud rfl ?_
  go_wp2_with fail
  refine (History_any _ _ h r1 (by omega) ((hh.below (ex_trans B_u hY1)).up (ex_trans B_u hY1).size)).mono ?_
  rintro e r2 ⟨⟨Ah_r2, ch_r2, rfl, _, _, hh_r2⟩, hr2⟩
  have hY2 := ex_trans hY1 hr2
  go_wp2_with fail
  refine ⟨inEx hY2, ?_⟩
  refine mix_loud rfl ?_
  go_wp2_with fail
  refine (Ices_any _ _ l r2 (by omega) ((hi.below (ex_trans I_u hY2)).up (ex_trans I_u hY2).size)).mono ?_
  rintro e r3 ⟨⟨Ai_r3, ci_r3, rfl, hc1_r3, hc2_r3, hi_r3⟩, hr3⟩
  have hY3 := ex_trans hY2 hr3
  go_wp2_with fail
  refine ⟨inEx hY3, ?_⟩
  refine mix_loud rfl ?_
  go_wp2_with fail
  refine (Truth_any r3 _ _ _ _ _ _ t1 t2 t3 ((k1.below (ex_trans K8 hY3)).up (ex_trans K8 hY3).size) ((k2.below (ex_trans K8 hY3)).up (ex_trans K8 hY3).size) ((k3.below (ex_trans K8 hY3)).up (ex_trans K8 hY3).size) (by omega) (by omega) (by omega)).mono ?_
  rintro e r4 ⟨⟨B1_r4, B2_r4, B3_r4, m1_r4, m2_r4, m3_r4, rfl, s1_r4, s2_r4, s3_r4⟩, hr4⟩
  have hY4 := ex_trans hY3 hr4
  go_wp2_with fail
  refine ⟨inEx hY4, ?_⟩
  refine mix_loud rfl ?_
  go_wp2_with fail
  refine (Prove_any g _ _ _ _ _ _ _ _ h l _ ((hg_r1.below (ex_trans hr2 (ex_trans hr3 hr4))).up (ex_trans hr2 (ex_trans hr3 hr4)).size) ((hh_r2.below (ex_trans hr3 hr4)).up (ex_trans hr3 hr4).size) ((hi_r3.below hr4).up hr4.size) _ _ _ _ _ _ t1 t2 t3 s1_r4 s2_r4 s3_r4).mono ?_
  rintro e r5 ⟨rfl, hr5⟩
  rw [HA.out.prove HK.out HT.out HIC.out]
  have hY5 := ex_trans hY4 hr5
  go_wp2_with fail
  refine ⟨inEx hY5, ?_⟩
  repeat (refine mix_quiet rfl ?_; go_big_quiet_step (fail); refine wpQuiet_nil ?_)
  refine mix_nil rfl ?_
  have B9 := ex_trans B_u hY5
  have Z9 := ex_trans (ex_trans X_z X_u) hY5
  have V9 := ex_trans X_y Z9
  have HSV := Lib.hid (hsv.below V9)
  have HSZ := Lib.hid (hsz.below Z9)
  have HW := Lib.hid (fun d (hd : d < h.length) => HA.out.within HK.out HT.out HZ.out hd)
  have hs4 := V9.size
  have hs5 := Z9.size
  generalize playTo g t1 t2 t3 h.length = pl at *
  clear hsv hsz p1 p2 a0 a1 a2 a3 a4 l1 d0 d1 d2 l2 hg_r1 hh_r2 hi_r3 s1_r4 s2_r4 s3_r4
  go_wp2_with fail
  go_loopw [19] (fun i wr => ∃ k : Nat, k ≤ h.length ∧ i = .int .i64 k ∧ Below r5.heap.size r5 wr) (fun i _ => h.length - (intOf i).toNat)
  case atStart => exact ⟨0, by omega, rfl, Below.refl _ _⟩
  case round =>
    obtain ⟨k, hk, rfl, hbl⟩ := hrel
    by_cases hlt : k < h.length
    · obtain ⟨bz, oz, rfl, hbz, g0, g1⟩ := IsRgs.at_ ((HSZ.out.up Z9.size).below hbl) hlt
      obtain ⟨bv, ov, rfl, hbv, g2⟩ := IsInts.at_ ((HSV.out.up V9.size).below hbl) hlt
      obtain ⟨e1, e2⟩ := HW.out k hlt
      have hws := hbl.size
      have hbz' : bz < wr.heap.size := by omega
      have hbv' : bv < wr.heap.size := by omega
      generalize gI pl k = zk at *
      generalize (gR zs k).lo = zlo at *
      generalize (gR zs k).hi = zhi at *
      have e3 : decide (zk < zlo) = false := decide_eq_false (by omega)
      have e4 : decide (zhi < zk) = false := decide_eq_false (by omega)
      go_wp2_with fail
      refine wp_region_ext (by kernel_rfl) (by kernel_rfl) ?_
      repeat (any_goals (go_big_quiet_step (fail)))
      refine wpQuiet_nil ?_; intro _ hw'; obtain ⟨X, rfl⟩ := hw'
      go_wp2
      go_roundw
      case rel => exact ⟨k + 1, by omega, by go_num, ex_trans hbl X.h⟩
      case measure => simp [intOf]; omega
    · go_wp2_with fail
      refine (awake_any _).mono ?_
      rintro e we ⟨rfl, hbe⟩
      go_wp2
      go_ret
      exact ⟨rfl, ex_trans (ex_trans B9 hbl) hbe⟩

end Go.Proofs.Ytlgmeofpkfliaaa
end

section
namespace Go.Proofs.Ytlgmeofpkfliaaa.glassTruth
open Go.ChangeShapes Go.WideShapes Go.ChangeAt Go.RowKit
set_option linter.unusedVariables false

set_option maxRecDepth 100000 in
theorem lifted (os : Os) (started : os.Started) (H : Type) (enc : TypeId × Value → H) :
    ReturnsInHanded {} Try.checked os 15 .any (Rows.glassTruthSpec.pre6 enc Try.prog Try.f15 Rows.glassTruthRow.domain false) (Rows.glassTruthSpec.post enc Try.prog Try.f15 false true false false) := by
  refine returnsInHanded_of_change (C := Try.checked) own started (by kernel_rfl) Try.func15
    (ChangeSpec.witness6 (enc := enc) (C := Try.checked) false ⟨#[], #[.agg #[.int .i64 0, .slice none 0 0, .slice none 0 0, .int .i64 0, .int .i64 0], .slice none 0 0, .slice none 0 0, .int .u8 0], []⟩ 8 (by kernel_rfl) (by kernel_rfl) (by kernel_rfl) (by kernel_rfl)) ?_
  intro W base args ds gs before hval0 hW hcnd _
  have hval : ∀ (j : Nat) t v, Try.f15.params[j]? = some t → args[j]? = some v → Value.okWide Try.prog W .any base t v := hval0
  have hW0 := hW
  obtain ⟨p, q, hA0, hV, rfl, hfz, hnd⟩ := hW
  have hA : DataW.TrodAll enc Try.prog W 0 (fun _ => true) true Try.f15.params.toList args.toList ds p := hA0
  rw [Try.params15] at hA hval
  obtain ⟨v0, vs0, d0, ds0, p0, q0, ea0, ed0, ep0, h0, hA0⟩ := trodAll_cons hA
  obtain ⟨v1, vs1, d1, ds1, p1, q1, ea1, ed1, ep1, h1, hA1⟩ := trodAll_cons hA0
  obtain ⟨v2, vs2, d2, ds2, p2, q2, ea2, ed2, ep2, h2, hA2⟩ := trodAll_cons hA1
  obtain ⟨v3, vs3, d3, ds3, p3, q3, ea3, ed3, ep3, h3, hA3⟩ := trodAll_cons hA2
  obtain ⟨ea, ed, ep⟩ := trodAll_nil hA3
  have eargs : args = #[v0, v1, v2, v3] := by rw [← Array.toArray_toList (xs := args), ea0, ea1, ea2, ea3, ea]
  have eds : ds = [d0, d1, d2, d3] := by rw [ed0, ed1, ed2, ed3, ed]
  subst eargs eds
  obtain ⟨rfl, rfl⟩ := trodVars_none hV
  obtain ⟨g, Ab, Ad, cb, cd, rfl, _, hg⟩ := open_glass (hval 0 _ _ rfl rfl) h0
  obtain ⟨Ah, h, ch, rfl, _, _, hh⟩ := open_rgs (hval 1 _ _ rfl rfl) h1
  obtain ⟨Aw, ws, cw, rfl, hwl, hw, hwb⟩ := open_words (hval 2 _ _ rfl rfl) h2
  obtain ⟨m3, rfl, hm3⟩ := open_int Try.underlying5 (hval 3 _ _ rfl rfl) h3
  refine (TruthLaw_any g Ab Ad Ah Aw cb cd ch cw h ws W hg hh hw hwb hwl m3 (wf_u8 hm3).1 (wf_u8 hm3).2).mono fun e W' he => ?_
  obtain ⟨rfl, hb⟩ := he
  exact ⟨_, rfl, post_law rfl hW0 rfl rfl ⟨⟨by kernel_rfl, of_decide_eq_true (by kernel_rfl)⟩, ⟨by kernel_rfl, of_decide_eq_true (by kernel_rfl)⟩, ⟨by kernel_rfl, of_decide_eq_true (by kernel_rfl)⟩, ⟨by kernel_rfl, of_decide_eq_true (by kernel_rfl)⟩, trivial⟩ hb⟩

theorem over : Rows.glassTruthRow.holds Try.pinned (OpenSpec.ofChange Rows.glassTruthSpec) :=
  OpenClaim.holds_of_wide 15 Try.f15 rfl rfl rfl rfl rfl rfl rfl ⟨rfl, rfl, rfl, rfl, rfl⟩ rfl rfl rfl rfl rfl (by kernel_rfl) Try.func15 (by kernel_rfl)
    (of_decide_eq_true (by kernel_rfl)) (by unfold Func.isWrapper; first | (rw [if_pos (by decide +kernel)]; kernel_rfl) | (rw [if_neg (by decide +kernel)]; exact ⟨rfl, rfl⟩))
    (fun os started H enc _ => lifted os started H enc)

/-- the statement. -/
theorem proved : Rows.GlassTruthSaid :=
  over
#print axioms proved
end Go.Proofs.Ytlgmeofpkfliaaa.glassTruth
end
