/- The law GlassAlone (walk). · The row GlassAlone: without ices the ends of a day's range are reached by the truths of the ends. -/
import Derived.WalkKit
import Derived.ProofKit
import Derived.OpenShut
import Derived.Test.YtlgmeofpkfliaaaGj
import Derived.Test.YtlgmeofpkfliaaaGh
import Derived.Test.YtlgmeofpkfliaaaGEndB
import Derived.Test.YtlgmeofpkfliaaaRows
import Derived.Test.YtlgmeofpkfliaaaGi
set_option linter.unusedVariables false
set_option linter.unusedSimpArgs false
set_option linter.unusedSectionVars false
section
namespace Go.Proofs.Ytlgmeofpkfliaaa
open Go.RowKit
attribute [local go_sem] Ex.cell? Ex.frozen? Gx.cell?

theorem alone_all {g : Gl} {h : List Rg} (hok : Ok g h) {n : Nat} {ev : Int} {zs : List Rg} (h1 : ZerosV g h [] n ev zs) : ev = 0 ∧ n = h.length ∧ ∀ d, d < h.length →
    (gR zs d).lo = gI (playTo g (endT g h false).1 (endT g h false).2.1 (endT g h false).2.2 h.length) d ∧ (gR zs d).hi = gI (playTo g (endT g h true).1 (endT g h true).2.1 (endT g h true).2.2 h.length) d := by
  rcases h1 with ⟨a1, _⟩ | ⟨_, rfl, rfl, hz⟩
  · have : agreeB g h [] off0 = true := (agree_iff hok).2 ⟨_, path_st (endT_ok hok true), fun _ _ => fits_nil⟩
    rw [this] at a1; cases a1
  · exact ⟨rfl, rfl, fun d hd => ends_alone hok hz hd⟩

set_option maxRecDepth 100000 in
set_option maxHeartbeats 6400000 in
theorem AloneLaw_any (g : Gl) (Ab Ad Ah : Option Addr) (cb cd ch : Nat) (h : List Rg) (w : World) (hg : GlIn w w.heap.size g Ab Ad) (hh : SlAt w w.heap.size 2 Ah h.length (fR h)) :
    Calls Try.prog 12 #[.agg #[.int .i64 g.base, .slice Ab g.bands.length cb, .slice Ad g.depths.length cd, .int .i64 g.blo, .int .i64 g.bhi], .slice Ah h.length ch] w fun e w' => e = .returned (.bool true) ∧ Below w.heap.size w w' := by
  have hb1 := ex_alloc (Below.refl w.heap.size w) (.cells #[.int .i64 g.base, .slice Ab g.bands.length cb, .slice Ad g.depths.length cd, .int .i64 g.blo, .int .i64 g.bhi] 27)
  have q1 : Blk (w.alloc (.cells #[.int .i64 g.base, .slice Ab g.bands.length cb, .slice Ad g.depths.length cd, .int .i64 g.blo, .int .i64 g.bhi] 27)) w.heap.size 27 #[.int .i64 g.base, .slice Ab g.bands.length cb, .slice Ad g.depths.length cd, .int .i64 g.blo, .int .i64 g.bhi] := Blk.new _ _ _
  cases hr : readyB g h
  · have HR := Lib.hid hr
    clear hr
    go_enter Try.func12, Try.ntmps12
    go_wp2_with fail
    refine (ready_any g _ _ _ _ _ _ h _ ((hg.below hb1).up hb1.size) ((hh.below hb1).up hb1.size)).mono ?_
    rintro e w2 ⟨rfl, hb2⟩
    rw [HR.out]
    go_wp2_with fail
    refine (awake_any _).mono ?_
    rintro e w3 ⟨rfl, hb3⟩
    go_wp2
    go_ret
    exact ⟨rfl, ex_trans (ex_trans hb1 hb2) hb3⟩
  have HR := Lib.hid hr
  unfold readyB at hr
  simp only [Bool.and_eq_true, decide_eq_true_eq] at hr
  obtain ⟨hth, hlv⟩ := hr
  obtain ⟨hnb, hnd, hnh, _⟩ := thinB_iff.1 hth
  have hok := ok_of_lived hlv
  have hpos := hok.nh.1
  have HK := Lib.hid hok
  have HLV := Lib.hid hlv
  clear hth hlv hok
  go_enter Try.func12, Try.ntmps12
  go_wp2_with fail
  refine (ready_any g _ _ _ _ _ _ h _ ((hg.below hb1).up hb1.size) ((hh.below hb1).up hb1.size)).mono ?_
  rintro e w2 ⟨rfl, hb2⟩
  have hB2 := ex_trans hb1 hb2
  rw [HR.out]
  have p1 := q1.below hb2 q1.lt
  clear q1
  have HIN := Lib.hid (iced_of (l := []) HLV.out (show icsF h.length [] = 0 from rfl))
  have a0 : w2.cell? ⟨w.heap.size, 0, none⟩ = some (.int .i64 g.base) := p1.cell 0
  have a1 : w2.cell? ⟨w.heap.size, 1, none⟩ = some (.slice Ab g.bands.length cb) := p1.cell 1
  have a2 : w2.cell? ⟨w.heap.size, 2, none⟩ = some (.slice Ad g.depths.length cd) := p1.cell 2
  have a3 : w2.cell? ⟨w.heap.size, 3, none⟩ = some (.int .i64 g.blo) := p1.cell 3
  have a4 : w2.cell? ⟨w.heap.size, 4, none⟩ = some (.int .i64 g.bhi) := p1.cell 4
  have l1 := p1.lt
  go_wp2_with fail
  refine (Glass_any g _ _ _ _ w2 ((hg.below hB2).up hB2.size) (by omega) (by omega)).mono ?_
  rintro e y1 ⟨⟨Ab_y1, Ad_y1, cb_y1, cd_y1, rfl, hg_y1⟩, hy1⟩
  have B_y1 := ex_trans hB2 hy1
  go_wp2_with fail
  refine (History_any _ _ h y1 (by omega) ((hh.below B_y1).up B_y1.size)).mono ?_
  rintro e y2 ⟨⟨Ah_y2, ch_y2, rfl, _, _, hh_y2⟩, hy2⟩
  go_wp2_with fail
  refine (Zeros_v g Ab_y1 Ad_y1 Ah_y2 none cb_y1 cd_y1 ch_y2 0 h [] y2 ((hg_y1.below hy2).up hy2.size) hh_y2 (fun h => absurd h (by simp)) HIN.out).mono ?_
  rintro e y4 ⟨⟨Az, n, ev, zs, rfl, HZ, sz⟩, hy4⟩
  obtain ⟨rfl, rfl, hall⟩ := alone_all HK.out HZ.out
  have HALL := Lib.hid hall
  have X_y := ex_trans (ex_trans hy1 hy2) hy4
  have B_y := ex_trans hB2 X_y
  replace p1 := p1.below X_y l1
  clear a0 a1 a2 a3 a4 l1 hg_y1 hh_y2 HZ hall
  have a0 : y4.cell? ⟨w.heap.size, 0, none⟩ = some (.int .i64 g.base) := p1.cell 0
  have a1 : y4.cell? ⟨w.heap.size, 1, none⟩ = some (.slice Ab g.bands.length cb) := p1.cell 1
  have a2 : y4.cell? ⟨w.heap.size, 2, none⟩ = some (.slice Ad g.depths.length cd) := p1.cell 2
  have a3 : y4.cell? ⟨w.heap.size, 3, none⟩ = some (.int .i64 g.blo) := p1.cell 3
  have a4 : y4.cell? ⟨w.heap.size, 4, none⟩ = some (.int .i64 g.bhi) := p1.cell 4
  have l1 := p1.lt
  go_wp2_with fail
  refine wp_region_ext_mix 13 [(false, 0), (false, 2), (false, 4), (false, 5), (true, 1), (true, 3), (true, 6), (true, 7), (true, 8), (false, 9), (false, 10), (false, 11), (false, 12)] (by kernel_rfl) (by kernel_rfl) (by intro d _ _ _ _ h; cases d <;> exact h) ?_
  have hW_pa := (Below.refl y4.heap.size y4).drew
  repeat (refine mix_quiet rfl ?_; go_big_quiet_step (fail); refine wpQuiet_nil ?_)
  refine mix_loud rfl ?_
  go_wp2_with fail
  refine (Glass_any g _ _ _ _ y4.drew ((hg.below (ex_trans B_y hW_pa)).up (ex_trans B_y hW_pa).size) (by omega) (by omega)).mono ?_
  rintro e pa1 ⟨⟨Ab_pa, Ad_pa, cb_pa, cd_pa, rfl, hg_pa⟩, hpa1⟩
  have E_pa1 := ex_trans hW_pa hpa1
  go_wp2_with fail
  refine ⟨inEx E_pa1, ?_⟩
  refine mix_loud rfl ?_
  go_wp2_with fail
  refine (History_any _ _ h pa1 (by omega) ((hh.below (ex_trans B_y E_pa1)).up (ex_trans B_y E_pa1).size)).mono ?_
  rintro e pa2 ⟨⟨Ah_pa, ch_pa, rfl, _, _, hh_pa⟩, hpa2⟩
  have E_pa2 := ex_trans E_pa1 hpa2
  go_wp2_with fail
  refine ⟨inEx E_pa2, ?_⟩
  refine mix_loud rfl ?_
  go_wp2_with fail
  refine (ended_any g _ _ _ _ _ _ h false pa2 ((hg.below (ex_trans B_y E_pa2)).up (ex_trans B_y E_pa2).size) ((hh.below (ex_trans B_y E_pa2)).up (ex_trans B_y E_pa2).size) HK.out).mono ?_
  rintro e pa5 ⟨⟨A1_pa, A2_pa, A3_pa, c1_pa, c2_pa, c3_pa, t1_pa, t2_pa, t3_pa, HT_pa, rfl, k1_pa, k2_pa, k3_pa⟩, hpa5⟩
  have E_pa5 := ex_trans E_pa2 hpa5
  have TR_pa := Lib.hid (show truthB g h t1_pa t2_pa t3_pa = true by
    have := endT_ok HK.out false
    rw [← HT_pa.out] at this
    exact this)
  have TL_pa := (truthB_iff.1 TR_pa.out).1
  have q1_pa : t1_pa.length ≤ 20 := by omega
  have q2_pa : t2_pa.length ≤ 20 := by omega
  have q3_pa : t3_pa.length ≤ 20 := by omega
  clear TL_pa
  go_wp2_with fail
  refine ⟨inEx E_pa5, ?_⟩
  refine mix_loud rfl ?_
  go_wp2_with fail
  refine (Truth_any pa5 _ _ _ _ _ _ t1_pa t2_pa t3_pa k1_pa k2_pa k3_pa (by omega) (by omega) (by omega)).mono ?_
  rintro e pa3 ⟨⟨B1_pa, B2_pa, B3_pa, m1_pa, m2_pa, m3_pa, rfl, s1_pa, s2_pa, s3_pa⟩, hpa3⟩
  have E_pa3 := ex_trans E_pa5 hpa3
  go_wp2_with fail
  refine ⟨inEx E_pa3, ?_⟩
  refine mix_loud rfl ?_
  go_wp2_with fail
  refine (Play_ok g _ _ _ _ _ _ _ _ _ _ _ _ h t1_pa t2_pa t3_pa _ ((hg_pa.below (ex_trans (ex_trans hpa2 hpa5) hpa3)).up (ex_trans (ex_trans hpa2 hpa5) hpa3).size) ((hh_pa.below (ex_trans hpa5 hpa3)).up (ex_trans hpa5 hpa3).size) s1_pa s2_pa s3_pa HLV.out TR_pa.out).mono ?_
  rintro e pa4 ⟨⟨v, rfl, hv⟩, hpa4⟩
  obtain ⟨Av_pa, cv_pa, hvv, _, sv_pa⟩ := own_sl hv
  clear hv
  rw [playTo_len] at hvv sv_pa
  subst hvv
  have E_pa4 := ex_trans E_pa3 hpa4
  go_wp2_with fail
  refine ⟨inEx E_pa4, ?_⟩
  repeat (refine mix_quiet rfl ?_; go_big_quiet_step (fail); refine wpQuiet_nil ?_)
  refine mix_nil rfl ?_
  have B_pa := ex_trans B_y E_pa4
  replace p1 := p1.below E_pa4 p1.lt
  have HP_pa : Hid (playTo g (endT g h false).1 (endT g h false).2.1 (endT g h false).2.2 h.length = playTo g t1_pa t2_pa t3_pa h.length) := Lib.hid (by rw [← HT_pa.out])
  clear a0 a1 a2 a3 a4 l1 hg_pa hh_pa s1_pa s2_pa s3_pa k1_pa k2_pa k3_pa
  have a0 : pa4.cell? ⟨w.heap.size, 0, none⟩ = some (.int .i64 g.base) := p1.cell 0
  have a1 : pa4.cell? ⟨w.heap.size, 1, none⟩ = some (.slice Ab g.bands.length cb) := p1.cell 1
  have a2 : pa4.cell? ⟨w.heap.size, 2, none⟩ = some (.slice Ad g.depths.length cd) := p1.cell 2
  have a3 : pa4.cell? ⟨w.heap.size, 3, none⟩ = some (.int .i64 g.blo) := p1.cell 3
  have a4 : pa4.cell? ⟨w.heap.size, 4, none⟩ = some (.int .i64 g.bhi) := p1.cell 4
  have l1 := p1.lt
  go_wp2_with fail
  refine wp_region_ext_mix 13 [(false, 0), (false, 2), (false, 4), (false, 5), (true, 1), (true, 3), (true, 6), (true, 7), (true, 8), (false, 9), (false, 10), (false, 11), (false, 12)] (by kernel_rfl) (by kernel_rfl) (by intro d _ _ _ _ h; cases d <;> exact h) ?_
  have hW_pb := (Below.refl pa4.heap.size pa4).drew
  repeat (refine mix_quiet rfl ?_; go_big_quiet_step (fail); refine wpQuiet_nil ?_)
  refine mix_loud rfl ?_
  go_wp2_with fail
  refine (Glass_any g _ _ _ _ pa4.drew ((hg.below (ex_trans B_pa hW_pb)).up (ex_trans B_pa hW_pb).size) (by omega) (by omega)).mono ?_
  rintro e pb1 ⟨⟨Ab_pb, Ad_pb, cb_pb, cd_pb, rfl, hg_pb⟩, hpb1⟩
  have E_pb1 := ex_trans hW_pb hpb1
  go_wp2_with fail
  refine ⟨inEx E_pb1, ?_⟩
  refine mix_loud rfl ?_
  go_wp2_with fail
  refine (History_any _ _ h pb1 (by omega) ((hh.below (ex_trans B_pa E_pb1)).up (ex_trans B_pa E_pb1).size)).mono ?_
  rintro e pb2 ⟨⟨Ah_pb, ch_pb, rfl, _, _, hh_pb⟩, hpb2⟩
  have E_pb2 := ex_trans E_pb1 hpb2
  go_wp2_with fail
  refine ⟨inEx E_pb2, ?_⟩
  refine mix_loud rfl ?_
  go_wp2_with fail
  refine (ended_any g _ _ _ _ _ _ h true pb2 ((hg.below (ex_trans B_pa E_pb2)).up (ex_trans B_pa E_pb2).size) ((hh.below (ex_trans B_pa E_pb2)).up (ex_trans B_pa E_pb2).size) HK.out).mono ?_
  rintro e pb5 ⟨⟨A1_pb, A2_pb, A3_pb, c1_pb, c2_pb, c3_pb, t1_pb, t2_pb, t3_pb, HT_pb, rfl, k1_pb, k2_pb, k3_pb⟩, hpb5⟩
  have E_pb5 := ex_trans E_pb2 hpb5
  have TR_pb := Lib.hid (show truthB g h t1_pb t2_pb t3_pb = true by
    have := endT_ok HK.out true
    rw [← HT_pb.out] at this
    exact this)
  have TL_pb := (truthB_iff.1 TR_pb.out).1
  have q1_pb : t1_pb.length ≤ 20 := by omega
  have q2_pb : t2_pb.length ≤ 20 := by omega
  have q3_pb : t3_pb.length ≤ 20 := by omega
  clear TL_pb
  go_wp2_with fail
  refine ⟨inEx E_pb5, ?_⟩
  refine mix_loud rfl ?_
  go_wp2_with fail
  refine (Truth_any pb5 _ _ _ _ _ _ t1_pb t2_pb t3_pb k1_pb k2_pb k3_pb (by omega) (by omega) (by omega)).mono ?_
  rintro e pb3 ⟨⟨B1_pb, B2_pb, B3_pb, m1_pb, m2_pb, m3_pb, rfl, s1_pb, s2_pb, s3_pb⟩, hpb3⟩
  have E_pb3 := ex_trans E_pb5 hpb3
  go_wp2_with fail
  refine ⟨inEx E_pb3, ?_⟩
  refine mix_loud rfl ?_
  go_wp2_with fail
  refine (Play_ok g _ _ _ _ _ _ _ _ _ _ _ _ h t1_pb t2_pb t3_pb _ ((hg_pb.below (ex_trans (ex_trans hpb2 hpb5) hpb3)).up (ex_trans (ex_trans hpb2 hpb5) hpb3).size) ((hh_pb.below (ex_trans hpb5 hpb3)).up (ex_trans hpb5 hpb3).size) s1_pb s2_pb s3_pb HLV.out TR_pb.out).mono ?_
  rintro e pb4 ⟨⟨v, rfl, hv⟩, hpb4⟩
  obtain ⟨Av_pb, cv_pb, hvv, _, sv_pb⟩ := own_sl hv
  clear hv
  rw [playTo_len] at hvv sv_pb
  subst hvv
  have E_pb4 := ex_trans E_pb3 hpb4
  go_wp2_with fail
  refine ⟨inEx E_pb4, ?_⟩
  repeat (refine mix_quiet rfl ?_; go_big_quiet_step (fail); refine wpQuiet_nil ?_)
  refine mix_nil rfl ?_
  have B_pb := ex_trans B_pa E_pb4
  replace p1 := p1.below E_pb4 p1.lt
  have HP_pb : Hid (playTo g (endT g h true).1 (endT g h true).2.1 (endT g h true).2.2 h.length = playTo g t1_pb t2_pb t3_pb h.length) := Lib.hid (by rw [← HT_pb.out])
  clear a0 a1 a2 a3 a4 l1 hg_pb hh_pb s1_pb s2_pb s3_pb k1_pb k2_pb k3_pb
  have S1 : SlAt pb4 pb4.heap.size 2 Az h.length (fR zs) := (sz.below (ex_trans E_pa4 E_pb4)).up (ex_trans E_pa4 E_pb4).size
  have S2 : SlAt pb4 pb4.heap.size 1 Av_pa h.length (fI (playTo g t1_pa t2_pa t3_pa h.length)) := (sv_pa.below E_pb4).up E_pb4.size
  have S3 : SlAt pb4 pb4.heap.size 1 Av_pb h.length (fI (playTo g t1_pb t2_pb t3_pb h.length)) := sv_pb
  clear sz sv_pa sv_pb
  go_wp2_with fail
  refine wp_loop (fun a W => ∃ d : Nat, d ≤ h.length ∧ Below pb4.heap.size pb4 W ∧ ∃ u : Nat → Value, a = ⟨List.toArray (u 0 :: u 1 :: u 2 :: u 3 :: u 4 :: .slice Az h.length h.length :: u 6 :: .slice Av_pa h.length cv_pa :: u 8 :: .slice Av_pb h.length cv_pb :: u 10 :: .int .i64 (d : Int) :: u 12 :: u 13 :: u 14 :: u 15 :: u 16 :: u 17 :: u 18 :: u 19 :: u 20 :: u 21 :: u 22 :: u 23 :: u 24 :: u 25 :: u 26 :: u 27 :: u 28 :: u 29 :: u 30 :: u 31 :: u 32 :: u 33 :: u 34 :: u 35 :: u 36 :: u 37 :: u 38 :: u 39 :: u 40 :: u 41 :: u 42 :: u 43 :: u 44 :: u 45 :: u 46 :: u 47 :: u 48 :: u 49 :: u 50 :: u 51 :: u 52 :: u 53 :: u 54 :: u 55 :: u 56 :: u 57 :: u 58 :: u 59 :: u 60 :: u 61 :: u 62 :: u 63 :: u 64 :: u 65 :: u 66 :: u 67 :: u 68 :: u 69 :: u 70 :: u 71 :: u 72 :: u 73 :: u 74 :: u 75 :: u 76 :: u 77 :: u 78 :: u 79 :: u 80 :: u 81 :: u 82 :: u 83 :: u 84 :: u 85 :: u 86 :: u 87 :: u 88 :: u 89 :: u 90 :: u 91 :: u 92 :: u 93 :: u 94 :: u 95 :: u 96 :: u 97 :: u 98 :: u 99 :: u 100 :: u 101 :: []), []⟩)
    (fun a _ => h.length - (intOf (a.tmps.getD 11 undef)).toNat) ⟨0, by omega, Below.refl _ _, exFrame (by kernel_rfl)⟩ ?_
  rintro a wz ⟨d, hd, hbl, u, rfl⟩
  by_cases hlt : d < h.length
  · obtain ⟨b1, o1, rfl, hb1, g0, g1⟩ := IsRgs.at_ (S1.below hbl) hlt
    obtain ⟨b2, o2, rfl, hb2, g2⟩ := IsInts.at_ (S2.below hbl) hlt
    obtain ⟨b3, o3, rfl, hb3, g3⟩ := IsInts.at_ (S3.below hbl) hlt
    obtain ⟨r1, r2⟩ := HALL.out d hlt
    rw [HP_pa.out] at r1
    rw [HP_pb.out] at r2
    have hws := hbl.size
    have hb1' : b1 < wz.heap.size := by omega
    have hb2' : b2 < wz.heap.size := by omega
    have hb3' : b3 < wz.heap.size := by omega
    rw [← r1] at g2
    rw [← r2] at g3
    clear r1 r2
    generalize (gR zs d).lo = z1 at *
    generalize (gR zs d).hi = z2 at *
    go_wp2_with fail
    refine wp_region_ext (by kernel_rfl) (by kernel_rfl) ?_
    repeat (any_goals (go_big_quiet_step (fail)))
    refine wpQuiet_nil ?_; intro _ hw'; obtain ⟨X', rfl⟩ := hw'
    go_wp2_with fail
    refine ⟨⟨d + 1, by omega, ex_trans hbl X'.h, exFrame (by kernel_rfl)⟩, ?_⟩
    show h.length - (intOf (.int .i64 ((d : Int) + 1))).toNat < h.length - (intOf (.int .i64 (d : Int))).toNat
    simp [intOf]
    omega
  go_wp2_with fail
  refine (awake_any _).mono ?_
  rintro e we ⟨rfl, hbe⟩
  go_wp2
  go_ret
  exact ⟨rfl, ex_trans (ex_trans B_pb hbl) hbe⟩
end Go.Proofs.Ytlgmeofpkfliaaa
end

section
namespace Go.Proofs.Ytlgmeofpkfliaaa.glassAlone
open Go.ChangeShapes Go.WideShapes Go.ChangeAt Go.RowKit
set_option linter.unusedVariables false

set_option maxRecDepth 100000 in
theorem lifted (os : Os) (started : os.Started) (H : Type) (enc : TypeId × Value → H) :
    ReturnsInHanded {} Try.checked os 12 .any (Rows.glassAloneSpec.pre6 enc Try.prog Try.f12 Rows.glassAloneRow.domain false) (Rows.glassAloneSpec.post enc Try.prog Try.f12 false true false false) := by
  refine returnsInHanded_of_change (C := Try.checked) own started (by kernel_rfl) Try.func12
    (ChangeSpec.witness6 (enc := enc) (C := Try.checked) false ⟨#[], #[.agg #[.int .i64 0, .slice none 0 0, .slice none 0 0, .int .i64 0, .int .i64 0], .slice none 0 0], []⟩ 8 (by kernel_rfl) (by kernel_rfl) (by kernel_rfl) (by kernel_rfl)) ?_
  intro W base args ds gs before hval0 hW hcnd _
  have hval : ∀ (j : Nat) t v, Try.f12.params[j]? = some t → args[j]? = some v → Value.okWide Try.prog W .any base t v := hval0
  have hW0 := hW
  obtain ⟨p, q, hA0, hV, rfl, hfz, hnd⟩ := hW
  have hA : DataW.TrodAll enc Try.prog W 0 (fun _ => true) true Try.f12.params.toList args.toList ds p := hA0
  rw [Try.params12] at hA hval
  obtain ⟨v0, vs0, d0, ds0, p0, q0, ea0, ed0, ep0, h0, hA0⟩ := trodAll_cons hA
  obtain ⟨v1, vs1, d1, ds1, p1, q1, ea1, ed1, ep1, h1, hA1⟩ := trodAll_cons hA0
  obtain ⟨ea, ed, ep⟩ := trodAll_nil hA1
  have eargs : args = #[v0, v1] := by rw [← Array.toArray_toList (xs := args), ea0, ea1, ea]
  have eds : ds = [d0, d1] := by rw [ed0, ed1, ed]
  subst eargs eds
  obtain ⟨rfl, rfl⟩ := trodVars_none hV
  obtain ⟨g, Ab, Ad, cb, cd, rfl, _, hg⟩ := open_glass (hval 0 _ _ rfl rfl) h0
  obtain ⟨Ah, h, ch, rfl, _, _, hh⟩ := open_rgs (hval 1 _ _ rfl rfl) h1
  refine (AloneLaw_any g Ab Ad Ah cb cd ch h W hg hh).mono fun e W' he => ?_
  obtain ⟨rfl, hb⟩ := he
  exact ⟨_, rfl, post_law rfl hW0 rfl rfl ⟨⟨by kernel_rfl, of_decide_eq_true (by kernel_rfl)⟩, ⟨by kernel_rfl, of_decide_eq_true (by kernel_rfl)⟩, trivial⟩ hb⟩

theorem over : Rows.glassAloneRow.holds Try.pinned (OpenSpec.ofChange Rows.glassAloneSpec) :=
  OpenClaim.holds_of_wide 12 Try.f12 rfl rfl rfl rfl rfl rfl rfl ⟨rfl, rfl, rfl, rfl, rfl⟩ rfl rfl rfl rfl rfl (by kernel_rfl) Try.func12 (by kernel_rfl)
    (of_decide_eq_true (by kernel_rfl)) (by unfold Func.isWrapper; first | (rw [if_pos (by decide +kernel)]; kernel_rfl) | (rw [if_neg (by decide +kernel)]; exact ⟨rfl, rfl⟩))
    (fun os started H enc _ => lifted os started H enc)

/-- the statement. -/
theorem proved : Rows.GlassAloneSaid :=
  over
#print axioms proved
end Go.Proofs.Ytlgmeofpkfliaaa.glassAlone
end
