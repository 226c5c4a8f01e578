/- The law GlassShows (walk). · The row GlassShows: the first of any ices that shows that one was false, is as the document says, or the error is. -/
import Derived.WalkKit
import Derived.ProofKit
import Derived.OpenShut
import Derived.Test.YtlgmeofpkfliaaaGl
import Derived.Test.YtlgmeofpkfliaaaGj
import Derived.Test.YtlgmeofpkfliaaaGf
import Derived.Test.YtlgmeofpkfliaaaRows
import Derived.Test.YtlgmeofpkfliaaaGi
set_option linter.unusedVariables false
set_option linter.unusedSimpArgs false
set_option linter.unusedSectionVars false
section
namespace Go.Proofs.Ytlgmeofpkfliaaa
open Go.RowKit
attribute [local go_sem] Ex.cell? Ex.frozen? Gx.cell?

theorem hasNil : (fun j : Nat => hasB [] (j : Int)) = off0 := rfl
theorem AgreeR_take (g : Gl) (Ab Ad Ah Ai : Option Addr) (cb cd ch ci : Nat) (h : List Rg) (l : List Ic) (w : World) (hg : GlIn w w.heap.size g Ab Ad) (hh : SlAt w w.heap.size 2 Ah h.length (fR h)) (hi : SlAt w w.heap.size 3 Ai l.length (fC l)) (k : Nat) (hk : k ≤ l.length) (hok : Ok g h) (h8 : l.length ≤ 8) (hbd : IcesBd l) :
    Calls Try.prog 24 #[.agg #[.int .i64 g.base, .slice Ab g.bands.length cb, .slice Ad g.depths.length cd, .int .i64 g.blo, .int .i64 g.bhi], .slice Ah h.length ch, .slice Ai k ci, .slice none 0 0] w fun e w' => e = .returned (.bool (agreeB g h (l.take k) off0)) ∧ Below w.heap.size w w' := by
  have hl : (l.take k).length = k := by rw [List.length_take]; omega
  have := AgreeR_any g Ab Ad Ah Ai none cb cd ch ci 0 h (l.take k) [] w hg hh (hi.take hk) (fun h => absurd h (by simp)) hok (bd_take hbd) (by rw [hl]; omega) (by simp)
  rwa [hl] at this

set_option maxRecDepth 100000 in
set_option maxHeartbeats 6400000 in
theorem Shows_far (g : Gl) (Ab Ad Ah Ai : Option Addr) (cb cd ch ci : Nat) (h : List Rg) (l : List Ic) (w : World) (hg : GlIn w w.heap.size g Ab Ad) (hh : SlAt w w.heap.size 2 Ah h.length (fR h)) (hi : SlAt w w.heap.size 3 Ai l.length (fC l)) (hth : thinB g.bands.length g.depths.length h.length l.length = false) :
    Calls Try.prog 3 #[.agg #[.int .i64 g.base, .slice Ab g.bands.length cb, .slice Ad g.depths.length cd, .int .i64 g.blo, .int .i64 g.bhi], .slice Ah h.length ch, .slice Ai l.length ci] w fun e w' => e = .returned (.bool true) ∧ Below w.heap.size w w' := by
  have hb1 := ex_alloc (Below.refl w.heap.size w) (.cells #[.int .i64 g.base, .slice Ab g.bands.length cb, .slice Ad g.depths.length cd, .int .i64 g.blo, .int .i64 g.bhi] 27)
  have q1 : Blk (w.alloc (.cells #[.int .i64 g.base, .slice Ab g.bands.length cb, .slice Ad g.depths.length cd, .int .i64 g.blo, .int .i64 g.bhi] 27)) w.heap.size 27 #[.int .i64 g.base, .slice Ab g.bands.length cb, .slice Ad g.depths.length cd, .int .i64 g.blo, .int .i64 g.bhi] := Blk.new _ _ _
  have HTH := Lib.hid hth
  clear hth
  go_enter Try.func3, Try.ntmps3
  go_wp2_with fail
  refine (Thin_any _ _ _ _ _ _ _ _ _ _ _ _ _ _ _ _).mono ?_
  rintro e w2 ⟨rfl, hb2⟩
  have hB2 := ex_trans hb1 hb2
  rw [HTH.out]
  go_wp2_with fail
  refine (awake_any _).mono ?_
  rintro e x1 ⟨rfl, hx1⟩
  go_wp2
  go_ret
  exact ⟨rfl, ex_trans hB2 hx1⟩

set_option maxRecDepth 100000 in
set_option maxHeartbeats 6400000 in
theorem ShowsLaw_bad (g : Gl) (Ab Ad Ah Ai : Option Addr) (cb cd ch ci : Nat) (h : List Rg) (l : List Ic) (w : World) (hg : GlIn w w.heap.size g Ab Ad) (hh : SlAt w w.heap.size 2 Ah h.length (fR h)) (hi : SlAt w w.heap.size 3 Ai l.length (fC l))  (hth : thinB g.bands.length g.depths.length h.length l.length = true) (hne : iced g h l ≠ 0) :
    Calls Try.prog 3 #[.agg #[.int .i64 g.base, .slice Ab g.bands.length cb, .slice Ad g.depths.length cd, .int .i64 g.blo, .int .i64 g.bhi], .slice Ah h.length ch, .slice Ai l.length ci] w fun e w' => e = .returned (.bool true) ∧ Below w.heap.size w w' := by
  have hb1 := ex_alloc (Below.refl w.heap.size w) (.cells #[.int .i64 g.base, .slice Ab g.bands.length cb, .slice Ad g.depths.length cd, .int .i64 g.blo, .int .i64 g.bhi] 27)
  have q1 : Blk (w.alloc (.cells #[.int .i64 g.base, .slice Ab g.bands.length cb, .slice Ad g.depths.length cd, .int .i64 g.blo, .int .i64 g.bhi] 27)) w.heap.size 27 #[.int .i64 g.base, .slice Ab g.bands.length cb, .slice Ad g.depths.length cd, .int .i64 g.blo, .int .i64 g.bhi] := Blk.new _ _ _
  obtain ⟨hnb, hnd, hnh, hni⟩ := thinB_iff.1 hth
  have HTH := Lib.hid hth
  clear hth
  go_enter Try.func3, Try.ntmps3
  go_wp2_with fail
  refine (Thin_any _ _ _ _ _ _ _ _ _ _ _ _ _ _ _ _).mono ?_
  rintro e w2 ⟨rfl, hb2⟩
  have hB2 := ex_trans hb1 hb2
  rw [HTH.out]
  have p1 := q1.below hb2 q1.lt
  clear q1
  have HNE := Lib.hid hne
  have n1 : (iced g h l == 0) = false := by simp [hne]
  have n2 : (iced g h l != 0) = true := by simp [hne]
  have n3 : (iced g h l == iced g h l) = true := by simp
  clear hne
  have a0 : w2.cell? ⟨w.heap.size, 0, none⟩ = some (.int .i64 g.base) := p1.cell 0
  have a1 : w2.cell? ⟨w.heap.size, 1, none⟩ = some (.slice Ab g.bands.length cb) := p1.cell 1
  have a2 : w2.cell? ⟨w.heap.size, 2, none⟩ = some (.slice Ad g.depths.length cd) := p1.cell 2
  have a3 : w2.cell? ⟨w.heap.size, 3, none⟩ = some (.int .i64 g.blo) := p1.cell 3
  have a4 : w2.cell? ⟨w.heap.size, 4, none⟩ = some (.int .i64 g.bhi) := p1.cell 4
  have l1 := p1.lt
  go_wp2_with fail
  refine (Glass_any g _ _ _ _ w2 ((hg.below hB2).up hB2.size) (by omega) (by omega)).mono ?_
  rintro e ya1 ⟨⟨Ab_ya1, Ad_ya1, cb_ya1, cd_ya1, rfl, hg_ya1⟩, hya1⟩
  have B_ya1 := ex_trans hB2 hya1
  go_wp2_with fail
  refine (History_any _ _ h ya1 (by omega) ((hh.below B_ya1).up B_ya1.size)).mono ?_
  rintro e ya2 ⟨⟨Ah_ya2, ch_ya2, rfl, _, _, hh_ya2⟩, hya2⟩
  have B_ya2 := ex_trans B_ya1 hya2
  have I_ya2 := ex_trans hB2 (ex_trans hya1 hya2)
  go_wp2_with fail
  refine (Ices_any _ _ l ya2 (by omega) ((hi.below I_ya2).up I_ya2.size)).mono ?_
  rintro e ya3 ⟨⟨Ai_ya3, ci_ya3, rfl, hc1_ya3, hc2_ya3, hi_ya3⟩, hya3⟩
  have B_ya3 := ex_trans B_ya2 hya3
  have I_ya3 := ex_trans I_ya2 hya3
  go_wp2_with fail
  refine (Shows_bad g _ _ _ _ _ _ _ _ h l _ ((hg_ya1.below (ex_trans hya2 hya3)).up (ex_trans hya2 hya3).size) ((hh_ya2.below hya3).up hya3.size) hi_ya3 HNE.out).mono ?_
  rintro e ya4 ⟨rfl, hya4⟩
  have B_ya := ex_trans B_ya3 hya4
  have I_ya := ex_trans I_ya3 hya4
  have X_ya := ex_trans (ex_trans (ex_trans hya1 hya2) hya3) hya4
  clear hg_ya1 hh_ya2 hi_ya3
  replace p1 := p1.below X_ya l1
  clear a0 a1 a2 a3 a4 l1
  have a0 : ya4.cell? ⟨w.heap.size, 0, none⟩ = some (.int .i64 g.base) := p1.cell 0
  have a1 : ya4.cell? ⟨w.heap.size, 1, none⟩ = some (.slice Ab g.bands.length cb) := p1.cell 1
  have a2 : ya4.cell? ⟨w.heap.size, 2, none⟩ = some (.slice Ad g.depths.length cd) := p1.cell 2
  have a3 : ya4.cell? ⟨w.heap.size, 3, none⟩ = some (.int .i64 g.blo) := p1.cell 3
  have a4 : ya4.cell? ⟨w.heap.size, 4, none⟩ = some (.int .i64 g.bhi) := p1.cell 4
  have l1 := p1.lt
  go_wp2_with fail
  refine (icedL_any g _ _ _ _ _ _ _ _ h l _ ((hg.below B_ya).up B_ya.size) ((hh.below B_ya).up B_ya.size) ((hi.below B_ya).up B_ya.size) (by omega)).mono ?_
  rintro e w6 ⟨rfl, hw6⟩
  have B_w6 := ex_trans B_ya hw6
  generalize iced g h l = lv at *
  go_wp2_with fail
  refine (awake_any _).mono ?_
  rintro e x1 ⟨rfl, hx1⟩
  go_wp2
  go_ret
  exact ⟨rfl, ex_trans B_w6 hx1⟩

set_option maxRecDepth 100000 in
set_option maxHeartbeats 6400000 in
theorem ShowsLaw_good (g : Gl) (Ab Ad Ah Ai : Option Addr) (cb cd ch ci : Nat) (h : List Rg) (l : List Ic) (w : World) (hg : GlIn w w.heap.size g Ab Ad) (hh : SlAt w w.heap.size 2 Ah h.length (fR h)) (hi : SlAt w w.heap.size 3 Ai l.length (fC l))  (hth : thinB g.bands.length g.depths.length h.length l.length = true) (hci : l.length ≤ ci) (heq : iced g h l = 0) :
    Calls Try.prog 3 #[.agg #[.int .i64 g.base, .slice Ab g.bands.length cb, .slice Ad g.depths.length cd, .int .i64 g.blo, .int .i64 g.bhi], .slice Ah h.length ch, .slice Ai l.length ci] w fun e w' => e = .returned (.bool true) ∧ Below w.heap.size w w' := by
  have hb1 := ex_alloc (Below.refl w.heap.size w) (.cells #[.int .i64 g.base, .slice Ab g.bands.length cb, .slice Ad g.depths.length cd, .int .i64 g.blo, .int .i64 g.bhi] 27)
  have q1 : Blk (w.alloc (.cells #[.int .i64 g.base, .slice Ab g.bands.length cb, .slice Ad g.depths.length cd, .int .i64 g.blo, .int .i64 g.bhi] 27)) w.heap.size 27 #[.int .i64 g.base, .slice Ab g.bands.length cb, .slice Ad g.depths.length cd, .int .i64 g.blo, .int .i64 g.bhi] := Blk.new _ _ _
  obtain ⟨hnb, hnd, hnh, hni⟩ := thinB_iff.1 hth
  have HTH := Lib.hid hth
  clear hth
  go_enter Try.func3, Try.ntmps3
  go_wp2_with fail
  refine (Thin_any _ _ _ _ _ _ _ _ _ _ _ _ _ _ _ _).mono ?_
  rintro e w2 ⟨rfl, hb2⟩
  have hB2 := ex_trans hb1 hb2
  rw [HTH.out]
  have p1 := q1.below hb2 q1.lt
  clear q1
  have HIC := Lib.hid heq
  have h8 := iced_len heq
  have HK := Lib.hid (ok_of_iced heq)
  have HBD := Lib.hid (iced_bd heq)
  clear heq
  have a0 : w2.cell? ⟨w.heap.size, 0, none⟩ = some (.int .i64 g.base) := p1.cell 0
  have a1 : w2.cell? ⟨w.heap.size, 1, none⟩ = some (.slice Ab g.bands.length cb) := p1.cell 1
  have a2 : w2.cell? ⟨w.heap.size, 2, none⟩ = some (.slice Ad g.depths.length cd) := p1.cell 2
  have a3 : w2.cell? ⟨w.heap.size, 3, none⟩ = some (.int .i64 g.blo) := p1.cell 3
  have a4 : w2.cell? ⟨w.heap.size, 4, none⟩ = some (.int .i64 g.bhi) := p1.cell 4
  have l1 := p1.lt
  go_wp2_with fail
  refine (Glass_any g _ _ _ _ w2 ((hg.below hB2).up hB2.size) (by omega) (by omega)).mono ?_
  rintro e ya1 ⟨⟨Ab_ya1, Ad_ya1, cb_ya1, cd_ya1, rfl, hg_ya1⟩, hya1⟩
  have B_ya1 := ex_trans hB2 hya1
  go_wp2_with fail
  refine (History_any _ _ h ya1 (by omega) ((hh.below B_ya1).up B_ya1.size)).mono ?_
  rintro e ya2 ⟨⟨Ah_ya2, ch_ya2, rfl, _, _, hh_ya2⟩, hya2⟩
  have B_ya2 := ex_trans B_ya1 hya2
  have I_ya2 := ex_trans hB2 (ex_trans hya1 hya2)
  go_wp2_with fail
  refine (Ices_any _ _ l ya2 (by omega) ((hi.below I_ya2).up I_ya2.size)).mono ?_
  rintro e ya3 ⟨⟨Ai_ya3, ci_ya3, rfl, hc1_ya3, hc2_ya3, hi_ya3⟩, hya3⟩
  have B_ya3 := ex_trans B_ya2 hya3
  have I_ya3 := ex_trans I_ya2 hya3
  go_wp2_with fail
  refine (Shows_v g _ _ _ _ _ _ _ _ h l _ ((hg_ya1.below (ex_trans hya2 hya3)).up (ex_trans hya2 hya3).size) ((hh_ya2.below hya3).up hya3.size) hi_ya3 hc1_ya3 hc2_ya3 HIC.out).mono ?_
  rintro e ya4 ⟨⟨ks1, sv1, rfl, HS1⟩, hya4⟩
  have B_ya := ex_trans B_ya3 hya4
  have I_ya := ex_trans I_ya3 hya4
  have X_ya := ex_trans (ex_trans (ex_trans hya1 hya2) hya3) hya4
  clear hg_ya1 hh_ya2 hi_ya3
  replace p1 := p1.below X_ya l1
  clear a0 a1 a2 a3 a4 l1
  have a0 : ya4.cell? ⟨w.heap.size, 0, none⟩ = some (.int .i64 g.base) := p1.cell 0
  have a1 : ya4.cell? ⟨w.heap.size, 1, none⟩ = some (.slice Ab g.bands.length cb) := p1.cell 1
  have a2 : ya4.cell? ⟨w.heap.size, 2, none⟩ = some (.slice Ad g.depths.length cd) := p1.cell 2
  have a3 : ya4.cell? ⟨w.heap.size, 3, none⟩ = some (.int .i64 g.blo) := p1.cell 3
  have a4 : ya4.cell? ⟨w.heap.size, 4, none⟩ = some (.int .i64 g.bhi) := p1.cell 4
  have l1 := p1.lt
  go_wp2_with fail
  refine (icedL_any g _ _ _ _ _ _ _ _ h l _ ((hg.below B_ya).up B_ya.size) ((hh.below B_ya).up B_ya.size) ((hi.below B_ya).up B_ya.size) (by omega)).mono ?_
  rintro e w6 ⟨rfl, hw6⟩
  have B_w6 := ex_trans B_ya hw6
  rw [HIC.out]
  replace p1 := p1.below hw6 l1
  clear a0 a1 a2 a3 a4 l1
  go_wp2_with fail
  refine wp_loop (fun a W => Rel (fun a W => ∃ k : Nat, k ≤ l.length ∧ Below w.heap.size w W ∧ Blk W w.heap.size 27 #[.int .i64 g.base, .slice Ab g.bands.length cb, .slice Ad g.depths.length cd, .int .i64 g.blo, .int .i64 g.bhi] ∧ Hid (∀ j, j < k → agreeB g h (l.take (j + 1)) off0 = true) ∧ ∃ u : Nat → Value, a = ⟨List.toArray (u 0 :: .slice Ah h.length ch :: .slice Ai l.length ci :: .pointer (some ⟨w.heap.size, 0, none⟩) :: u 4 :: u 5 :: u 6 :: .int .i64 ks1 :: .int .i64 sv1 :: .int .i64 0 :: .int .i64 (k : Int) :: u 11 :: u 12 :: u 13 :: u 14 :: u 15 :: u 16 :: u 17 :: u 18 :: u 19 :: u 20 :: u 21 :: u 22 :: u 23 :: u 24 :: u 25 :: u 26 :: u 27 :: u 28 :: u 29 :: u 30 :: u 31 :: u 32 :: u 33 :: u 34 :: u 35 :: u 36 :: u 37 :: u 38 :: u 39 :: u 40 :: u 41 :: u 42 :: u 43 :: u 44 :: u 45 :: u 46 :: u 47 :: u 48 :: u 49 :: u 50 :: u 51 :: u 52 :: u 53 :: u 54 :: u 55 :: u 56 :: u 57 :: u 58 :: u 59 :: u 60 :: u 61 :: u 62 :: []), []⟩) a W)
    (fun a _ => l.length - (intOf (a.tmps.getD 10 undef)).toNat) ⟨⟨0, by omega, B_w6, p1, Lib.hid (fun j hj => by omega), exFrame (by kernel_rfl)⟩⟩ ?_
  clear p1
  rintro a wr ⟨⟨k, hk, hbl, p1, HAG, u, rfl⟩⟩
  by_cases hlt : k < l.length
  · obtain ⟨bi, oi, rfl, _, _⟩ := id hi (by omega)
    have a0 : wr.cell? ⟨w.heap.size, 0, none⟩ = some (.int .i64 g.base) := p1.cell 0
    have a1 : wr.cell? ⟨w.heap.size, 1, none⟩ = some (.slice Ab g.bands.length cb) := p1.cell 1
    have a2 : wr.cell? ⟨w.heap.size, 2, none⟩ = some (.slice Ad g.depths.length cd) := p1.cell 2
    have a3 : wr.cell? ⟨w.heap.size, 3, none⟩ = some (.int .i64 g.blo) := p1.cell 3
    have a4 : wr.cell? ⟨w.heap.size, 4, none⟩ = some (.int .i64 g.bhi) := p1.cell 4
    have l1 := p1.lt
    have hkc : k + 1 ≤ ci := by omega
    have w9 : IntKind.i64.wrap ((k : Int) + 1) = (k : Int) + 1 := IntWalk.i64_in _ (by omega)
    have c1 : decide ((k : Int) < (l.length : Int)) = true := decide_eq_true (by omega)
    go_wp2_with fail
    refine wp_region_ext_mix 12 [(false, 0), (false, 1), (false, 2), (false, 3), (false, 4), (false, 5), (false, 6), (false, 7), (false, 8), (false, 9), (false, 10), (true, 11)] (by kernel_rfl) (by kernel_rfl) (by intro d _ _ _ _ h; cases d <;> exact h) ?_
    have hX0 := (Below.refl wr.heap.size wr).drew
    repeat (refine mix_quiet rfl ?_; go_big_quiet_step (fail); refine wpQuiet_nil ?_)
    refine mix_loud rfl ?_
    go_wp2_with fail
    have hBX := ex_trans hbl hX0
    refine (AgreeR_take g _ _ _ _ _ _ _ _ h l wr.drew ((hg.below hBX).up hBX.size) ((hh.below hBX).up hBX.size) ((hi.below hBX).up hBX.size) (k + 1) (by omega) HK.out h8 HBD.out).mono ?_
    rintro e wh ⟨rfl, hwh⟩
    have hBH := ex_trans hBX hwh
    replace p1 := p1.below (ex_trans hX0 hwh) l1
    clear a0 a1 a2 a3 a4 l1
    cases hA : agreeB g h (l.take (k + 1)) off0
    · have HA := Lib.hid hA
      clear hA
      have hE : ks1 = (k : Int) ∧ sv1 = 0 := by
        rcases HS1.out with ⟨j, rfl, j1, j2, j3, rfl⟩ | ⟨j1, _, _⟩
        · refine ⟨?_, rfl⟩
          rcases Nat.lt_trichotomy j k with h1 | h1 | h1
          · rw [HAG.out j h1] at j3; cases j3
          · rw [h1]
          · have := j2 k h1; rw [HA.out] at this; cases this
        · have := j1 k hlt; rw [HA.out] at this; cases this
      obtain ⟨rfl, rfl⟩ := hE
      have x1 : (k == l.length) = false := by rw [beq_eq_false_iff_ne]; omega
      have x2 : ((k : Int) == (l.length : Int)) = false := by rw [beq_eq_false_iff_ne]; omega
      go_wp2_with fail
      refine ⟨inEx (ex_trans hX0 hwh), ?_⟩
      refine mix_nil rfl ?_
      go_wp2_with fail
      go_wp2_with fail
      refine (awake_any _).mono ?_
      rintro e x1 ⟨rfl, hx1⟩
      go_wp2
      go_ret
      exact ⟨rfl, ex_trans hBH hx1⟩
    · have HAG2 := Lib.hid (show ∀ j, j < k + 1 → agreeB g h (l.take (j + 1)) off0 = true from fun j hj => by
        rcases Nat.lt_succ_iff_lt_or_eq.1 hj with h1 | h1
        · exact HAG.out j h1
        · subst h1; exact hA)
      clear hA
      go_wp2_with fail
      refine ⟨inEx (ex_trans hX0 hwh), ?_⟩
      refine mix_nil rfl ?_
      go_wp2_with fail
      refine ⟨⟨⟨k + 1, by omega, hBH, p1, HAG2, exFrame (by kernel_rfl)⟩⟩, ?_⟩
      show l.length - (intOf (.int .i64 ((k : Int) + 1))).toNat < l.length - (intOf (.int .i64 (k : Int))).toNat
      simp [intOf]
      omega
  · have hE : k = l.length := by omega
    subst hE
    have hE : ks1 = 0 ∧ sv1 = 7 := by
      rcases HS1.out with ⟨j, rfl, j1, j2, j3, rfl⟩ | ⟨_, h1, h2⟩
      · rw [HAG.out j j1] at j3; cases j3
      · exact ⟨h1, h2⟩
    obtain ⟨rfl, rfl⟩ := hE
    have a0 : wr.cell? ⟨w.heap.size, 0, none⟩ = some (.int .i64 g.base) := p1.cell 0
    have a1 : wr.cell? ⟨w.heap.size, 1, none⟩ = some (.slice Ab g.bands.length cb) := p1.cell 1
    have a2 : wr.cell? ⟨w.heap.size, 2, none⟩ = some (.slice Ad g.depths.length cd) := p1.cell 2
    have a3 : wr.cell? ⟨w.heap.size, 3, none⟩ = some (.int .i64 g.blo) := p1.cell 3
    have a4 : wr.cell? ⟨w.heap.size, 4, none⟩ = some (.int .i64 g.bhi) := p1.cell 4
    have l1 := p1.lt
    go_wp2_with fail
    refine wp_region_ext_mix 12 [(false, 0), (false, 1), (false, 2), (false, 3), (false, 4), (false, 5), (false, 6), (false, 7), (false, 8), (false, 9), (false, 10), (true, 11)] (by kernel_rfl) (by kernel_rfl) (by intro d _ _ _ _ h; cases d <;> exact h) ?_
    have hX0 := (Below.refl wr.heap.size wr).drew
    repeat (refine mix_quiet rfl ?_; go_big_quiet_step (fail); refine wpQuiet_nil ?_)
    refine mix_loud rfl ?_
    go_wp2_with fail
    refine ⟨inEx hX0, ?_⟩
    refine mix_nil rfl ?_
    have hBX := ex_trans hbl hX0
    go_wp2_with fail
    go_wp2_with fail
    refine (awake_any _).mono ?_
    rintro e x1 ⟨rfl, hx1⟩
    go_wp2
    go_ret
    exact ⟨rfl, ex_trans hBX hx1⟩

set_option maxRecDepth 100000 in
set_option maxHeartbeats 6400000 in
theorem ShowsLaw_any (g : Gl) (Ab Ad Ah Ai : Option Addr) (cb cd ch ci : Nat) (h : List Rg) (l : List Ic) (w : World) (hg : GlIn w w.heap.size g Ab Ad) (hh : SlAt w w.heap.size 2 Ah h.length (fR h)) (hi : SlAt w w.heap.size 3 Ai l.length (fC l)) (hci : l.length ≤ ci) :
    Calls Try.prog 3 #[.agg #[.int .i64 g.base, .slice Ab g.bands.length cb, .slice Ad g.depths.length cd, .int .i64 g.blo, .int .i64 g.bhi], .slice Ah h.length ch, .slice Ai l.length ci] w fun e w' => e = .returned (.bool true) ∧ Below w.heap.size w w' := by
  cases hth : thinB g.bands.length g.depths.length h.length l.length
  · exact Shows_far g Ab Ad Ah Ai cb cd ch ci h l w hg hh hi  hth
  · by_cases heq : iced g h l = 0
    · exact ShowsLaw_good g Ab Ad Ah Ai cb cd ch ci h l w hg hh hi  hth hci heq
    · exact ShowsLaw_bad g Ab Ad Ah Ai cb cd ch ci h l w hg hh hi  hth heq
end Go.Proofs.Ytlgmeofpkfliaaa
end

section
namespace Go.Proofs.Ytlgmeofpkfliaaa.glassShows
open Go.ChangeShapes Go.WideShapes Go.ChangeAt Go.RowKit
set_option linter.unusedVariables false

set_option maxRecDepth 100000 in
theorem lifted (os : Os) (started : os.Started) (H : Type) (enc : TypeId × Value → H) :
    ReturnsInHanded {} Try.checked os 3 .any (Rows.glassShowsSpec.pre6 enc Try.prog Try.f3 Rows.glassShowsRow.domain false) (Rows.glassShowsSpec.post enc Try.prog Try.f3 false true false false) := by
  refine returnsInHanded_of_change (C := Try.checked) own started (by kernel_rfl) Try.func3
    (ChangeSpec.witness6 (enc := enc) (C := Try.checked) false ⟨#[], #[.agg #[.int .i64 0, .slice none 0 0, .slice none 0 0, .int .i64 0, .int .i64 0], .slice none 0 0, .slice none 0 0], []⟩ 8 (by kernel_rfl) (by kernel_rfl) (by kernel_rfl) (by kernel_rfl)) ?_
  intro W base args ds gs before hval0 hW hcnd _
  have hval : ∀ (j : Nat) t v, Try.f3.params[j]? = some t → args[j]? = some v → Value.okWide Try.prog W .any base t v := hval0
  have hW0 := hW
  obtain ⟨p, q, hA0, hV, rfl, hfz, hnd⟩ := hW
  have hA : DataW.TrodAll enc Try.prog W 0 (fun _ => true) true Try.f3.params.toList args.toList ds p := hA0
  rw [Try.params3] at hA hval
  obtain ⟨v0, vs0, d0, ds0, p0, q0, ea0, ed0, ep0, h0, hA0⟩ := trodAll_cons hA
  obtain ⟨v1, vs1, d1, ds1, p1, q1, ea1, ed1, ep1, h1, hA1⟩ := trodAll_cons hA0
  obtain ⟨v2, vs2, d2, ds2, p2, q2, ea2, ed2, ep2, h2, hA2⟩ := trodAll_cons hA1
  obtain ⟨ea, ed, ep⟩ := trodAll_nil hA2
  have eargs : args = #[v0, v1, v2] := by rw [← Array.toArray_toList (xs := args), ea0, ea1, ea2, ea]
  have eds : ds = [d0, d1, d2] := by rw [ed0, ed1, ed2, ed]
  subst eargs eds
  obtain ⟨rfl, rfl⟩ := trodVars_none hV
  obtain ⟨g, Ab, Ad, cb, cd, rfl, _, hg⟩ := open_glass (hval 0 _ _ rfl rfl) h0
  obtain ⟨Ah, h, ch, rfl, _, _, hh⟩ := open_rgs (hval 1 _ _ rfl rfl) h1
  obtain ⟨Ai, l, ci, rfl, hci1, hci2, hi⟩ := open_ics (hval 2 _ _ rfl rfl) h2
  refine (ShowsLaw_any g Ab Ad Ah Ai cb cd ch ci h l W hg hh hi hci1).mono fun e W' he => ?_
  obtain ⟨rfl, hb⟩ := he
  exact ⟨_, rfl, post_law rfl hW0 rfl rfl ⟨⟨by kernel_rfl, of_decide_eq_true (by kernel_rfl)⟩, ⟨by kernel_rfl, of_decide_eq_true (by kernel_rfl)⟩, ⟨by kernel_rfl, of_decide_eq_true (by kernel_rfl)⟩, trivial⟩ hb⟩

theorem over : Rows.glassShowsRow.holds Try.pinned (OpenSpec.ofChange Rows.glassShowsSpec) :=
  OpenClaim.holds_of_wide 3 Try.f3 rfl rfl rfl rfl rfl rfl rfl ⟨rfl, rfl, rfl, rfl, rfl⟩ rfl rfl rfl rfl rfl (by kernel_rfl) Try.func3 (by kernel_rfl)
    (of_decide_eq_true (by kernel_rfl)) (by unfold Func.isWrapper; first | (rw [if_pos (by decide +kernel)]; kernel_rfl) | (rw [if_neg (by decide +kernel)]; exact ⟨rfl, rfl⟩))
    (fun os started H enc _ => lifted os started H enc)

/-- the statement. -/
theorem proved : Rows.GlassShowsSaid :=
  over
#print axioms proved
end Go.Proofs.Ytlgmeofpkfliaaa.glassShows
end
