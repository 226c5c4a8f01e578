/- The law GlassMore (walk). · The row GlassMore: with an ice more, or a lesser error, no range is wider. -/
import Derived.WalkKit
import Derived.ProofKit
import Derived.OpenShut
import Derived.Test.YtlgmeofpkfliaaaGj
import Derived.Test.YtlgmeofpkfliaaaGk
import Derived.Test.YtlgmeofpkfliaaaRows
import Derived.Test.YtlgmeofpkfliaaaGi
set_option linter.unusedVariables false
set_option linter.unusedSimpArgs false
set_option linter.unusedSectionVars false
section
namespace Go.Proofs.Ytlgmeofpkfliaaa
open Go.RowKit
attribute [local go_sem] Ex.cell? Ex.frozen? Gx.cell?

theorem finer_app {l : List Ic} {c : Ic} : Finer l (l ++ [c]) := ⟨by simp, fun j hj => by rw [gC_app hj]; exact ⟨rfl, rfl, Int.le_refl _⟩⟩
theorem finer_set {l : List Ic} {c : Ic} {k : Nat} {e : Int} (hk : k < l.length) (he : e ≤ (gC l k).err) : Finer l (l.set k ⟨(gC l k).day, (gC l k).zero, e⟩ ++ [c]) := by
  refine ⟨by simp, fun j hj => ?_⟩
  rw [gC_app (by rw [List.length_set]; exact hj), gC_set hj]
  by_cases h : k = j
  · subst h; rw [if_pos rfl]; exact ⟨rfl, rfl, he⟩
  · rw [if_neg h]; exact ⟨rfl, rfl, Int.le_refl _⟩

set_option maxRecDepth 100000 in
set_option maxHeartbeats 6400000 in
theorem MoreLaw_any (g : Gl) (Ab Ad Ah Aw : Option Addr) (cb cd ch cw : Nat) (h : List Rg) (ws : List Int) (w : World) (hg : GlIn w w.heap.size g Ab Ad) (hh : SlAt w w.heap.size 2 Ah h.length (fR h)) (hw : SlAt w w.heap.size 1 Aw ws.length (fU ws))
    (hwb : ∀ k, k < ws.length → 0 ≤ gI ws k ∧ gI ws k ≤ 65535) (hwl : ws.length ≤ maxLen) (m3 m4 : Int) (ic : Ic) (m6 : Int) (hm3 : 0 ≤ m3 ∧ m3 ≤ 255) (hm4 : 0 ≤ m4 ∧ m4 ≤ 255) (hm6 : 0 ≤ m6 ∧ m6 ≤ 255) :
    Calls Try.prog 6 #[.agg #[.int .i64 g.base, .slice Ab g.bands.length cb, .slice Ad g.depths.length cd, .int .i64 g.blo, .int .i64 g.bhi], .slice Ah h.length ch, .slice Aw ws.length cw, .int .u8 m3, .int .u8 m4, .agg #[.int .i64 ic.day, .int .i64 ic.zero, .int .i64 ic.err], .int .u8 m6] w fun e w' => e = .returned (.bool true) ∧ Below w.heap.size w w' := by
  obtain ⟨i0, hi0, hz0', hz1', hz2'⟩ := info_parts icR_info
  have HI := Lib.hid hi0
  clear hi0
  have hb1 := ex_alloc (ex_alloc (Below.refl w.heap.size w) (.cells #[.int .i64 g.base, .slice Ab g.bands.length cb, .slice Ad g.depths.length cd, .int .i64 g.blo, .int .i64 g.bhi] 27)) (.cells #[.int .i64 ic.day, .int .i64 ic.zero, .int .i64 ic.err] 62)
  have q1 : Blk ((w.alloc (.cells #[.int .i64 g.base, .slice Ab g.bands.length cb, .slice Ad g.depths.length cd, .int .i64 g.blo, .int .i64 g.bhi] 27)).alloc (.cells #[.int .i64 ic.day, .int .i64 ic.zero, .int .i64 ic.err] 62)) w.heap.size 27 #[.int .i64 g.base, .slice Ab g.bands.length cb, .slice Ad g.depths.length cd, .int .i64 g.blo, .int .i64 g.bhi] := (Blk.new _ _ _).alloc _
  have qi : Blk ((w.alloc (.cells #[.int .i64 g.base, .slice Ab g.bands.length cb, .slice Ad g.depths.length cd, .int .i64 g.blo, .int .i64 g.bhi] 27)).alloc (.cells #[.int .i64 ic.day, .int .i64 ic.zero, .int .i64 ic.err] 62)) (w.heap.size + 1) 62 #[.int .i64 ic.day, .int .i64 ic.zero, .int .i64 ic.err] := Blk.new' _ _ _ (by simp)
  cases hr : readyB g h
  · have HR := Lib.hid hr
    clear hr
    go_enter Try.func6, Try.ntmps6
    go_wp2_with fail
    refine (ready_any g _ _ _ _ _ _ h _ ((hg.below hb1).up hb1.size) ((hh.below hb1).up hb1.size)).mono ?_
    rintro e w2 ⟨rfl, hb2⟩
    rw [HR.out]
    go_wp2_with fail
    refine (awake_any _).mono ?_
    rintro e w3 ⟨rfl, hb3⟩
    go_wp2
    go_ret
    exact ⟨rfl, ex_trans (ex_trans hb1 hb2) hb3⟩
  have HR := Lib.hid hr
  unfold readyB at hr
  simp only [Bool.and_eq_true, decide_eq_true_eq] at hr
  obtain ⟨hth, hlv⟩ := hr
  obtain ⟨hnb, hnd, hnh, _⟩ := thinB_iff.1 hth
  have hok := ok_of_lived hlv
  have hpos := hok.nh.1
  have HK := Lib.hid hok
  have HLV := Lib.hid hlv
  clear hth hlv hok
  go_enter Try.func6, Try.ntmps6
  go_wp2_with fail
  refine (ready_any g _ _ _ _ _ _ h _ ((hg.below hb1).up hb1.size) ((hh.below hb1).up hb1.size)).mono ?_
  rintro e w2 ⟨rfl, hb2⟩
  have hB2 := ex_trans hb1 hb2
  rw [HR.out]
  have p1 := q1.below hb2 q1.lt
  replace qi := qi.below hb2 qi.lt
  clear q1
  have a0 : w2.cell? ⟨w.heap.size, 0, none⟩ = some (.int .i64 g.base) := p1.cell 0
  have a1 : w2.cell? ⟨w.heap.size, 1, none⟩ = some (.slice Ab g.bands.length cb) := p1.cell 1
  have a2 : w2.cell? ⟨w.heap.size, 2, none⟩ = some (.slice Ad g.depths.length cd) := p1.cell 2
  have a3 : w2.cell? ⟨w.heap.size, 3, none⟩ = some (.int .i64 g.blo) := p1.cell 3
  have a4 : w2.cell? ⟨w.heap.size, 4, none⟩ = some (.int .i64 g.bhi) := p1.cell 4
  have l1 := p1.lt
  go_wp2_with fail
  refine wp_region_ext_mix 9 [(false, 0), (false, 1), (false, 2), (false, 3), (false, 5), (false, 6), (false, 7), (true, 4), (true, 8)] (by kernel_rfl) (by kernel_rfl) (by intro d _ _ _ _ h; cases d <;> exact h) ?_
  have hW0 := (Below.refl w2.heap.size w2).drew
  repeat (refine mix_quiet rfl ?_; go_big_quiet_step (fail); refine wpQuiet_nil ?_)
  refine mix_loud rfl ?_
  go_wp2_with fail
  refine (Picked_any g _ _ _ _ _ _ _ _ h ws w2.drew ((hg.below (ex_trans hB2 hW0)).up (ex_trans hB2 hW0).size) ((hh.below (ex_trans hB2 hW0)).up (ex_trans hB2 hW0).size) ((hw.below (ex_trans hB2 hW0)).up (ex_trans hB2 hW0).size) hwb hwl HK.out).mono ?_
  rintro e w3 ⟨⟨A1, A2, A3, c1, c2, c3, t1, t2, t3, rfl, ht, k1, k2, k3⟩, hb3⟩
  have hW3 := ex_trans hW0 hb3
  have hB3 := ex_trans hB2 hW3
  have HT := Lib.hid ht
  clear ht
  go_wp2_with fail
  refine ⟨inEx hW3, ?_⟩
  refine mix_loud rfl ?_
  go_wp2_with fail
  refine (Read_any g _ _ _ _ _ _ h ws m3 m4 w3 ((hg.below hB3).up hB3.size) _ _ _ _ _ _ t1 t2 t3 k1 k2 k3 ((hw.below hB3).up hB3.size) hwb hwl HK.out HT.out hm3.1 hm3.2 (by omega) (by omega)).mono ?_
  rintro e w5 ⟨⟨Ai, ci, l, rfl, hl4, hci1, hci2, hR, hi⟩, hb5⟩
  have hW5 := ex_trans hW3 hb5
  have hB5 := ex_trans hB2 hW5
  go_wp2_with fail
  refine ⟨inEx hW5, ?_⟩
  refine mix_nil rfl ?_
  replace p1 := p1.below hW5 l1
  clear a0 a1 a2 a3 a4 l1 k1 k2 k3
  replace qi := qi.below hW5 qi.lt
  have hN := Lib.hid (nil_agree HK.out HT.out off0)
  have hE := ex_alloc (Below.refl w5.heap.size w5) (.cells #[] 62)
  have hI0 : w5.cell? ⟨w.heap.size + 1, 0, none⟩ = some (.int .i64 ic.day) := qi.cell 0
  have hI1 : w5.cell? ⟨w.heap.size + 1, 1, none⟩ = some (.int .i64 ic.zero) := qi.cell 1
  have hI2 : w5.cell? ⟨w.heap.size + 1, 2, none⟩ = some (.int .i64 ic.err) := qi.cell 2
  have hIl := qi.lt
  go_wp2_with (first | (at_builtin; refine wpList_append_list (f := cC) (F := fC) (sz := 3) cC_len cC_at cC_one rfl _ _ _ rfl w5.heap.size 62 i0 _ 24 Try.underlying29 HI.out hz0' hz1' hz2' rfl (by omega) (some ⟨w5.heap.size, 0, none⟩) 0 [] rfl (own_empty (Blk.new _ _ _) (Nat.le_refl _)) Ai ci l rfl ((hi.below hE).up hE.size) (by simp; unfold maxLen; omega) (by simp; omega) hE.size (w5.heap.size + 1) (by simp) ?_; intro L1 Ay cy v1 HL1 o1 g1 n1; obtain rfl : l = L1 := HL1.out.symm; clear HL1; have hE2 : Below w5.heap.size w5 v1 := hE.grown g1 hE.size (fun j hj => Nat.le_of_eq (by simpa [Value.ownBlock] using hj))) | (refine pause_at 49 rfl ?_))
  clear hI0 hI1 hI2 hIl
  by_cases hn : 0 < l.length
  · have e1 : decide (0 < l.length) = true := decide_eq_true hn
    have e2 : decide ((0 : Int) < (l.length : Int)) = true := decide_eq_true (by omega)
    obtain ⟨k, hk⟩ : ∃ k : Nat, m6 % (l.length : Int) = (k : Int) := ⟨(m6 % (l.length : Int)).toNat, by have := Int.emod_nonneg m6 (show (l.length : Int) ≠ 0 by omega); omega⟩
    have hkl : k < l.length := by have := Int.emod_lt_of_pos m6 (show (0 : Int) < (l.length : Int) by omega); omega
    have hk' : m6.tmod (l.length : Int) = (k : Int) := by rw [Int.tmod_eq_emod_of_nonneg hm6.1]; exact hk
    have hn0 : ((l.length : Int) == 0) = false := by rw [beq_eq_false_iff_ne]; omega
    have hn0' : (l.length == 0) = false := by rw [beq_eq_false_iff_ne]; omega
    have hn1 : (1 : Int) ≤ (l.length : Int) := by omega
    have hm60 := hm6.1
    have hm61 := hm6.2
    obtain ⟨gg, cap, hv, hgb, hgl, c0, c1, c2, f⟩ := ics_cell o1 hkl
    injection hv with hva hvb hvc
    subst hva hvc
    have f2 := f (k * 3 + 2)
    have her := (hR k hkl).2.1
    obtain ⟨er, eer⟩ : ∃ er, (gC l k).err = er := ⟨_, rfl⟩
    rw [eer] at c2 her
    have hq0 : 0 ≤ m6 / 64 ∧ m6 / 64 ≤ 3 := by omega
    have hq1 : m6.tdiv 64 = m6 / 64 := Int.tdiv_eq_ediv_of_nonneg (by omega)
    have w1' : IntKind.i64.wrap (er - 1) = er - 1 := IntWalk.i64_in _ (by omega)
    have w2' : IntKind.i64.wrap (er - 1 - m6 / 64) = er - 1 - m6 / 64 := IntWalk.i64_in _ (by omega)
    clear c0 c1 hvb f
    refine Paused.mk ?_
    go_wp2_with (refine pause_at 72 rfl ?_)
    have o3 := ics_err o1 (g := gg) rfl hkl (max 0 (er - 1 - m6 / 64))
    obtain ⟨LL, hLL⟩ : ∃ LL, LL = l.set k ⟨(gC l k).day, (gC l k).zero, max 0 (er - 1 - m6 / 64)⟩ := ⟨_, rfl⟩
    rw [← hLL] at o3
    have HLEN : Hid (LL.length = l.length) := Lib.hid (by rw [hLL, List.length_set])
    have HFIN : Finer l (LL ++ [ic]) := by rw [hLL]; exact finer_set hkl (by rw [eer]; omega)
    have hFr : Fr (fun b => b = gg) v1 (v1.setCell ⟨gg, k * 3 + 2, none⟩ (.int .i64 (max 0 (er - 1 - m6 / 64)))) := (Fr.refl (fun b => b = gg) v1).andSet rfl
    have hEV : Below w5.heap.size w5 (v1.setCell ⟨gg, k * 3 + 2, none⟩ (.int .i64 (max 0 (er - 1 - m6 / 64)))) := hFr.toBelow hE2 hE2.size (fun y hy => by rw [hy]; exact hgb)
    generalize v1.setCell ⟨gg, k * 3 + 2, none⟩ (.int .i64 (max 0 (er - 1 - m6 / 64))) = V at *
    have o4 : V.ownsRow w5.heap.size 62 3 (.slice (some ⟨gg, 0, none⟩) LL.length cy) LL.length (LL.flatMap cC) := by
      rw [HLEN.out] at o3 ⊢
      exact o3
    clear o3 hLL hFr o1 c2 f2 hk hk' w1' w2' hq0 hq1 g1 n1 hE2 e1 e2 her eer
    have hA := ex_alloc hEV (.cells #[.int .i64 ic.day, .int .i64 ic.zero, .int .i64 ic.err] 62)
    have hI0 : V.cell? ⟨w.heap.size + 1, 0, none⟩ = some (.int .i64 ic.day) := (qi.below hEV qi.lt).cell 0
    have hI1 : V.cell? ⟨w.heap.size + 1, 1, none⟩ = some (.int .i64 ic.zero) := (qi.below hEV qi.lt).cell 1
    have hI2 : V.cell? ⟨w.heap.size + 1, 2, none⟩ = some (.int .i64 ic.err) := (qi.below hEV qi.lt).cell 2
    have hIl := (qi.below hEV qi.lt).lt
    refine Paused.mk ?_
    go_wp2_with (at_builtin; refine wpList_append_list (f := cC) (F := fC) (sz := 3) cC_len cC_at cC_one rfl _ _ _ rfl w5.heap.size 62 i0 _ 24 Try.underlying29 HI.out hz0' hz1' hz2' rfl (by omega) (some ⟨gg, 0, none⟩) cy LL (by rw [HLEN.out]; rfl) (own_below o4 ((Below.refl _ _).alloc (Nat.le_refl _) _)) (some ⟨V.heap.size, 0, none⟩) 1 [ic] rfl (one_at (Blk.new _ _ _) (ice_row ic.day ic.zero ic.err)) (by rw [HLEN.out]; simp; unfold maxLen; omega) (by rw [HLEN.out]; simp; omega) hA.size (V.heap.size + 1) (by simp) ?_; intro X Bx kx v2 HX ox gx nx)
    have HXL : Hid (X.length = l.length + 1) := Lib.hid (by rw [HX.out]; simp [HLEN.out])
    have hXl : X.length ≤ 5 := (by have := HXL.out; omega)
    have HFX : Hid (Finer l X) := Lib.hid (by rw [HX.out]; exact HFIN)
    have hE3 : Below w5.heap.size w5 v2 := hA.grown gx hA.size (fun j hj => own_ge o4 hj)
    obtain ⟨Ax, cx, hv, _, _, hs2⟩ := own_C ox
    injection hv with hva hvb hvc
    subst hva
    clear hvb hvc ox gx nx hA hI0 hI1 hI2 hIl
    have B_v := ex_trans hB5 hE3
    refine (IcesFault_any _ _ _ _ h.length l _ (by omega) ((hi.below hE3).up hE3.size)).mono ?_
    rintro e v3 ⟨rfl, hv3⟩
    by_cases hic : icsF h.length l ≠ 0
    · have e1 : (icsF h.length l != 0) = true := by simp [hic]
      clear hic
      go_wp2_with fail
      refine (awake_any _).mono ?_
      rintro e w7 ⟨rfl, hb7⟩
      go_wp2
      go_ret
      exact ⟨rfl, ex_trans (ex_trans B_v hv3) hb7⟩
    have HIC1 := Lib.hid (iced_of HLV.out (by simpa using hic))
    have e0 : icsF h.length l = 0 := by simpa using hic
    rw [e0]
    clear hic e0
    go_wp2_with fail
    refine (IcesFault_any _ _ _ _ h.length X _ (by omega) ((hs2.below hv3).up hv3.size)).mono ?_
    rintro e v4 ⟨rfl, hv4⟩
    by_cases hic : icsF h.length X ≠ 0
    · have e1 : (icsF h.length X != 0) = true := by simp [hic]
      clear hic
      go_wp2_with fail
      refine (awake_any _).mono ?_
      rintro e w7 ⟨rfl, hb7⟩
      go_wp2
      go_ret
      exact ⟨rfl, ex_trans (ex_trans (ex_trans B_v hv3) hv4) hb7⟩
    have HIC2 := Lib.hid (iced_of HLV.out (by simpa using hic))
    have e0 : icsF h.length X = 0 := by simpa using hic
    rw [e0]
    clear hic e0
    have X_v := ex_trans hv3 hv4
    have B_v4 := ex_trans B_v X_v
    have I_v4 := ex_trans hE3 X_v
    replace p1 := p1.below I_v4 p1.lt
    have a0 : v4.cell? ⟨w.heap.size, 0, none⟩ = some (.int .i64 g.base) := p1.cell 0
    have a1 : v4.cell? ⟨w.heap.size, 1, none⟩ = some (.slice Ab g.bands.length cb) := p1.cell 1
    have a2 : v4.cell? ⟨w.heap.size, 2, none⟩ = some (.slice Ad g.depths.length cd) := p1.cell 2
    have a3 : v4.cell? ⟨w.heap.size, 3, none⟩ = some (.int .i64 g.blo) := p1.cell 3
    have a4 : v4.cell? ⟨w.heap.size, 4, none⟩ = some (.int .i64 g.bhi) := p1.cell 4
    have l1 := p1.lt
    go_wp2_with fail
    refine (Glass_any g _ _ _ _ v4 ((hg.below B_v4).up B_v4.size) (by omega) (by omega)).mono ?_
    rintro e ya1 ⟨⟨Ab_ya1, Ad_ya1, cb_ya1, cd_ya1, rfl, hg_ya1⟩, hya1⟩
    have B_ya1 := ex_trans B_v4 hya1
    go_wp2_with fail
    refine (History_any _ _ h ya1 (by omega) ((hh.below B_ya1).up B_ya1.size)).mono ?_
    rintro e ya2 ⟨⟨Ah_ya2, ch_ya2, rfl, _, _, hh_ya2⟩, hya2⟩
    have B_ya2 := ex_trans B_ya1 hya2
    have I_ya2 := ex_trans I_v4 (ex_trans hya1 hya2)
    go_wp2_with fail
    refine (Ices_any _ _ l ya2 (by omega) ((hi.below I_ya2).up I_ya2.size)).mono ?_
    rintro e ya3 ⟨⟨Ai_ya3, ci_ya3, rfl, hc1_ya3, hc2_ya3, hi_ya3⟩, hya3⟩
    have B_ya3 := ex_trans B_ya2 hya3
    have I_ya3 := ex_trans I_ya2 hya3
    go_wp2_with fail
    refine (Zeros_v g _ _ _ _ _ _ _ _ h l _ ((hg_ya1.below (ex_trans hya2 hya3)).up (ex_trans hya2 hya3).size) ((hh_ya2.below hya3).up hya3.size) hi_ya3 HIC1.out).mono ?_
    rintro e ya4 ⟨⟨Az1, n1, ev1, zs1, rfl, HZ1, sz1⟩, hya4⟩
    have B_ya := ex_trans B_ya3 hya4
    have I_ya := ex_trans I_ya3 hya4
    have X_ya := ex_trans (ex_trans (ex_trans hya1 hya2) hya3) hya4
    clear hg_ya1 hh_ya2 hi_ya3
    replace p1 := p1.below X_ya l1
    clear a0 a1 a2 a3 a4 l1
    have Kya_X := ex_trans X_v X_ya
    have a0 : ya4.cell? ⟨w.heap.size, 0, none⟩ = some (.int .i64 g.base) := p1.cell 0
    have a1 : ya4.cell? ⟨w.heap.size, 1, none⟩ = some (.slice Ab g.bands.length cb) := p1.cell 1
    have a2 : ya4.cell? ⟨w.heap.size, 2, none⟩ = some (.slice Ad g.depths.length cd) := p1.cell 2
    have a3 : ya4.cell? ⟨w.heap.size, 3, none⟩ = some (.int .i64 g.blo) := p1.cell 3
    have a4 : ya4.cell? ⟨w.heap.size, 4, none⟩ = some (.int .i64 g.bhi) := p1.cell 4
    have l1 := p1.lt
    go_wp2_with fail
    refine (Glass_any g _ _ _ _ ya4 ((hg.below B_ya).up B_ya.size) (by omega) (by omega)).mono ?_
    rintro e yb1 ⟨⟨Ab_yb1, Ad_yb1, cb_yb1, cd_yb1, rfl, hg_yb1⟩, hyb1⟩
    have B_yb1 := ex_trans B_ya hyb1
    go_wp2_with fail
    refine (History_any _ _ h yb1 (by omega) ((hh.below B_yb1).up B_yb1.size)).mono ?_
    rintro e yb2 ⟨⟨Ah_yb2, ch_yb2, rfl, _, _, hh_yb2⟩, hyb2⟩
    have B_yb2 := ex_trans B_yb1 hyb2
    have I_yb2 := ex_trans Kya_X (ex_trans hyb1 hyb2)
    go_wp2_with fail
    refine (Ices_any _ _ X yb2 (by omega) ((hs2.below I_yb2).up I_yb2.size)).mono ?_
    rintro e yb3 ⟨⟨Ai_yb3, ci_yb3, rfl, hc1_yb3, hc2_yb3, hi_yb3⟩, hyb3⟩
    have B_yb3 := ex_trans B_yb2 hyb3
    have I_yb3 := ex_trans I_yb2 hyb3
    go_wp2_with fail
    refine (Zeros_v g _ _ _ _ _ _ _ _ h X _ ((hg_yb1.below (ex_trans hyb2 hyb3)).up (ex_trans hyb2 hyb3).size) ((hh_yb2.below hyb3).up hyb3.size) hi_yb3 HIC2.out).mono ?_
    rintro e yb4 ⟨⟨Az2, n2, ev2, zs2, rfl, HZ2, sz2⟩, hyb4⟩
    have B_yb := ex_trans B_yb3 hyb4
    have I_yb := ex_trans I_yb3 hyb4
    have X_yb := ex_trans (ex_trans (ex_trans hyb1 hyb2) hyb3) hyb4
    clear hg_yb1 hh_yb2 hi_yb3
    replace p1 := p1.below X_yb l1
    clear a0 a1 a2 a3 a4 l1
    have Kyb_l := ex_trans I_ya X_yb
    have a0 : yb4.cell? ⟨w.heap.size, 0, none⟩ = some (.int .i64 g.base) := p1.cell 0
    have a1 : yb4.cell? ⟨w.heap.size, 1, none⟩ = some (.slice Ab g.bands.length cb) := p1.cell 1
    have a2 : yb4.cell? ⟨w.heap.size, 2, none⟩ = some (.slice Ad g.depths.length cd) := p1.cell 2
    have a3 : yb4.cell? ⟨w.heap.size, 3, none⟩ = some (.int .i64 g.blo) := p1.cell 3
    have a4 : yb4.cell? ⟨w.heap.size, 4, none⟩ = some (.int .i64 g.bhi) := p1.cell 4
    have l1 := p1.lt
    go_wp2_with fail
    refine (Glass_any g _ _ _ _ yb4 ((hg.below B_yb).up B_yb.size) (by omega) (by omega)).mono ?_
    rintro e yc1 ⟨⟨Ab_yc1, Ad_yc1, cb_yc1, cd_yc1, rfl, hg_yc1⟩, hyc1⟩
    have B_yc1 := ex_trans B_yb hyc1
    go_wp2_with fail
    refine (History_any _ _ h yc1 (by omega) ((hh.below B_yc1).up B_yc1.size)).mono ?_
    rintro e yc2 ⟨⟨Ah_yc2, ch_yc2, rfl, _, _, hh_yc2⟩, hyc2⟩
    have B_yc2 := ex_trans B_yc1 hyc2
    have I_yc2 := ex_trans Kyb_l (ex_trans hyc1 hyc2)
    go_wp2_with fail
    refine (Ices_any _ _ l yc2 (by omega) ((hi.below I_yc2).up I_yc2.size)).mono ?_
    rintro e yc3 ⟨⟨Ai_yc3, ci_yc3, rfl, hc1_yc3, hc2_yc3, hi_yc3⟩, hyc3⟩
    have B_yc3 := ex_trans B_yc2 hyc3
    have I_yc3 := ex_trans I_yc2 hyc3
    go_wp2_with fail
    refine (Shows_v g _ _ _ _ _ _ _ _ h l _ ((hg_yc1.below (ex_trans hyc2 hyc3)).up (ex_trans hyc2 hyc3).size) ((hh_yc2.below hyc3).up hyc3.size) hi_yc3 hc1_yc3 hc2_yc3 HIC1.out).mono ?_
    rintro e yc4 ⟨⟨ks1, sv1, rfl, HS1⟩, hyc4⟩
    have B_yc := ex_trans B_yc3 hyc4
    have I_yc := ex_trans I_yc3 hyc4
    have X_yc := ex_trans (ex_trans (ex_trans hyc1 hyc2) hyc3) hyc4
    clear hg_yc1 hh_yc2 hi_yc3
    replace p1 := p1.below X_yc l1
    clear a0 a1 a2 a3 a4 l1
    have Kyc_X := ex_trans I_yb X_yc
    have a0 : yc4.cell? ⟨w.heap.size, 0, none⟩ = some (.int .i64 g.base) := p1.cell 0
    have a1 : yc4.cell? ⟨w.heap.size, 1, none⟩ = some (.slice Ab g.bands.length cb) := p1.cell 1
    have a2 : yc4.cell? ⟨w.heap.size, 2, none⟩ = some (.slice Ad g.depths.length cd) := p1.cell 2
    have a3 : yc4.cell? ⟨w.heap.size, 3, none⟩ = some (.int .i64 g.blo) := p1.cell 3
    have a4 : yc4.cell? ⟨w.heap.size, 4, none⟩ = some (.int .i64 g.bhi) := p1.cell 4
    have l1 := p1.lt
    go_wp2_with fail
    refine (Glass_any g _ _ _ _ yc4 ((hg.below B_yc).up B_yc.size) (by omega) (by omega)).mono ?_
    rintro e yd1 ⟨⟨Ab_yd1, Ad_yd1, cb_yd1, cd_yd1, rfl, hg_yd1⟩, hyd1⟩
    have B_yd1 := ex_trans B_yc hyd1
    go_wp2_with fail
    refine (History_any _ _ h yd1 (by omega) ((hh.below B_yd1).up B_yd1.size)).mono ?_
    rintro e yd2 ⟨⟨Ah_yd2, ch_yd2, rfl, _, _, hh_yd2⟩, hyd2⟩
    have B_yd2 := ex_trans B_yd1 hyd2
    have I_yd2 := ex_trans Kyc_X (ex_trans hyd1 hyd2)
    go_wp2_with fail
    refine (Ices_any _ _ X yd2 (by omega) ((hs2.below I_yd2).up I_yd2.size)).mono ?_
    rintro e yd3 ⟨⟨Ai_yd3, ci_yd3, rfl, hc1_yd3, hc2_yd3, hi_yd3⟩, hyd3⟩
    have B_yd3 := ex_trans B_yd2 hyd3
    have I_yd3 := ex_trans I_yd2 hyd3
    go_wp2_with fail
    refine (Shows_v g _ _ _ _ _ _ _ _ h X _ ((hg_yd1.below (ex_trans hyd2 hyd3)).up (ex_trans hyd2 hyd3).size) ((hh_yd2.below hyd3).up hyd3.size) hi_yd3 hc1_yd3 hc2_yd3 HIC2.out).mono ?_
    rintro e yd4 ⟨⟨ks2, sv2, rfl, HS2⟩, hyd4⟩
    have B_yd := ex_trans B_yd3 hyd4
    have I_yd := ex_trans I_yd3 hyd4
    have X_yd := ex_trans (ex_trans (ex_trans hyd1 hyd2) hyd3) hyd4
    clear hg_yd1 hh_yd2 hi_yd3
    replace p1 := p1.below X_yd l1
    clear a0 a1 a2 a3 a4 l1
    have Kyd_l := ex_trans I_yc X_yd
    have a0 : yd4.cell? ⟨w.heap.size, 0, none⟩ = some (.int .i64 g.base) := p1.cell 0
    have a1 : yd4.cell? ⟨w.heap.size, 1, none⟩ = some (.slice Ab g.bands.length cb) := p1.cell 1
    have a2 : yd4.cell? ⟨w.heap.size, 2, none⟩ = some (.slice Ad g.depths.length cd) := p1.cell 2
    have a3 : yd4.cell? ⟨w.heap.size, 3, none⟩ = some (.int .i64 g.blo) := p1.cell 3
    have a4 : yd4.cell? ⟨w.heap.size, 4, none⟩ = some (.int .i64 g.bhi) := p1.cell 4
    have l1 := p1.lt
    go_wp2_with fail
    refine (Glass_any g _ _ _ _ yd4 ((hg.below B_yd).up B_yd.size) (by omega) (by omega)).mono ?_
    rintro e ye1 ⟨⟨Ab_ye1, Ad_ye1, cb_ye1, cd_ye1, rfl, hg_ye1⟩, hye1⟩
    have B_ye1 := ex_trans B_yd hye1
    go_wp2_with fail
    refine (History_any _ _ h ye1 (by omega) ((hh.below B_ye1).up B_ye1.size)).mono ?_
    rintro e ye2 ⟨⟨Ah_ye2, ch_ye2, rfl, _, _, hh_ye2⟩, hye2⟩
    have B_ye2 := ex_trans B_ye1 hye2
    have I_ye2 := ex_trans Kyd_l (ex_trans hye1 hye2)
    go_wp2_with fail
    refine (Ices_any _ _ l ye2 (by omega) ((hi.below I_ye2).up I_ye2.size)).mono ?_
    rintro e ye3 ⟨⟨Ai_ye3, ci_ye3, rfl, hc1_ye3, hc2_ye3, hi_ye3⟩, hye3⟩
    have B_ye3 := ex_trans B_ye2 hye3
    have I_ye3 := ex_trans I_ye2 hye3
    go_wp2_with fail
    refine (Fewest_v g _ _ _ _ _ _ _ _ h l _ ((hg_ye1.below (ex_trans hye2 hye3)).up (ex_trans hye2 hye3).size) ((hh_ye2.below hye3).up hye3.size) hi_ye3 HIC1.out).mono ?_
    rintro e ye4 ⟨⟨Af1, cf1, fr1, rfl, HF1, sf1⟩, hye4⟩
    have B_ye := ex_trans B_ye3 hye4
    have I_ye := ex_trans I_ye3 hye4
    have X_ye := ex_trans (ex_trans (ex_trans hye1 hye2) hye3) hye4
    clear hg_ye1 hh_ye2 hi_ye3
    replace p1 := p1.below X_ye l1
    clear a0 a1 a2 a3 a4 l1
    have Kye_X := ex_trans I_yd X_ye
    have a0 : ye4.cell? ⟨w.heap.size, 0, none⟩ = some (.int .i64 g.base) := p1.cell 0
    have a1 : ye4.cell? ⟨w.heap.size, 1, none⟩ = some (.slice Ab g.bands.length cb) := p1.cell 1
    have a2 : ye4.cell? ⟨w.heap.size, 2, none⟩ = some (.slice Ad g.depths.length cd) := p1.cell 2
    have a3 : ye4.cell? ⟨w.heap.size, 3, none⟩ = some (.int .i64 g.blo) := p1.cell 3
    have a4 : ye4.cell? ⟨w.heap.size, 4, none⟩ = some (.int .i64 g.bhi) := p1.cell 4
    have l1 := p1.lt
    go_wp2_with fail
    refine (Glass_any g _ _ _ _ ye4 ((hg.below B_ye).up B_ye.size) (by omega) (by omega)).mono ?_
    rintro e yf1 ⟨⟨Ab_yf1, Ad_yf1, cb_yf1, cd_yf1, rfl, hg_yf1⟩, hyf1⟩
    have B_yf1 := ex_trans B_ye hyf1
    go_wp2_with fail
    refine (History_any _ _ h yf1 (by omega) ((hh.below B_yf1).up B_yf1.size)).mono ?_
    rintro e yf2 ⟨⟨Ah_yf2, ch_yf2, rfl, _, _, hh_yf2⟩, hyf2⟩
    have B_yf2 := ex_trans B_yf1 hyf2
    have I_yf2 := ex_trans Kye_X (ex_trans hyf1 hyf2)
    go_wp2_with fail
    refine (Ices_any _ _ X yf2 (by omega) ((hs2.below I_yf2).up I_yf2.size)).mono ?_
    rintro e yf3 ⟨⟨Ai_yf3, ci_yf3, rfl, hc1_yf3, hc2_yf3, hi_yf3⟩, hyf3⟩
    have B_yf3 := ex_trans B_yf2 hyf3
    have I_yf3 := ex_trans I_yf2 hyf3
    go_wp2_with fail
    refine (Fewest_v g _ _ _ _ _ _ _ _ h X _ ((hg_yf1.below (ex_trans hyf2 hyf3)).up (ex_trans hyf2 hyf3).size) ((hh_yf2.below hyf3).up hyf3.size) hi_yf3 HIC2.out).mono ?_
    rintro e yf4 ⟨⟨Af2, cf2, fr2, rfl, HF2, sf2⟩, hyf4⟩
    have B_yf := ex_trans B_yf3 hyf4
    have I_yf := ex_trans I_yf3 hyf4
    have X_yf := ex_trans (ex_trans (ex_trans hyf1 hyf2) hyf3) hyf4
    clear hg_yf1 hh_yf2 hi_yf3
    replace p1 := p1.below X_yf l1
    clear a0 a1 a2 a3 a4 l1
    have Kyf_l := ex_trans I_ye X_yf
    have hM := more_all HK.out hN.out HFX.out HXL.out HZ1.out HZ2.out HS1.out HS2.out HF1.out HF2.out
    have hw1 : IntKind.i64.wrap ((l.length : Int) + 1) = (l.length : Int) + 1 := IntWalk.i64_in _ (by omega)
    have Y1 := ex_trans (ex_trans (ex_trans (ex_trans X_yb X_yc) X_yd) X_ye) X_yf
    have Y2 := ex_trans (ex_trans (ex_trans X_yc X_yd) X_ye) X_yf
    have HN6 : Hid (n1 ≤ h.length) := Lib.hid (by rcases HZ1.out with ⟨_, _, h1⟩ | ⟨_, _, h1, _⟩ <;> omega)
    clear HZ1 HZ2 HS1 HS2 HF1 HF2 sf1 sf2
    rcases hM with ⟨rfl, rfl, rfl, rfl, rfl, rfl, rfl, hin⟩ | ⟨rfl, rfl, rfl, rfl, rfl, m1, m2⟩ | ⟨rfl, rfl, rfl, rfl, kk, m0, m1, m2⟩
    · have HIN := Lib.hid hin
      clear hin
      have d1 : decide ((l.length : Int) + 1 < 0) = false := decide_eq_false (by omega)
      have hn16 : n1 ≤ 1000000 := (by have := HN6.out; omega)
      go_wp2_with fail
      refine (within_yes _ _ _ _ n1 _ _ _ hn16 ((sz2.below Y2).up Y2.size) ((sz1.below Y1).up Y1.size) HIN.out).mono ?_
      rintro e x1 ⟨rfl, hx1⟩
      go_wp2_with fail
      refine (awake_any _).mono ?_
      rintro e x2 ⟨rfl, hx2⟩
      go_wp2
      go_ret
      exact ⟨rfl, ex_trans (ex_trans B_yf hx1) hx2⟩
    · have d1 : decide ((l.length : Int) + 1 < (fr2.length : Int)) = false := decide_eq_false (by omega)
      have d2 : decide (l.length + 1 < fr2.length) = false := decide_eq_false (by omega)
      have d3 : ((fr2.length : Int) == 0) = false := by rw [beq_eq_false_iff_ne]; omega
      have d4 : (fr2.length == 0) = false := by rw [beq_eq_false_iff_ne]; omega
      have d5 : decide ((fr2.length : Int) < 0) = false := decide_eq_false (by omega)
      go_wp2_with fail
      refine (awake_any _).mono ?_
      rintro e x2 ⟨rfl, hx2⟩
      go_wp2
      go_ret
      exact ⟨rfl, ex_trans B_yf hx2⟩
    · have d1 : decide ((l.length : Int) + 1 < (fr2.length : Int)) = false := decide_eq_false (by omega)
      have d2 : decide (l.length + 1 < fr2.length) = false := decide_eq_false (by omega)
      have d3 : ((fr2.length : Int) == 0) = false := by rw [beq_eq_false_iff_ne]; omega
      have d4 : (fr2.length == 0) = false := by rw [beq_eq_false_iff_ne]; omega
      have d5 : decide ((fr2.length : Int) < (fr1.length : Int)) = false := decide_eq_false (by omega)
      have d6 : decide (fr2.length < fr1.length) = false := decide_eq_false (by omega)
      have d7 : ((fr1.length : Int) == 0) = false := by rw [beq_eq_false_iff_ne]; omega
      have d8 : (fr1.length == 0) = false := by rw [beq_eq_false_iff_ne]; omega
      have d9 : decide (ks1 < ks2) = false := decide_eq_false (by omega)
      go_wp2_with fail
      refine (awake_any _).mono ?_
      rintro e x2 ⟨rfl, hx2⟩
      go_wp2
      go_ret
      exact ⟨rfl, ex_trans B_yf hx2⟩
  · have e1 : decide (0 < l.length) = false := decide_eq_false hn
    have e2 : decide ((0 : Int) < (l.length : Int)) = false := decide_eq_false (by omega)
    have HFIN : Finer l (l ++ [ic]) := finer_app
    refine Paused.mk ?_
    go_wp2_with (refine pause_at 72 rfl ?_)
    have hA := ex_alloc hE2 (.cells #[.int .i64 ic.day, .int .i64 ic.zero, .int .i64 ic.err] 62)
    have hI0 : v1.cell? ⟨w.heap.size + 1, 0, none⟩ = some (.int .i64 ic.day) := (qi.below hE2 qi.lt).cell 0
    have hI1 : v1.cell? ⟨w.heap.size + 1, 1, none⟩ = some (.int .i64 ic.zero) := (qi.below hE2 qi.lt).cell 1
    have hI2 : v1.cell? ⟨w.heap.size + 1, 2, none⟩ = some (.int .i64 ic.err) := (qi.below hE2 qi.lt).cell 2
    have hIl := (qi.below hE2 qi.lt).lt
    refine Paused.mk ?_
    go_wp2_with (at_builtin; refine wpList_append_list (f := cC) (F := fC) (sz := 3) cC_len cC_at cC_one rfl _ _ _ rfl w5.heap.size 62 i0 _ 24 Try.underlying29 HI.out hz0' hz1' hz2' rfl (by omega) Ay cy l (by rfl) (own_below o1 ((Below.refl _ _).alloc (Nat.le_refl _) _)) (some ⟨v1.heap.size, 0, none⟩) 1 [ic] rfl (one_at (Blk.new _ _ _) (ice_row ic.day ic.zero ic.err)) (by simp; unfold maxLen; omega) (by simp; omega) hA.size (v1.heap.size + 1) (by simp) ?_; intro X Bx kx v2 HX ox gx nx)
    have HXL : Hid (X.length = l.length + 1) := Lib.hid (by rw [HX.out]; simp)
    have hXl : X.length ≤ 5 := (by have := HXL.out; omega)
    have HFX : Hid (Finer l X) := Lib.hid (by rw [HX.out]; exact HFIN)
    have hE3 : Below w5.heap.size w5 v2 := hA.grown gx hA.size (fun j hj => own_ge o1 hj)
    obtain ⟨Ax, cx, hv, _, _, hs2⟩ := own_C ox
    injection hv with hva hvb hvc
    subst hva
    clear hvb hvc ox gx nx hA hI0 hI1 hI2 hIl
    have B_v := ex_trans hB5 hE3
    refine (IcesFault_any _ _ _ _ h.length l _ (by omega) ((hi.below hE3).up hE3.size)).mono ?_
    rintro e v3 ⟨rfl, hv3⟩
    by_cases hic : icsF h.length l ≠ 0
    · have e1 : (icsF h.length l != 0) = true := by simp [hic]
      clear hic
      go_wp2_with fail
      refine (awake_any _).mono ?_
      rintro e w7 ⟨rfl, hb7⟩
      go_wp2
      go_ret
      exact ⟨rfl, ex_trans (ex_trans B_v hv3) hb7⟩
    have HIC1 := Lib.hid (iced_of HLV.out (by simpa using hic))
    have e0 : icsF h.length l = 0 := by simpa using hic
    rw [e0]
    clear hic e0
    go_wp2_with fail
    refine (IcesFault_any _ _ _ _ h.length X _ (by omega) ((hs2.below hv3).up hv3.size)).mono ?_
    rintro e v4 ⟨rfl, hv4⟩
    by_cases hic : icsF h.length X ≠ 0
    · have e1 : (icsF h.length X != 0) = true := by simp [hic]
      clear hic
      go_wp2_with fail
      refine (awake_any _).mono ?_
      rintro e w7 ⟨rfl, hb7⟩
      go_wp2
      go_ret
      exact ⟨rfl, ex_trans (ex_trans (ex_trans B_v hv3) hv4) hb7⟩
    have HIC2 := Lib.hid (iced_of HLV.out (by simpa using hic))
    have e0 : icsF h.length X = 0 := by simpa using hic
    rw [e0]
    clear hic e0
    have X_v := ex_trans hv3 hv4
    have B_v4 := ex_trans B_v X_v
    have I_v4 := ex_trans hE3 X_v
    replace p1 := p1.below I_v4 p1.lt
    have a0 : v4.cell? ⟨w.heap.size, 0, none⟩ = some (.int .i64 g.base) := p1.cell 0
    have a1 : v4.cell? ⟨w.heap.size, 1, none⟩ = some (.slice Ab g.bands.length cb) := p1.cell 1
    have a2 : v4.cell? ⟨w.heap.size, 2, none⟩ = some (.slice Ad g.depths.length cd) := p1.cell 2
    have a3 : v4.cell? ⟨w.heap.size, 3, none⟩ = some (.int .i64 g.blo) := p1.cell 3
    have a4 : v4.cell? ⟨w.heap.size, 4, none⟩ = some (.int .i64 g.bhi) := p1.cell 4
    have l1 := p1.lt
    go_wp2_with fail
    refine (Glass_any g _ _ _ _ v4 ((hg.below B_v4).up B_v4.size) (by omega) (by omega)).mono ?_
    rintro e ya1 ⟨⟨Ab_ya1, Ad_ya1, cb_ya1, cd_ya1, rfl, hg_ya1⟩, hya1⟩
    have B_ya1 := ex_trans B_v4 hya1
    go_wp2_with fail
    refine (History_any _ _ h ya1 (by omega) ((hh.below B_ya1).up B_ya1.size)).mono ?_
    rintro e ya2 ⟨⟨Ah_ya2, ch_ya2, rfl, _, _, hh_ya2⟩, hya2⟩
    have B_ya2 := ex_trans B_ya1 hya2
    have I_ya2 := ex_trans I_v4 (ex_trans hya1 hya2)
    go_wp2_with fail
    refine (Ices_any _ _ l ya2 (by omega) ((hi.below I_ya2).up I_ya2.size)).mono ?_
    rintro e ya3 ⟨⟨Ai_ya3, ci_ya3, rfl, hc1_ya3, hc2_ya3, hi_ya3⟩, hya3⟩
    have B_ya3 := ex_trans B_ya2 hya3
    have I_ya3 := ex_trans I_ya2 hya3
    go_wp2_with fail
    refine (Zeros_v g _ _ _ _ _ _ _ _ h l _ ((hg_ya1.below (ex_trans hya2 hya3)).up (ex_trans hya2 hya3).size) ((hh_ya2.below hya3).up hya3.size) hi_ya3 HIC1.out).mono ?_
    rintro e ya4 ⟨⟨Az1, n1, ev1, zs1, rfl, HZ1, sz1⟩, hya4⟩
    have B_ya := ex_trans B_ya3 hya4
    have I_ya := ex_trans I_ya3 hya4
    have X_ya := ex_trans (ex_trans (ex_trans hya1 hya2) hya3) hya4
    clear hg_ya1 hh_ya2 hi_ya3
    replace p1 := p1.below X_ya l1
    clear a0 a1 a2 a3 a4 l1
    have Kya_X := ex_trans X_v X_ya
    have a0 : ya4.cell? ⟨w.heap.size, 0, none⟩ = some (.int .i64 g.base) := p1.cell 0
    have a1 : ya4.cell? ⟨w.heap.size, 1, none⟩ = some (.slice Ab g.bands.length cb) := p1.cell 1
    have a2 : ya4.cell? ⟨w.heap.size, 2, none⟩ = some (.slice Ad g.depths.length cd) := p1.cell 2
    have a3 : ya4.cell? ⟨w.heap.size, 3, none⟩ = some (.int .i64 g.blo) := p1.cell 3
    have a4 : ya4.cell? ⟨w.heap.size, 4, none⟩ = some (.int .i64 g.bhi) := p1.cell 4
    have l1 := p1.lt
    go_wp2_with fail
    refine (Glass_any g _ _ _ _ ya4 ((hg.below B_ya).up B_ya.size) (by omega) (by omega)).mono ?_
    rintro e yb1 ⟨⟨Ab_yb1, Ad_yb1, cb_yb1, cd_yb1, rfl, hg_yb1⟩, hyb1⟩
    have B_yb1 := ex_trans B_ya hyb1
    go_wp2_with fail
    refine (History_any _ _ h yb1 (by omega) ((hh.below B_yb1).up B_yb1.size)).mono ?_
    rintro e yb2 ⟨⟨Ah_yb2, ch_yb2, rfl, _, _, hh_yb2⟩, hyb2⟩
    have B_yb2 := ex_trans B_yb1 hyb2
    have I_yb2 := ex_trans Kya_X (ex_trans hyb1 hyb2)
    go_wp2_with fail
    refine (Ices_any _ _ X yb2 (by omega) ((hs2.below I_yb2).up I_yb2.size)).mono ?_
    rintro e yb3 ⟨⟨Ai_yb3, ci_yb3, rfl, hc1_yb3, hc2_yb3, hi_yb3⟩, hyb3⟩
    have B_yb3 := ex_trans B_yb2 hyb3
    have I_yb3 := ex_trans I_yb2 hyb3
    go_wp2_with fail
    refine (Zeros_v g _ _ _ _ _ _ _ _ h X _ ((hg_yb1.below (ex_trans hyb2 hyb3)).up (ex_trans hyb2 hyb3).size) ((hh_yb2.below hyb3).up hyb3.size) hi_yb3 HIC2.out).mono ?_
    rintro e yb4 ⟨⟨Az2, n2, ev2, zs2, rfl, HZ2, sz2⟩, hyb4⟩
    have B_yb := ex_trans B_yb3 hyb4
    have I_yb := ex_trans I_yb3 hyb4
    have X_yb := ex_trans (ex_trans (ex_trans hyb1 hyb2) hyb3) hyb4
    clear hg_yb1 hh_yb2 hi_yb3
    replace p1 := p1.below X_yb l1
    clear a0 a1 a2 a3 a4 l1
    have Kyb_l := ex_trans I_ya X_yb
    have a0 : yb4.cell? ⟨w.heap.size, 0, none⟩ = some (.int .i64 g.base) := p1.cell 0
    have a1 : yb4.cell? ⟨w.heap.size, 1, none⟩ = some (.slice Ab g.bands.length cb) := p1.cell 1
    have a2 : yb4.cell? ⟨w.heap.size, 2, none⟩ = some (.slice Ad g.depths.length cd) := p1.cell 2
    have a3 : yb4.cell? ⟨w.heap.size, 3, none⟩ = some (.int .i64 g.blo) := p1.cell 3
    have a4 : yb4.cell? ⟨w.heap.size, 4, none⟩ = some (.int .i64 g.bhi) := p1.cell 4
    have l1 := p1.lt
    go_wp2_with fail
    refine (Glass_any g _ _ _ _ yb4 ((hg.below B_yb).up B_yb.size) (by omega) (by omega)).mono ?_
    rintro e yc1 ⟨⟨Ab_yc1, Ad_yc1, cb_yc1, cd_yc1, rfl, hg_yc1⟩, hyc1⟩
    have B_yc1 := ex_trans B_yb hyc1
    go_wp2_with fail
    refine (History_any _ _ h yc1 (by omega) ((hh.below B_yc1).up B_yc1.size)).mono ?_
    rintro e yc2 ⟨⟨Ah_yc2, ch_yc2, rfl, _, _, hh_yc2⟩, hyc2⟩
    have B_yc2 := ex_trans B_yc1 hyc2
    have I_yc2 := ex_trans Kyb_l (ex_trans hyc1 hyc2)
    go_wp2_with fail
    refine (Ices_any _ _ l yc2 (by omega) ((hi.below I_yc2).up I_yc2.size)).mono ?_
    rintro e yc3 ⟨⟨Ai_yc3, ci_yc3, rfl, hc1_yc3, hc2_yc3, hi_yc3⟩, hyc3⟩
    have B_yc3 := ex_trans B_yc2 hyc3
    have I_yc3 := ex_trans I_yc2 hyc3
    go_wp2_with fail
    refine (Shows_v g _ _ _ _ _ _ _ _ h l _ ((hg_yc1.below (ex_trans hyc2 hyc3)).up (ex_trans hyc2 hyc3).size) ((hh_yc2.below hyc3).up hyc3.size) hi_yc3 hc1_yc3 hc2_yc3 HIC1.out).mono ?_
    rintro e yc4 ⟨⟨ks1, sv1, rfl, HS1⟩, hyc4⟩
    have B_yc := ex_trans B_yc3 hyc4
    have I_yc := ex_trans I_yc3 hyc4
    have X_yc := ex_trans (ex_trans (ex_trans hyc1 hyc2) hyc3) hyc4
    clear hg_yc1 hh_yc2 hi_yc3
    replace p1 := p1.below X_yc l1
    clear a0 a1 a2 a3 a4 l1
    have Kyc_X := ex_trans I_yb X_yc
    have a0 : yc4.cell? ⟨w.heap.size, 0, none⟩ = some (.int .i64 g.base) := p1.cell 0
    have a1 : yc4.cell? ⟨w.heap.size, 1, none⟩ = some (.slice Ab g.bands.length cb) := p1.cell 1
    have a2 : yc4.cell? ⟨w.heap.size, 2, none⟩ = some (.slice Ad g.depths.length cd) := p1.cell 2
    have a3 : yc4.cell? ⟨w.heap.size, 3, none⟩ = some (.int .i64 g.blo) := p1.cell 3
    have a4 : yc4.cell? ⟨w.heap.size, 4, none⟩ = some (.int .i64 g.bhi) := p1.cell 4
    have l1 := p1.lt
    go_wp2_with fail
    refine (Glass_any g _ _ _ _ yc4 ((hg.below B_yc).up B_yc.size) (by omega) (by omega)).mono ?_
    rintro e yd1 ⟨⟨Ab_yd1, Ad_yd1, cb_yd1, cd_yd1, rfl, hg_yd1⟩, hyd1⟩
    have B_yd1 := ex_trans B_yc hyd1
    go_wp2_with fail
    refine (History_any _ _ h yd1 (by omega) ((hh.below B_yd1).up B_yd1.size)).mono ?_
    rintro e yd2 ⟨⟨Ah_yd2, ch_yd2, rfl, _, _, hh_yd2⟩, hyd2⟩
    have B_yd2 := ex_trans B_yd1 hyd2
    have I_yd2 := ex_trans Kyc_X (ex_trans hyd1 hyd2)
    go_wp2_with fail
    refine (Ices_any _ _ X yd2 (by omega) ((hs2.below I_yd2).up I_yd2.size)).mono ?_
    rintro e yd3 ⟨⟨Ai_yd3, ci_yd3, rfl, hc1_yd3, hc2_yd3, hi_yd3⟩, hyd3⟩
    have B_yd3 := ex_trans B_yd2 hyd3
    have I_yd3 := ex_trans I_yd2 hyd3
    go_wp2_with fail
    refine (Shows_v g _ _ _ _ _ _ _ _ h X _ ((hg_yd1.below (ex_trans hyd2 hyd3)).up (ex_trans hyd2 hyd3).size) ((hh_yd2.below hyd3).up hyd3.size) hi_yd3 hc1_yd3 hc2_yd3 HIC2.out).mono ?_
    rintro e yd4 ⟨⟨ks2, sv2, rfl, HS2⟩, hyd4⟩
    have B_yd := ex_trans B_yd3 hyd4
    have I_yd := ex_trans I_yd3 hyd4
    have X_yd := ex_trans (ex_trans (ex_trans hyd1 hyd2) hyd3) hyd4
    clear hg_yd1 hh_yd2 hi_yd3
    replace p1 := p1.below X_yd l1
    clear a0 a1 a2 a3 a4 l1
    have Kyd_l := ex_trans I_yc X_yd
    have a0 : yd4.cell? ⟨w.heap.size, 0, none⟩ = some (.int .i64 g.base) := p1.cell 0
    have a1 : yd4.cell? ⟨w.heap.size, 1, none⟩ = some (.slice Ab g.bands.length cb) := p1.cell 1
    have a2 : yd4.cell? ⟨w.heap.size, 2, none⟩ = some (.slice Ad g.depths.length cd) := p1.cell 2
    have a3 : yd4.cell? ⟨w.heap.size, 3, none⟩ = some (.int .i64 g.blo) := p1.cell 3
    have a4 : yd4.cell? ⟨w.heap.size, 4, none⟩ = some (.int .i64 g.bhi) := p1.cell 4
    have l1 := p1.lt
    go_wp2_with fail
    refine (Glass_any g _ _ _ _ yd4 ((hg.below B_yd).up B_yd.size) (by omega) (by omega)).mono ?_
    rintro e ye1 ⟨⟨Ab_ye1, Ad_ye1, cb_ye1, cd_ye1, rfl, hg_ye1⟩, hye1⟩
    have B_ye1 := ex_trans B_yd hye1
    go_wp2_with fail
    refine (History_any _ _ h ye1 (by omega) ((hh.below B_ye1).up B_ye1.size)).mono ?_
    rintro e ye2 ⟨⟨Ah_ye2, ch_ye2, rfl, _, _, hh_ye2⟩, hye2⟩
    have B_ye2 := ex_trans B_ye1 hye2
    have I_ye2 := ex_trans Kyd_l (ex_trans hye1 hye2)
    go_wp2_with fail
    refine (Ices_any _ _ l ye2 (by omega) ((hi.below I_ye2).up I_ye2.size)).mono ?_
    rintro e ye3 ⟨⟨Ai_ye3, ci_ye3, rfl, hc1_ye3, hc2_ye3, hi_ye3⟩, hye3⟩
    have B_ye3 := ex_trans B_ye2 hye3
    have I_ye3 := ex_trans I_ye2 hye3
    go_wp2_with fail
    refine (Fewest_v g _ _ _ _ _ _ _ _ h l _ ((hg_ye1.below (ex_trans hye2 hye3)).up (ex_trans hye2 hye3).size) ((hh_ye2.below hye3).up hye3.size) hi_ye3 HIC1.out).mono ?_
    rintro e ye4 ⟨⟨Af1, cf1, fr1, rfl, HF1, sf1⟩, hye4⟩
    have B_ye := ex_trans B_ye3 hye4
    have I_ye := ex_trans I_ye3 hye4
    have X_ye := ex_trans (ex_trans (ex_trans hye1 hye2) hye3) hye4
    clear hg_ye1 hh_ye2 hi_ye3
    replace p1 := p1.below X_ye l1
    clear a0 a1 a2 a3 a4 l1
    have Kye_X := ex_trans I_yd X_ye
    have a0 : ye4.cell? ⟨w.heap.size, 0, none⟩ = some (.int .i64 g.base) := p1.cell 0
    have a1 : ye4.cell? ⟨w.heap.size, 1, none⟩ = some (.slice Ab g.bands.length cb) := p1.cell 1
    have a2 : ye4.cell? ⟨w.heap.size, 2, none⟩ = some (.slice Ad g.depths.length cd) := p1.cell 2
    have a3 : ye4.cell? ⟨w.heap.size, 3, none⟩ = some (.int .i64 g.blo) := p1.cell 3
    have a4 : ye4.cell? ⟨w.heap.size, 4, none⟩ = some (.int .i64 g.bhi) := p1.cell 4
    have l1 := p1.lt
    go_wp2_with fail
    refine (Glass_any g _ _ _ _ ye4 ((hg.below B_ye).up B_ye.size) (by omega) (by omega)).mono ?_
    rintro e yf1 ⟨⟨Ab_yf1, Ad_yf1, cb_yf1, cd_yf1, rfl, hg_yf1⟩, hyf1⟩
    have B_yf1 := ex_trans B_ye hyf1
    go_wp2_with fail
    refine (History_any _ _ h yf1 (by omega) ((hh.below B_yf1).up B_yf1.size)).mono ?_
    rintro e yf2 ⟨⟨Ah_yf2, ch_yf2, rfl, _, _, hh_yf2⟩, hyf2⟩
    have B_yf2 := ex_trans B_yf1 hyf2
    have I_yf2 := ex_trans Kye_X (ex_trans hyf1 hyf2)
    go_wp2_with fail
    refine (Ices_any _ _ X yf2 (by omega) ((hs2.below I_yf2).up I_yf2.size)).mono ?_
    rintro e yf3 ⟨⟨Ai_yf3, ci_yf3, rfl, hc1_yf3, hc2_yf3, hi_yf3⟩, hyf3⟩
    have B_yf3 := ex_trans B_yf2 hyf3
    have I_yf3 := ex_trans I_yf2 hyf3
    go_wp2_with fail
    refine (Fewest_v g _ _ _ _ _ _ _ _ h X _ ((hg_yf1.below (ex_trans hyf2 hyf3)).up (ex_trans hyf2 hyf3).size) ((hh_yf2.below hyf3).up hyf3.size) hi_yf3 HIC2.out).mono ?_
    rintro e yf4 ⟨⟨Af2, cf2, fr2, rfl, HF2, sf2⟩, hyf4⟩
    have B_yf := ex_trans B_yf3 hyf4
    have I_yf := ex_trans I_yf3 hyf4
    have X_yf := ex_trans (ex_trans (ex_trans hyf1 hyf2) hyf3) hyf4
    clear hg_yf1 hh_yf2 hi_yf3
    replace p1 := p1.below X_yf l1
    clear a0 a1 a2 a3 a4 l1
    have Kyf_l := ex_trans I_ye X_yf
    have hM := more_all HK.out hN.out HFX.out HXL.out HZ1.out HZ2.out HS1.out HS2.out HF1.out HF2.out
    have hw1 : IntKind.i64.wrap ((l.length : Int) + 1) = (l.length : Int) + 1 := IntWalk.i64_in _ (by omega)
    have Y1 := ex_trans (ex_trans (ex_trans (ex_trans X_yb X_yc) X_yd) X_ye) X_yf
    have Y2 := ex_trans (ex_trans (ex_trans X_yc X_yd) X_ye) X_yf
    have HN6 : Hid (n1 ≤ h.length) := Lib.hid (by rcases HZ1.out with ⟨_, _, h1⟩ | ⟨_, _, h1, _⟩ <;> omega)
    clear HZ1 HZ2 HS1 HS2 HF1 HF2 sf1 sf2
    rcases hM with ⟨rfl, rfl, rfl, rfl, rfl, rfl, rfl, hin⟩ | ⟨rfl, rfl, rfl, rfl, rfl, m1, m2⟩ | ⟨rfl, rfl, rfl, rfl, kk, m0, m1, m2⟩
    · have HIN := Lib.hid hin
      clear hin
      have d1 : decide ((l.length : Int) + 1 < 0) = false := decide_eq_false (by omega)
      have hn16 : n1 ≤ 1000000 := (by have := HN6.out; omega)
      go_wp2_with fail
      refine (within_yes _ _ _ _ n1 _ _ _ hn16 ((sz2.below Y2).up Y2.size) ((sz1.below Y1).up Y1.size) HIN.out).mono ?_
      rintro e x1 ⟨rfl, hx1⟩
      go_wp2_with fail
      refine (awake_any _).mono ?_
      rintro e x2 ⟨rfl, hx2⟩
      go_wp2
      go_ret
      exact ⟨rfl, ex_trans (ex_trans B_yf hx1) hx2⟩
    · have d1 : decide ((l.length : Int) + 1 < (fr2.length : Int)) = false := decide_eq_false (by omega)
      have d2 : decide (l.length + 1 < fr2.length) = false := decide_eq_false (by omega)
      have d3 : ((fr2.length : Int) == 0) = false := by rw [beq_eq_false_iff_ne]; omega
      have d4 : (fr2.length == 0) = false := by rw [beq_eq_false_iff_ne]; omega
      have d5 : decide ((fr2.length : Int) < 0) = false := decide_eq_false (by omega)
      go_wp2_with fail
      refine (awake_any _).mono ?_
      rintro e x2 ⟨rfl, hx2⟩
      go_wp2
      go_ret
      exact ⟨rfl, ex_trans B_yf hx2⟩
    · have d1 : decide ((l.length : Int) + 1 < (fr2.length : Int)) = false := decide_eq_false (by omega)
      have d2 : decide (l.length + 1 < fr2.length) = false := decide_eq_false (by omega)
      have d3 : ((fr2.length : Int) == 0) = false := by rw [beq_eq_false_iff_ne]; omega
      have d4 : (fr2.length == 0) = false := by rw [beq_eq_false_iff_ne]; omega
      have d5 : decide ((fr2.length : Int) < (fr1.length : Int)) = false := decide_eq_false (by omega)
      have d6 : decide (fr2.length < fr1.length) = false := decide_eq_false (by omega)
      have d7 : ((fr1.length : Int) == 0) = false := by rw [beq_eq_false_iff_ne]; omega
      have d8 : (fr1.length == 0) = false := by rw [beq_eq_false_iff_ne]; omega
      have d9 : decide (ks1 < ks2) = false := decide_eq_false (by omega)
      go_wp2_with fail
      refine (awake_any _).mono ?_
      rintro e x2 ⟨rfl, hx2⟩
      go_wp2
      go_ret
      exact ⟨rfl, ex_trans B_yf hx2⟩

end Go.Proofs.Ytlgmeofpkfliaaa
end

section
namespace Go.Proofs.Ytlgmeofpkfliaaa.glassMore
open Go.ChangeShapes Go.WideShapes Go.ChangeAt Go.RowKit
set_option linter.unusedVariables false

set_option maxRecDepth 100000 in
theorem lifted (os : Os) (started : os.Started) (H : Type) (enc : TypeId × Value → H) :
    ReturnsInHanded {} Try.checked os 6 .any (Rows.glassMoreSpec.pre6 enc Try.prog Try.f6 Rows.glassMoreRow.domain false) (Rows.glassMoreSpec.post enc Try.prog Try.f6 false true false false) := by
  refine returnsInHanded_of_change (C := Try.checked) own started (by kernel_rfl) Try.func6
    (ChangeSpec.witness6 (enc := enc) (C := Try.checked) false ⟨#[], #[.agg #[.int .i64 0, .slice none 0 0, .slice none 0 0, .int .i64 0, .int .i64 0], .slice none 0 0, .slice none 0 0, .int .u8 0, .int .u8 0, .agg #[.int .i64 0, .int .i64 0, .int .i64 0], .int .u8 0], []⟩ 8 (by kernel_rfl) (by kernel_rfl) (by kernel_rfl) (by kernel_rfl)) ?_
  intro W base args ds gs before hval0 hW hcnd _
  have hval : ∀ (j : Nat) t v, Try.f6.params[j]? = some t → args[j]? = some v → Value.okWide Try.prog W .any base t v := hval0
  have hW0 := hW
  obtain ⟨p, q, hA0, hV, rfl, hfz, hnd⟩ := hW
  have hA : DataW.TrodAll enc Try.prog W 0 (fun _ => true) true Try.f6.params.toList args.toList ds p := hA0
  rw [Try.params6] at hA hval
  obtain ⟨v0, vs0, d0, ds0, p0, q0, ea0, ed0, ep0, h0, hA0⟩ := trodAll_cons hA
  obtain ⟨v1, vs1, d1, ds1, p1, q1, ea1, ed1, ep1, h1, hA1⟩ := trodAll_cons hA0
  obtain ⟨v2, vs2, d2, ds2, p2, q2, ea2, ed2, ep2, h2, hA2⟩ := trodAll_cons hA1
  obtain ⟨v3, vs3, d3, ds3, p3, q3, ea3, ed3, ep3, h3, hA3⟩ := trodAll_cons hA2
  obtain ⟨v4, vs4, d4, ds4, p4, q4, ea4, ed4, ep4, h4, hA4⟩ := trodAll_cons hA3
  obtain ⟨v5, vs5, d5, ds5, p5, q5, ea5, ed5, ep5, h5, hA5⟩ := trodAll_cons hA4
  obtain ⟨v6, vs6, d6, ds6, p6, q6, ea6, ed6, ep6, h6, hA6⟩ := trodAll_cons hA5
  obtain ⟨ea, ed, ep⟩ := trodAll_nil hA6
  have eargs : args = #[v0, v1, v2, v3, v4, v5, v6] := by rw [← Array.toArray_toList (xs := args), ea0, ea1, ea2, ea3, ea4, ea5, ea6, ea]
  have eds : ds = [d0, d1, d2, d3, d4, d5, d6] := by rw [ed0, ed1, ed2, ed3, ed4, ed5, ed6, ed]
  subst eargs eds
  obtain ⟨rfl, rfl⟩ := trodVars_none hV
  obtain ⟨g, Ab, Ad, cb, cd, rfl, _, hg⟩ := open_glass (hval 0 _ _ rfl rfl) h0
  obtain ⟨Ah, h, ch, rfl, _, _, hh⟩ := open_rgs (hval 1 _ _ rfl rfl) h1
  obtain ⟨Aw, ws, cw, rfl, hwl, hw, hwb⟩ := open_words (hval 2 _ _ rfl rfl) h2
  obtain ⟨m3, rfl, hm3⟩ := open_int Try.underlying5 (hval 3 _ _ rfl rfl) h3
  obtain ⟨m4, rfl, hm4⟩ := open_int Try.underlying5 (hval 4 _ _ rfl rfl) h4
  obtain ⟨ic, rfl⟩ := open_ic (hval 5 _ _ rfl rfl) h5
  obtain ⟨m6, rfl, hm6⟩ := open_int Try.underlying5 (hval 6 _ _ rfl rfl) h6
  refine (MoreLaw_any g Ab Ad Ah Aw cb cd ch cw h ws W hg hh hw hwb hwl m3 m4 ic m6 (wf_u8 hm3) (wf_u8 hm4) (wf_u8 hm6)).mono fun e W' he => ?_
  obtain ⟨rfl, hb⟩ := he
  exact ⟨_, rfl, post_law rfl hW0 rfl rfl ⟨⟨by kernel_rfl, of_decide_eq_true (by kernel_rfl)⟩, ⟨by kernel_rfl, of_decide_eq_true (by kernel_rfl)⟩, ⟨by kernel_rfl, of_decide_eq_true (by kernel_rfl)⟩, ⟨by kernel_rfl, of_decide_eq_true (by kernel_rfl)⟩, ⟨by kernel_rfl, of_decide_eq_true (by kernel_rfl)⟩, ⟨by kernel_rfl, of_decide_eq_true (by kernel_rfl)⟩, ⟨by kernel_rfl, of_decide_eq_true (by kernel_rfl)⟩, trivial⟩ hb⟩

theorem over : Rows.glassMoreRow.holds Try.pinned (OpenSpec.ofChange Rows.glassMoreSpec) :=
  OpenClaim.holds_of_wide 6 Try.f6 rfl rfl rfl rfl rfl rfl rfl ⟨rfl, rfl, rfl, rfl, rfl⟩ rfl rfl rfl rfl rfl (by kernel_rfl) Try.func6 (by kernel_rfl)
    (of_decide_eq_true (by kernel_rfl)) (by unfold Func.isWrapper; first | (rw [if_pos (by decide +kernel)]; kernel_rfl) | (rw [if_neg (by decide +kernel)]; exact ⟨rfl, rfl⟩))
    (fun os started H enc _ => lifted os started H enc)

/-- the statement. -/
theorem proved : Rows.GlassMoreSaid :=
  over
#print axioms proved
end Go.Proofs.Ytlgmeofpkfliaaa.glassMore
end
