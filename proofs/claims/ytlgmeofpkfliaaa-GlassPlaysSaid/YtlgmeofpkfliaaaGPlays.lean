/- The reference's Play (walk). · The law GlassPlays (walk). · The law GlassPlays (walk of what it compares). · The row GlassPlays: any glass, any history, any truth. -/
import Derived.WalkKit
import Derived.ProofKit
import Derived.OpenShut
import Derived.Test.YtlgmeofpkfliaaaGh
import Derived.Test.YtlgmeofpkfliaaaGa
import Derived.Test.YtlgmeofpkfliaaaGf
import Derived.Test.YtlgmeofpkfliaaaRows
set_option linter.unusedVariables false
set_option linter.unusedSimpArgs false
set_option linter.unusedSectionVars false
section
namespace Go.Proofs.Ytlgmeofpkfliaaa
open Go.RowKit
attribute [local go_sem] Ex.cell? Ex.frozen? Gx.cell?

set_option maxRecDepth 100000 in
set_option maxHeartbeats 3200000 in
theorem PlayR_any (g : Gl) (Ab Ad : Option Addr) (cb cd : Nat) (h : List Rg) (w : World) (hg : GlIn w w.heap.size g Ab Ad) (A1 A2 A3 : Option Addr) (c1 c2 c3 : Nat) (t1 t2 t3 : List Int) (k1 : SlAt w w.heap.size 1 A1 t1.length (fI t1)) (k2 : SlAt w w.heap.size 1 A2 t2.length (fI t2)) (k3 : SlAt w w.heap.size 1 A3 t3.length (fI t3)) (hok : Ok g h) (ht : truthB g h t1 t2 t3 = true) :
    Calls Try.prog 45 #[.agg #[.int .i64 g.base, .slice Ab g.bands.length cb, .slice Ad g.depths.length cd, .int .i64 g.blo, .int .i64 g.bhi], .agg #[.slice A1 t1.length c1, .slice A2 t2.length c2, .slice A3 t3.length c3]] w fun e w' =>
      (∃ v, e = .returned v ∧ w'.ownsRow w.heap.size 3 1 v (playTo g t1 t2 t3 h.length).length ((playTo g t1 t2 t3 h.length).map (Value.int .i64))) ∧ Below w.heap.size w w' := by
  obtain ⟨i0, hi0, hz0, hz1, hz2⟩ := info_parts int_info
  have HI := Lib.hid hi0
  have hb1 := ex_alloc (ex_alloc (Below.refl w.heap.size w) (.cells #[.int .i64 g.base, .slice Ab g.bands.length cb, .slice Ad g.depths.length cd, .int .i64 g.blo, .int .i64 g.bhi] 27)) (.cells #[.slice A1 t1.length c1, .slice A2 t2.length c2, .slice A3 t3.length c3] 56)
  have HT := Lib.hid (truthB_iff.1 ht)
  have HK := Lib.hid hok
  have hnh := hok.nh.2
  clear ht hok hi0
  go_enter Try.func45, Try.ntmps45
  go_wp2_with fail
  go_loopw [5, 6, 7, 8] (fun r s v i wr => ∃ k : Nat, k ≤ h.length ∧ i = .int .i64 k ∧ r = .int .i64 (riseTo t2 k) ∧ s = .int .i64 (sinkTo g t1 t3 k) ∧ Below w.heap.size w wr ∧
      Blk wr w.heap.size 27 #[.int .i64 g.base, .slice Ab g.bands.length cb, .slice Ad g.depths.length cd, .int .i64 g.blo, .int .i64 g.bhi] ∧ Blk wr (w.heap.size + 1) 56 #[.slice A1 t1.length c1, .slice A2 t2.length c2, .slice A3 t3.length c3] ∧
      wr.ownsRow (w.heap.size + 1 + 1) 3 1 v (playTo g t1 t2 t3 k).length ((playTo g t1 t2 t3 k).map (Value.int .i64)))
    (fun _ _ _ i _ => h.length - (intOf i).toNat)
  case atStart => exact ⟨0, by omega, rfl, rfl, rfl, hb1, (Blk.new _ _ _).alloc _, Blk.new' _ _ _ (by simp), by simp [playTo], .inl ⟨rfl, by simp [playTo]⟩⟩
  case round =>
    obtain ⟨k, hk, rfl, rfl, rfl, hbl, hq1, hq2, hown⟩ := hrel
    have d0 : wr.cell? ⟨w.heap.size + 1, 0, none⟩ = some (.slice A1 t1.length c1) := hq2.cell 0
    have d1 : wr.cell? ⟨w.heap.size + 1, 1, none⟩ = some (.slice A2 t2.length c2) := hq2.cell 1
    have d2 : wr.cell? ⟨w.heap.size + 1, 2, none⟩ = some (.slice A3 t3.length c3) := hq2.cell 2
    have l1 := hq1.lt
    have l2 := hq2.lt
    by_cases hlt : k < h.length
    · have a0 : wr.cell? ⟨w.heap.size, 0, none⟩ = some (.int .i64 g.base) := hq1.cell 0
      have a1 : wr.cell? ⟨w.heap.size, 1, none⟩ = some (.slice Ab g.bands.length cb) := hq1.cell 1
      have a2 : wr.cell? ⟨w.heap.size, 2, none⟩ = some (.slice Ad g.depths.length cd) := hq1.cell 2
      have a3 : wr.cell? ⟨w.heap.size, 3, none⟩ = some (.int .i64 g.blo) := hq1.cell 3
      have a4 : wr.cell? ⟨w.heap.size, 4, none⟩ = some (.int .i64 g.bhi) := hq1.cell 4
      obtain ⟨b1, o1, rfl, hbb1, p3⟩ := IsInts.at_ (k1.below hbl) (show k < t1.length by rw [HT.out.1.1]; exact hlt)
      obtain ⟨b2, o2, rfl, hbb2, p4⟩ := IsInts.at_ (k2.below hbl) (show k < t2.length by rw [HT.out.1.2.1]; exact hlt)
      obtain ⟨b3, o3, rfl, hbb3, p5⟩ := IsInts.at_ (k3.below hbl) (show k < t3.length by rw [HT.out.1.2.2]; exact hlt)
      have z1 : k < t1.length := by rw [HT.out.1.1]; exact hlt
      have z2 : k < t2.length := by rw [HT.out.1.2.1]; exact hlt
      have z3 : k < t3.length := by rw [HT.out.1.2.2]; exact hlt
      have hBr : w.heap.size ≤ wr.heap.size := hbl.size
      have m1 : b1 < wr.heap.size := by omega
      have m2 : b2 < wr.heap.size := by omega
      have m3 : b3 < wr.heap.size := by omega
      have hl5 : g.depths.length ≤ 1000000 := by have := HK.out.nd; omega
      have r0 := dayOk_iff.1 (HT.out.2 k hlt)
      have r1 : 0 ≤ riseTo t2 k ∧ riseTo t2 k ≤ 100000 := by have := riseTo_bd HK.out HT.out.2 hk; omega
      have r2 : 0 ≤ sinkTo g t1 t3 k ∧ sinkTo g t1 t3 k ≤ 100000 := by have := sinkTo_bd HK.out HT.out.2 hk; omega
      have r3 : 0 ≤ gI t2 k ∧ gI t2 k ≤ 100000 := by have := HK.out.creep k; omega
      have r4 : 0 ≤ gI t3 k ∧ gI t3 k ≤ 100000 := by have := HK.out.back; omega
      have r5 : -1000 ≤ g.base ∧ g.base ≤ 1000 := HK.out.base
      clear r0
      have hR := Lib.hid (show riseTo t2 (k + 1) = riseTo t2 k + gI t2 k from rfl)
      have hS := Lib.hid (show sinkTo g t1 t3 (k + 1) = mx3 (sinkTo g t1 t3 k - gI t3 k) 0 (sinksTo g.depths (gI t1 k) g.depths.length) from rfl)
      have hrk : 0 ≤ riseTo t2 k + gI t2 k ∧ riseTo t2 k + gI t2 k ≤ 100000 := by have := riseTo_bd HK.out HT.out.2 (d := k + 1) (by omega); rw [hR.out] at this; omega
      have hsk : 0 ≤ mx3 (sinkTo g t1 t3 k - gI t3 k) 0 (sinksTo g.depths (gI t1 k) g.depths.length) ∧ mx3 (sinkTo g t1 t3 k - gI t3 k) 0 (sinksTo g.depths (gI t1 k) g.depths.length) ≤ 100000 := by have := sinkTo_bd HK.out HT.out.2 (d := k + 1) (by omega); rw [hS.out] at this; omega
      go_wp2_with fail
      refine wp_region_ext_mix 15 [(false, 0), (false, 1), (false, 2), (false, 3), (false, 4), (false, 5), (false, 6), (false, 7), (false, 8), (false, 9), (false, 10), (false, 11), (false, 12), (true, 13), (true, 14)] (by kernel_rfl) (by kernel_rfl) (by intro d _ _ _ _ h; cases d <;> exact h) ?_
      have hX0 := (Below.refl wr.heap.size wr).drew
      repeat (refine mix_quiet rfl ?_; go_big_quiet_step (fail); refine wpQuiet_nil ?_)
      refine mix_loud rfl ?_
      go_wp2_with fail
      refine (SinksR_any g _ _ _ _ _ wr.drew ((hg.below (ex_trans hbl hX0)).up (ex_trans hbl hX0).size) hl5).mono ?_
      rintro e x1 ⟨rfl, hx1⟩
      have hX1 := ex_trans hX0 hx1
      go_wp2_with fail
      refine ⟨inEx hX1, ?_⟩
      refine mix_loud rfl ?_
      refine wpList_max3 _ rfl _ _ _ _ rfl (sinkTo g t1 t3 k - gI t3 k) 0 (sinksTo g.depths (gI t1 k) g.depths.length) rfl rfl rfl ?_
      generalize mx3 (sinkTo g t1 t3 k - gI t3 k) 0 (sinksTo g.depths (gI t1 k) g.depths.length) = sk at *
      refine ⟨inEx hX1, ?_⟩
      refine mix_nil rfl ?_
      have hB1 := ex_trans hbl hX1
      have y1 := hq1.below hX1 l1
      have y2 := hq2.below hX1 l2
      have n0 : x1.cell? ⟨w.heap.size, 0, none⟩ = some (.int .i64 g.base) := y1.cell 0
      have hown1 := own_below hown hX1
      generalize riseTo t2 k + gI t2 k = rk at *
      have y4 := hown1.alloc (.cells #[.int .i64 (g.base + rk - sk)] 3)
      have hlen : (playTo g t1 t2 t3 k).length = k := playTo_len
      have c63 : (playTo g t1 t2 t3 k).length + 1 ≤ maxLen := by rw [hlen]; unfold maxLen; omega
      have cby : ((playTo g t1 t2 t3 k).length + 1) * 8 ≤ 140737488355328 := by rw [hlen]; omega
      have HLEN := Lib.hid hlen
      clear hlen
      have hbase3 : w.heap.size + 1 + 1 ≤ x1.heap.size + 1 := by have := y2.lt; omega
      go_wp2_with (at_builtin; refine wpList_append_lies _ rfl _ _ _ rfl (w.heap.size + 1 + 1) 3 i0 _ 1 8 Try.underlying54 HI.out hz0 hz1 hz2 rfl (by omega) u7 _ _ rfl y4 ⟨x1.heap.size, 0, none⟩ 1 1 [.int .i64 (g.base + rk - sk)] rfl rfl (World.news_of_block (heap_alloc_new x1 _)) (by simp [Value.oneCell']) (by omega) c63 cby (by simpa using hbase3) (x1.heap.size + 1) (by simp) ?_; intro gg cap w1 hown' hgrow hat hlt')
      go_roundw
      case rel =>
        have hz : zAt g t1 t2 t3 k = g.base + rk - sk := by unfold zAt; rw [hR.out, hS.out]
        refine ⟨k + 1, by omega, by go_num, by rw [hR.out], by rw [hS.out], (ex_alloc hB1 _).grown hgrow (by simp; omega) (fun j hj => Nat.le_trans (by omega) (own_ge hown1 hj)), (y1.alloc _).grown hgrow (own_blk hown1 (by omega)), (y2.alloc _).grown hgrow (own_blk hown1 (by omega)), ?_⟩
        rw [playTo_succ, hz]; exact own_snoc rfl hown'
      case measure => simp [intOf]; omega
    · have HK2 : Hid (k = h.length) := Lib.hid (by omega)
      have z1 : ¬ k < t1.length := by rw [HT.out.1.1]; exact hlt
      go_wp2
      go_ret
      exact ⟨⟨_, rfl, by rw [← HK2.out]; exact own_base hown (by omega)⟩, hbl⟩

end Go.Proofs.Ytlgmeofpkfliaaa
end

section
namespace Go.Proofs.Ytlgmeofpkfliaaa
open Go.RowKit
attribute [local go_sem] Ex.cell? Ex.frozen? Gx.cell?

theorem ints_self (l : List Int) : intsB l l = true := decide_eq_true rfl

set_option maxRecDepth 100000 in
set_option maxHeartbeats 1600000 in
theorem Plays_far (g : Gl) (Ab Ad Ah : Option Addr) (cb cd ch : Nat) (h : List Rg) (w : World) (A1 A2 A3 : Option Addr) (c1 c2 c3 : Nat) (t1 t2 t3 : List Int) (k1 : SlAt w w.heap.size 1 A1 t1.length (fI t1)) (k2 : SlAt w w.heap.size 1 A2 t2.length (fI t2)) (k3 : SlAt w w.heap.size 1 A3 t3.length (fI t3)) (hn : ¬ (thinB g.bands.length g.depths.length h.length 0 = true ∧ t1.length ≤ 22 ∧ t2.length ≤ 22 ∧ t3.length ≤ 22)) :
    Calls Try.prog 11 #[.agg #[.int .i64 g.base, .slice Ab g.bands.length cb, .slice Ad g.depths.length cd, .int .i64 g.blo, .int .i64 g.bhi], .slice Ah h.length ch, .agg #[.slice A1 t1.length c1, .slice A2 t2.length c2, .slice A3 t3.length c3]] w fun e w' => e = .returned (.bool true) ∧ Below w.heap.size w w' := by
  have hb1 := ex_alloc (ex_alloc (Below.refl w.heap.size w) (.cells #[.int .i64 g.base, .slice Ab g.bands.length cb, .slice Ad g.depths.length cd, .int .i64 g.blo, .int .i64 g.bhi] 27)) (.cells #[.slice A1 t1.length c1, .slice A2 t2.length c2, .slice A3 t3.length c3] 56)
  have q2 : Blk ((w.alloc (.cells #[.int .i64 g.base, .slice Ab g.bands.length cb, .slice Ad g.depths.length cd, .int .i64 g.blo, .int .i64 g.bhi] 27)).alloc (.cells #[.slice A1 t1.length c1, .slice A2 t2.length c2, .slice A3 t3.length c3] 56)) (w.heap.size + 1) 56 #[.slice A1 t1.length c1, .slice A2 t2.length c2, .slice A3 t3.length c3] := Blk.new' _ _ _ (by simp)
  have HN := Lib.hid hn
  clear hn
  cases hth : thinB g.bands.length g.depths.length h.length 0
  · have HTH := Lib.hid hth
    clear hth
    go_enter Try.func11, Try.ntmps11
    go_wp2_with fail
    refine (Thin_any _ _ _ _ _ _ _ _ _ _ 0 _ _ _ _ _).mono ?_
    rintro e w2 ⟨rfl, hb2⟩
    rw [HTH.out]
    go_wp2_with fail
    refine (awake_any _).mono ?_
    rintro e w3 ⟨rfl, hb3⟩
    go_wp2
    go_ret
    exact ⟨rfl, ex_trans (ex_trans hb1 hb2) hb3⟩
  have HTH := Lib.hid hth
  clear hth
  by_cases h1 : 22 < t1.length
  · have e1 : decide (22 < t1.length) = true := decide_eq_true h1
    have e1' : decide ((22 : Int) < (t1.length : Int)) = true := decide_eq_true (by omega)
    go_enter Try.func11, Try.ntmps11
    go_wp2_with fail
    refine (Thin_any _ _ _ _ _ _ _ _ _ _ 0 _ _ _ _ _).mono ?_
    rintro e w2 ⟨rfl, hb2⟩
    rw [HTH.out]
    have p2 := q2.below hb2 q2.lt
    have d0 : w2.cell? ⟨w.heap.size + 1, 0, none⟩ = some (.slice A1 t1.length c1) := p2.cell 0
    have l2 := p2.lt
    go_wp2_with fail
    refine (awake_any _).mono ?_
    rintro e w3 ⟨rfl, hb3⟩
    go_wp2
    go_ret
    exact ⟨rfl, ex_trans (ex_trans hb1 hb2) hb3⟩
  have e1 : decide (22 < t1.length) = false := decide_eq_false h1
  have e1' : decide ((22 : Int) < (t1.length : Int)) = false := decide_eq_false (by omega)
  by_cases h2 : 22 < t2.length
  · have e2 : decide (22 < t2.length) = true := decide_eq_true h2
    have e2' : decide ((22 : Int) < (t2.length : Int)) = true := decide_eq_true (by omega)
    go_enter Try.func11, Try.ntmps11
    go_wp2_with fail
    refine (Thin_any _ _ _ _ _ _ _ _ _ _ 0 _ _ _ _ _).mono ?_
    rintro e w2 ⟨rfl, hb2⟩
    rw [HTH.out]
    have p2 := q2.below hb2 q2.lt
    have d0 : w2.cell? ⟨w.heap.size + 1, 0, none⟩ = some (.slice A1 t1.length c1) := p2.cell 0
    have d1 : w2.cell? ⟨w.heap.size + 1, 1, none⟩ = some (.slice A2 t2.length c2) := p2.cell 1
    have l2 := p2.lt
    go_wp2_with fail
    refine (awake_any _).mono ?_
    rintro e w3 ⟨rfl, hb3⟩
    go_wp2
    go_ret
    exact ⟨rfl, ex_trans (ex_trans hb1 hb2) hb3⟩
  have e2 : decide (22 < t2.length) = false := decide_eq_false h2
  have e2' : decide ((22 : Int) < (t2.length : Int)) = false := decide_eq_false (by omega)
  have h3 : 22 < t3.length := by
    refine Classical.byContradiction fun h3 => HN.out ⟨HTH.out, by omega, by omega, by omega⟩
  have e3 : decide (22 < t3.length) = true := decide_eq_true h3
  have e3' : decide ((22 : Int) < (t3.length : Int)) = true := decide_eq_true (by omega)
  go_enter Try.func11, Try.ntmps11
  go_wp2_with fail
  refine (Thin_any _ _ _ _ _ _ _ _ _ _ 0 _ _ _ _ _).mono ?_
  rintro e w2 ⟨rfl, hb2⟩
  rw [HTH.out]
  have p2 := q2.below hb2 q2.lt
  have d0 : w2.cell? ⟨w.heap.size + 1, 0, none⟩ = some (.slice A1 t1.length c1) := p2.cell 0
  have d1 : w2.cell? ⟨w.heap.size + 1, 1, none⟩ = some (.slice A2 t2.length c2) := p2.cell 1
  have d2 : w2.cell? ⟨w.heap.size + 1, 2, none⟩ = some (.slice A3 t3.length c3) := p2.cell 2
  have l2 := p2.lt
  go_wp2_with fail
  refine (awake_any _).mono ?_
  rintro e w3 ⟨rfl, hb3⟩
  go_wp2
  go_ret
  exact ⟨rfl, ex_trans (ex_trans hb1 hb2) hb3⟩

end Go.Proofs.Ytlgmeofpkfliaaa
end

section
namespace Go.Proofs.Ytlgmeofpkfliaaa
open Go.RowKit
attribute [local go_sem] Ex.cell? Ex.frozen? Gx.cell?

set_option maxRecDepth 100000 in
set_option maxHeartbeats 3200000 in
theorem Plays_no (g : Gl) (Ab Ad Ah : Option Addr) (cb cd ch : Nat) (h : List Rg) (w : World) (hg : GlIn w w.heap.size g Ab Ad) (hh : SlAt w w.heap.size 2 Ah h.length (fR h)) (A1 A2 A3 : Option Addr) (c1 c2 c3 : Nat) (t1 t2 t3 : List Int) (k1 : SlAt w w.heap.size 1 A1 t1.length (fI t1)) (k2 : SlAt w w.heap.size 1 A2 t2.length (fI t2)) (k3 : SlAt w w.heap.size 1 A3 t3.length (fI t3)) (hth : thinB g.bands.length g.depths.length h.length 0 = true) (h1 : t1.length ≤ 22) (h2 : t2.length ≤ 22) (h3 : t3.length ≤ 22) (hne : lived g h ≠ 0) :
    Calls Try.prog 11 #[.agg #[.int .i64 g.base, .slice Ab g.bands.length cb, .slice Ad g.depths.length cd, .int .i64 g.blo, .int .i64 g.bhi], .slice Ah h.length ch, .agg #[.slice A1 t1.length c1, .slice A2 t2.length c2, .slice A3 t3.length c3]] w fun e w' => e = .returned (.bool true) ∧ Below w.heap.size w w' := by
  have hb1 := ex_alloc (ex_alloc (Below.refl w.heap.size w) (.cells #[.int .i64 g.base, .slice Ab g.bands.length cb, .slice Ad g.depths.length cd, .int .i64 g.blo, .int .i64 g.bhi] 27)) (.cells #[.slice A1 t1.length c1, .slice A2 t2.length c2, .slice A3 t3.length c3] 56)
  have q1 : Blk ((w.alloc (.cells #[.int .i64 g.base, .slice Ab g.bands.length cb, .slice Ad g.depths.length cd, .int .i64 g.blo, .int .i64 g.bhi] 27)).alloc (.cells #[.slice A1 t1.length c1, .slice A2 t2.length c2, .slice A3 t3.length c3] 56)) w.heap.size 27 #[.int .i64 g.base, .slice Ab g.bands.length cb, .slice Ad g.depths.length cd, .int .i64 g.blo, .int .i64 g.bhi] := (Blk.new _ _ _).alloc _
  have q2 : Blk ((w.alloc (.cells #[.int .i64 g.base, .slice Ab g.bands.length cb, .slice Ad g.depths.length cd, .int .i64 g.blo, .int .i64 g.bhi] 27)).alloc (.cells #[.slice A1 t1.length c1, .slice A2 t2.length c2, .slice A3 t3.length c3] 56)) (w.heap.size + 1) 56 #[.slice A1 t1.length c1, .slice A2 t2.length c2, .slice A3 t3.length c3] := Blk.new' _ _ _ (by simp)
  obtain ⟨hnb, hnd, hnh, _⟩ := thinB_iff.1 hth
  have HTH := Lib.hid hth
  clear hth
  have e1 : decide (22 < t1.length) = false := decide_eq_false (by omega)
  have e1' : decide ((22 : Int) < (t1.length : Int)) = false := decide_eq_false (by omega)
  have e2 : decide (22 < t2.length) = false := decide_eq_false (by omega)
  have e2' : decide ((22 : Int) < (t2.length : Int)) = false := decide_eq_false (by omega)
  have e3 : decide (22 < t3.length) = false := decide_eq_false (by omega)
  have e3' : decide ((22 : Int) < (t3.length : Int)) = false := decide_eq_false (by omega)
  go_enter Try.func11, Try.ntmps11
  go_wp2_with fail
  refine (Thin_any _ _ _ _ _ _ _ _ _ _ 0 _ _ _ _ _).mono ?_
  rintro e w2 ⟨rfl, hb2⟩
  have hB2 := ex_trans hb1 hb2
  rw [HTH.out]
  have p1 := q1.below hb2 q1.lt
  have p2 := q2.below hb2 q2.lt
  clear q1 q2
  have d0 : w2.cell? ⟨w.heap.size + 1, 0, none⟩ = some (.slice A1 t1.length c1) := p2.cell 0
  have d1 : w2.cell? ⟨w.heap.size + 1, 1, none⟩ = some (.slice A2 t2.length c2) := p2.cell 1
  have d2 : w2.cell? ⟨w.heap.size + 1, 2, none⟩ = some (.slice A3 t3.length c3) := p2.cell 2
  have a0 : w2.cell? ⟨w.heap.size, 0, none⟩ = some (.int .i64 g.base) := p1.cell 0
  have a1 : w2.cell? ⟨w.heap.size, 1, none⟩ = some (.slice Ab g.bands.length cb) := p1.cell 1
  have a2 : w2.cell? ⟨w.heap.size, 2, none⟩ = some (.slice Ad g.depths.length cd) := p1.cell 2
  have a3 : w2.cell? ⟨w.heap.size, 3, none⟩ = some (.int .i64 g.blo) := p1.cell 3
  have a4 : w2.cell? ⟨w.heap.size, 4, none⟩ = some (.int .i64 g.bhi) := p1.cell 4
  have l1 := p1.lt
  have l2 := p2.lt
  go_wp2_with fail
  refine (Glass_any g _ _ _ _ _ ((hg.below hB2).up hB2.size) (by omega) (by omega)).mono ?_
  rintro e w3 ⟨⟨Bb, Bd, kb, kd, rfl, hg3⟩, hb3⟩
  go_wp2_with fail
  refine (check_any g _ _ _ _ _ hg3).mono ?_
  rintro e w4 ⟨rfl, hb4⟩
  have hB4 := ex_trans hB2 (ex_trans hb3 hb4)
  replace p1 := p1.below (ex_trans hb3 hb4) l1
  replace p2 := p2.below (ex_trans hb3 hb4) l2
  clear hg3 a0 a1 a2 a3 a4 d0 d1 d2 l1 l2
  have d0 : w4.cell? ⟨w.heap.size + 1, 0, none⟩ = some (.slice A1 t1.length c1) := p2.cell 0
  have d1 : w4.cell? ⟨w.heap.size + 1, 1, none⟩ = some (.slice A2 t2.length c2) := p2.cell 1
  have d2 : w4.cell? ⟨w.heap.size + 1, 2, none⟩ = some (.slice A3 t3.length c3) := p2.cell 2
  have a0 : w4.cell? ⟨w.heap.size, 0, none⟩ = some (.int .i64 g.base) := p1.cell 0
  have a1 : w4.cell? ⟨w.heap.size, 1, none⟩ = some (.slice Ab g.bands.length cb) := p1.cell 1
  have a2 : w4.cell? ⟨w.heap.size, 2, none⟩ = some (.slice Ad g.depths.length cd) := p1.cell 2
  have a3 : w4.cell? ⟨w.heap.size, 3, none⟩ = some (.int .i64 g.blo) := p1.cell 3
  have a4 : w4.cell? ⟨w.heap.size, 4, none⟩ = some (.int .i64 g.bhi) := p1.cell 4
  have l1 := p1.lt
  have l2 := p2.lt
  go_wp2_with fail
  refine wp_region_ext_mix 11 [(false, 0), (false, 2), (false, 4), (true, 1), (true, 3), (true, 5), (true, 6), (false, 7), (false, 8), (false, 9), (false, 10)] (by kernel_rfl) (by kernel_rfl) (by intro d _ _ _ _ h; cases d <;> exact h) ?_
  have hX0 := (Below.refl w4.heap.size w4).drew
  repeat (refine mix_quiet rfl ?_; go_big_quiet_step (fail); refine wpQuiet_nil ?_)
  refine mix_loud rfl ?_
  go_wp2_with fail
  refine (Glass_any g _ _ _ _ w4.drew ((hg.below (ex_trans hB4 hX0)).up (ex_trans hB4 hX0).size) (by omega) (by omega)).mono ?_
  rintro e x1 ⟨⟨Cb, Cd, mb, md, rfl, hgx⟩, hx1⟩
  have hX1 := ex_trans hX0 hx1
  go_wp2_with fail
  refine ⟨inEx hX1, ?_⟩
  refine mix_loud rfl ?_
  go_wp2_with fail
  refine (History_any _ _ h x1 (by omega) ((hh.below (ex_trans hB4 hX1)).up (ex_trans hB4 hX1).size)).mono ?_
  rintro e x2 ⟨⟨Ch, mh, rfl, _, _, hhx⟩, hx2⟩
  have hX2 := ex_trans hX1 hx2
  go_wp2_with fail
  refine ⟨inEx hX2, ?_⟩
  refine mix_loud rfl ?_
  go_wp2_with fail
  refine (Truth_any x2 _ _ _ _ _ _ t1 t2 t3 ((k1.below (ex_trans hB4 hX2)).up (ex_trans hB4 hX2).size) ((k2.below (ex_trans hB4 hX2)).up (ex_trans hB4 hX2).size) ((k3.below (ex_trans hB4 hX2)).up (ex_trans hB4 hX2).size) (by omega) (by omega) (by omega)).mono ?_
  rintro e x3 ⟨⟨C1, C2, C3, m1, m2, m3, rfl, s1, s2, s3⟩, hx3⟩
  have hX3 := ex_trans hX2 hx3
  have hgx3 := (hgx.below (ex_trans hx2 hx3)).up (ex_trans hx2 hx3).size
  have hhx3 := (hhx.below hx3).up hx3.size
  clear hgx hhx
  go_wp2_with fail
  refine ⟨inEx hX3, ?_⟩
  refine mix_loud rfl ?_
  go_wp2_with fail
  refine (Play_no g _ _ _ _ _ _ _ _ _ _ _ _ h t1 t2 t3 _ hgx3 hhx3 s1 s2 s3 hne).mono ?_
  rintro e x4 ⟨rfl, hx4⟩
  have hX4 := ex_trans hX3 hx4
  go_wp2_with fail
  refine ⟨inEx hX4, ?_⟩
  repeat (refine mix_quiet rfl ?_; go_big_quiet_step (fail); refine wpQuiet_nil ?_)
  refine mix_nil rfl ?_
  have hB5 := ex_trans hB4 hX4
  replace p1 := p1.below hX4 l1
  replace p2 := p2.below hX4 l2
  clear hgx3 hhx3 s1 s2 s3 a0 a1 a2 a3 a4 d0 d1 d2 l1 l2
  have d0 : x4.cell? ⟨w.heap.size + 1, 0, none⟩ = some (.slice A1 t1.length c1) := p2.cell 0
  have d1 : x4.cell? ⟨w.heap.size + 1, 1, none⟩ = some (.slice A2 t2.length c2) := p2.cell 1
  have d2 : x4.cell? ⟨w.heap.size + 1, 2, none⟩ = some (.slice A3 t3.length c3) := p2.cell 2
  have a0 : x4.cell? ⟨w.heap.size, 0, none⟩ = some (.int .i64 g.base) := p1.cell 0
  have a1 : x4.cell? ⟨w.heap.size, 1, none⟩ = some (.slice Ab g.bands.length cb) := p1.cell 1
  have a2 : x4.cell? ⟨w.heap.size, 2, none⟩ = some (.slice Ad g.depths.length cd) := p1.cell 2
  have a3 : x4.cell? ⟨w.heap.size, 3, none⟩ = some (.int .i64 g.blo) := p1.cell 3
  have a4 : x4.cell? ⟨w.heap.size, 4, none⟩ = some (.int .i64 g.bhi) := p1.cell 4
  have l1 := p1.lt
  have l2 := p2.lt
  go_wp2_with fail
  refine (fault_any g _ _ _ _ _ ((hg.below hB5).up hB5.size)).mono ?_
  rintro e w6 ⟨rfl, hb6⟩
  have hB6 := ex_trans hB5 hb6
  have ef : (ckGlass g != ckGlass g) = false := by simp
  generalize ckGlass g = ck at *
  replace p1 := p1.below hb6 l1
  replace p2 := p2.below hb6 l2
  clear a0 a1 a2 a3 a4 d0 d1 d2 l1 l2
  have a0 : w6.cell? ⟨w.heap.size, 0, none⟩ = some (.int .i64 g.base) := p1.cell 0
  have a1 : w6.cell? ⟨w.heap.size, 1, none⟩ = some (.slice Ab g.bands.length cb) := p1.cell 1
  have a2 : w6.cell? ⟨w.heap.size, 2, none⟩ = some (.slice Ad g.depths.length cd) := p1.cell 2
  have a3 : w6.cell? ⟨w.heap.size, 3, none⟩ = some (.int .i64 g.blo) := p1.cell 3
  have a4 : w6.cell? ⟨w.heap.size, 4, none⟩ = some (.int .i64 g.bhi) := p1.cell 4
  have l1 := p1.lt
  have l2 := p2.lt
  go_wp2_with fail
  refine (livedL_any g _ _ _ _ _ _ h _ ((hg.below hB6).up hB6.size) ((hh.below hB6).up hB6.size)).mono ?_
  rintro e w7 ⟨rfl, hb7⟩
  have hB7 := ex_trans hB6 hb7
  have n1 : (lived g h == 0) = false := by simp [hne]
  have n2 : (lived g h != 0) = true := by simp [hne]
  have n3 : (lived g h == lived g h) = true := by simp
  clear hne
  generalize lived g h = lv at *
  go_wp2_with fail
  refine (awake_any _).mono ?_
  rintro e w9 ⟨rfl, hb9⟩
  go_wp2
  go_ret
  exact ⟨rfl, ex_trans hB7 hb9⟩

set_option maxRecDepth 100000 in
set_option maxHeartbeats 3200000 in
theorem Plays_nt (g : Gl) (Ab Ad Ah : Option Addr) (cb cd ch : Nat) (h : List Rg) (w : World) (hg : GlIn w w.heap.size g Ab Ad) (hh : SlAt w w.heap.size 2 Ah h.length (fR h)) (A1 A2 A3 : Option Addr) (c1 c2 c3 : Nat) (t1 t2 t3 : List Int) (k1 : SlAt w w.heap.size 1 A1 t1.length (fI t1)) (k2 : SlAt w w.heap.size 1 A2 t2.length (fI t2)) (k3 : SlAt w w.heap.size 1 A3 t3.length (fI t3)) (hth : thinB g.bands.length g.depths.length h.length 0 = true) (h1 : t1.length ≤ 22) (h2 : t2.length ≤ 22) (h3 : t3.length ≤ 22) (hl : lived g h = 0) (ht : truthB g h t1 t2 t3 = false) :
    Calls Try.prog 11 #[.agg #[.int .i64 g.base, .slice Ab g.bands.length cb, .slice Ad g.depths.length cd, .int .i64 g.blo, .int .i64 g.bhi], .slice Ah h.length ch, .agg #[.slice A1 t1.length c1, .slice A2 t2.length c2, .slice A3 t3.length c3]] w fun e w' => e = .returned (.bool true) ∧ Below w.heap.size w w' := by
  have hb1 := ex_alloc (ex_alloc (Below.refl w.heap.size w) (.cells #[.int .i64 g.base, .slice Ab g.bands.length cb, .slice Ad g.depths.length cd, .int .i64 g.blo, .int .i64 g.bhi] 27)) (.cells #[.slice A1 t1.length c1, .slice A2 t2.length c2, .slice A3 t3.length c3] 56)
  have q1 : Blk ((w.alloc (.cells #[.int .i64 g.base, .slice Ab g.bands.length cb, .slice Ad g.depths.length cd, .int .i64 g.blo, .int .i64 g.bhi] 27)).alloc (.cells #[.slice A1 t1.length c1, .slice A2 t2.length c2, .slice A3 t3.length c3] 56)) w.heap.size 27 #[.int .i64 g.base, .slice Ab g.bands.length cb, .slice Ad g.depths.length cd, .int .i64 g.blo, .int .i64 g.bhi] := (Blk.new _ _ _).alloc _
  have q2 : Blk ((w.alloc (.cells #[.int .i64 g.base, .slice Ab g.bands.length cb, .slice Ad g.depths.length cd, .int .i64 g.blo, .int .i64 g.bhi] 27)).alloc (.cells #[.slice A1 t1.length c1, .slice A2 t2.length c2, .slice A3 t3.length c3] 56)) (w.heap.size + 1) 56 #[.slice A1 t1.length c1, .slice A2 t2.length c2, .slice A3 t3.length c3] := Blk.new' _ _ _ (by simp)
  obtain ⟨hnb, hnd, hnh, _⟩ := thinB_iff.1 hth
  have HTH := Lib.hid hth
  clear hth
  have e1 : decide (22 < t1.length) = false := decide_eq_false (by omega)
  have e1' : decide ((22 : Int) < (t1.length : Int)) = false := decide_eq_false (by omega)
  have e2 : decide (22 < t2.length) = false := decide_eq_false (by omega)
  have e2' : decide ((22 : Int) < (t2.length : Int)) = false := decide_eq_false (by omega)
  have e3 : decide (22 < t3.length) = false := decide_eq_false (by omega)
  have e3' : decide ((22 : Int) < (t3.length : Int)) = false := decide_eq_false (by omega)
  go_enter Try.func11, Try.ntmps11
  go_wp2_with fail
  refine (Thin_any _ _ _ _ _ _ _ _ _ _ 0 _ _ _ _ _).mono ?_
  rintro e w2 ⟨rfl, hb2⟩
  have hB2 := ex_trans hb1 hb2
  rw [HTH.out]
  have p1 := q1.below hb2 q1.lt
  have p2 := q2.below hb2 q2.lt
  clear q1 q2
  have d0 : w2.cell? ⟨w.heap.size + 1, 0, none⟩ = some (.slice A1 t1.length c1) := p2.cell 0
  have d1 : w2.cell? ⟨w.heap.size + 1, 1, none⟩ = some (.slice A2 t2.length c2) := p2.cell 1
  have d2 : w2.cell? ⟨w.heap.size + 1, 2, none⟩ = some (.slice A3 t3.length c3) := p2.cell 2
  have a0 : w2.cell? ⟨w.heap.size, 0, none⟩ = some (.int .i64 g.base) := p1.cell 0
  have a1 : w2.cell? ⟨w.heap.size, 1, none⟩ = some (.slice Ab g.bands.length cb) := p1.cell 1
  have a2 : w2.cell? ⟨w.heap.size, 2, none⟩ = some (.slice Ad g.depths.length cd) := p1.cell 2
  have a3 : w2.cell? ⟨w.heap.size, 3, none⟩ = some (.int .i64 g.blo) := p1.cell 3
  have a4 : w2.cell? ⟨w.heap.size, 4, none⟩ = some (.int .i64 g.bhi) := p1.cell 4
  have l1 := p1.lt
  have l2 := p2.lt
  go_wp2_with fail
  refine (Glass_any g _ _ _ _ _ ((hg.below hB2).up hB2.size) (by omega) (by omega)).mono ?_
  rintro e w3 ⟨⟨Bb, Bd, kb, kd, rfl, hg3⟩, hb3⟩
  go_wp2_with fail
  refine (check_any g _ _ _ _ _ hg3).mono ?_
  rintro e w4 ⟨rfl, hb4⟩
  have hB4 := ex_trans hB2 (ex_trans hb3 hb4)
  replace p1 := p1.below (ex_trans hb3 hb4) l1
  replace p2 := p2.below (ex_trans hb3 hb4) l2
  clear hg3 a0 a1 a2 a3 a4 d0 d1 d2 l1 l2
  have d0 : w4.cell? ⟨w.heap.size + 1, 0, none⟩ = some (.slice A1 t1.length c1) := p2.cell 0
  have d1 : w4.cell? ⟨w.heap.size + 1, 1, none⟩ = some (.slice A2 t2.length c2) := p2.cell 1
  have d2 : w4.cell? ⟨w.heap.size + 1, 2, none⟩ = some (.slice A3 t3.length c3) := p2.cell 2
  have a0 : w4.cell? ⟨w.heap.size, 0, none⟩ = some (.int .i64 g.base) := p1.cell 0
  have a1 : w4.cell? ⟨w.heap.size, 1, none⟩ = some (.slice Ab g.bands.length cb) := p1.cell 1
  have a2 : w4.cell? ⟨w.heap.size, 2, none⟩ = some (.slice Ad g.depths.length cd) := p1.cell 2
  have a3 : w4.cell? ⟨w.heap.size, 3, none⟩ = some (.int .i64 g.blo) := p1.cell 3
  have a4 : w4.cell? ⟨w.heap.size, 4, none⟩ = some (.int .i64 g.bhi) := p1.cell 4
  have l1 := p1.lt
  have l2 := p2.lt
  go_wp2_with fail
  refine wp_region_ext_mix 11 [(false, 0), (false, 2), (false, 4), (true, 1), (true, 3), (true, 5), (true, 6), (false, 7), (false, 8), (false, 9), (false, 10)] (by kernel_rfl) (by kernel_rfl) (by intro d _ _ _ _ h; cases d <;> exact h) ?_
  have hX0 := (Below.refl w4.heap.size w4).drew
  repeat (refine mix_quiet rfl ?_; go_big_quiet_step (fail); refine wpQuiet_nil ?_)
  refine mix_loud rfl ?_
  go_wp2_with fail
  refine (Glass_any g _ _ _ _ w4.drew ((hg.below (ex_trans hB4 hX0)).up (ex_trans hB4 hX0).size) (by omega) (by omega)).mono ?_
  rintro e x1 ⟨⟨Cb, Cd, mb, md, rfl, hgx⟩, hx1⟩
  have hX1 := ex_trans hX0 hx1
  go_wp2_with fail
  refine ⟨inEx hX1, ?_⟩
  refine mix_loud rfl ?_
  go_wp2_with fail
  refine (History_any _ _ h x1 (by omega) ((hh.below (ex_trans hB4 hX1)).up (ex_trans hB4 hX1).size)).mono ?_
  rintro e x2 ⟨⟨Ch, mh, rfl, _, _, hhx⟩, hx2⟩
  have hX2 := ex_trans hX1 hx2
  go_wp2_with fail
  refine ⟨inEx hX2, ?_⟩
  refine mix_loud rfl ?_
  go_wp2_with fail
  refine (Truth_any x2 _ _ _ _ _ _ t1 t2 t3 ((k1.below (ex_trans hB4 hX2)).up (ex_trans hB4 hX2).size) ((k2.below (ex_trans hB4 hX2)).up (ex_trans hB4 hX2).size) ((k3.below (ex_trans hB4 hX2)).up (ex_trans hB4 hX2).size) (by omega) (by omega) (by omega)).mono ?_
  rintro e x3 ⟨⟨C1, C2, C3, m1, m2, m3, rfl, s1, s2, s3⟩, hx3⟩
  have hX3 := ex_trans hX2 hx3
  have hgx3 := (hgx.below (ex_trans hx2 hx3)).up (ex_trans hx2 hx3).size
  have hhx3 := (hhx.below hx3).up hx3.size
  clear hgx hhx
  go_wp2_with fail
  refine ⟨inEx hX3, ?_⟩
  refine mix_loud rfl ?_
  go_wp2_with fail
  refine (Play_nt g _ _ _ _ _ _ _ _ _ _ _ _ h t1 t2 t3 _ hgx3 hhx3 s1 s2 s3 hl ht).mono ?_
  rintro e x4 ⟨rfl, hx4⟩
  have HL := Lib.hid hl
  have HT := Lib.hid ht
  clear hl ht
  have hX4 := ex_trans hX3 hx4
  go_wp2_with fail
  refine ⟨inEx hX4, ?_⟩
  repeat (refine mix_quiet rfl ?_; go_big_quiet_step (fail); refine wpQuiet_nil ?_)
  refine mix_nil rfl ?_
  have hB5 := ex_trans hB4 hX4
  replace p1 := p1.below hX4 l1
  replace p2 := p2.below hX4 l2
  clear hgx3 hhx3 s1 s2 s3 a0 a1 a2 a3 a4 d0 d1 d2 l1 l2
  have d0 : x4.cell? ⟨w.heap.size + 1, 0, none⟩ = some (.slice A1 t1.length c1) := p2.cell 0
  have d1 : x4.cell? ⟨w.heap.size + 1, 1, none⟩ = some (.slice A2 t2.length c2) := p2.cell 1
  have d2 : x4.cell? ⟨w.heap.size + 1, 2, none⟩ = some (.slice A3 t3.length c3) := p2.cell 2
  have a0 : x4.cell? ⟨w.heap.size, 0, none⟩ = some (.int .i64 g.base) := p1.cell 0
  have a1 : x4.cell? ⟨w.heap.size, 1, none⟩ = some (.slice Ab g.bands.length cb) := p1.cell 1
  have a2 : x4.cell? ⟨w.heap.size, 2, none⟩ = some (.slice Ad g.depths.length cd) := p1.cell 2
  have a3 : x4.cell? ⟨w.heap.size, 3, none⟩ = some (.int .i64 g.blo) := p1.cell 3
  have a4 : x4.cell? ⟨w.heap.size, 4, none⟩ = some (.int .i64 g.bhi) := p1.cell 4
  have l1 := p1.lt
  have l2 := p2.lt
  go_wp2_with fail
  refine (fault_any g _ _ _ _ _ ((hg.below hB5).up hB5.size)).mono ?_
  rintro e w6 ⟨rfl, hb6⟩
  have hB6 := ex_trans hB5 hb6
  have ef : (ckGlass g != ckGlass g) = false := by simp
  generalize ckGlass g = ck at *
  replace p1 := p1.below hb6 l1
  replace p2 := p2.below hb6 l2
  clear a0 a1 a2 a3 a4 d0 d1 d2 l1 l2
  have a0 : w6.cell? ⟨w.heap.size, 0, none⟩ = some (.int .i64 g.base) := p1.cell 0
  have a1 : w6.cell? ⟨w.heap.size, 1, none⟩ = some (.slice Ab g.bands.length cb) := p1.cell 1
  have a2 : w6.cell? ⟨w.heap.size, 2, none⟩ = some (.slice Ad g.depths.length cd) := p1.cell 2
  have a3 : w6.cell? ⟨w.heap.size, 3, none⟩ = some (.int .i64 g.blo) := p1.cell 3
  have a4 : w6.cell? ⟨w.heap.size, 4, none⟩ = some (.int .i64 g.bhi) := p1.cell 4
  have l1 := p1.lt
  have l2 := p2.lt
  go_wp2_with fail
  refine (livedL_any g _ _ _ _ _ _ h _ ((hg.below hB6).up hB6.size) ((hh.below hB6).up hB6.size)).mono ?_
  rintro e w7 ⟨rfl, hb7⟩
  have hB7 := ex_trans hB6 hb7
  replace p1 := p1.below hb7 l1
  replace p2 := p2.below hb7 l2
  clear a0 a1 a2 a3 a4 l1 l2
  have d0 : w7.cell? ⟨w.heap.size + 1, 0, none⟩ = some (.slice A1 t1.length c1) := p2.cell 0
  have d1 : w7.cell? ⟨w.heap.size + 1, 1, none⟩ = some (.slice A2 t2.length c2) := p2.cell 1
  have d2 : w7.cell? ⟨w.heap.size + 1, 2, none⟩ = some (.slice A3 t3.length c3) := p2.cell 2
  have a0 : w7.cell? ⟨w.heap.size, 0, none⟩ = some (.int .i64 g.base) := p1.cell 0
  have a1 : w7.cell? ⟨w.heap.size, 1, none⟩ = some (.slice Ab g.bands.length cb) := p1.cell 1
  have a2 : w7.cell? ⟨w.heap.size, 2, none⟩ = some (.slice Ad g.depths.length cd) := p1.cell 2
  have a3 : w7.cell? ⟨w.heap.size, 3, none⟩ = some (.int .i64 g.blo) := p1.cell 3
  have a4 : w7.cell? ⟨w.heap.size, 4, none⟩ = some (.int .i64 g.bhi) := p1.cell 4
  have l1 := p1.lt
  have l2 := p2.lt
  rw [HL.out]
  go_wp2_with fail
  refine (IsTruth_any g _ _ _ _ _ _ h _ ((hg.below hB7).up hB7.size) ((hh.below hB7).up hB7.size) _ _ _ _ _ _ t1 t2 t3 ((k1.below hB7).up hB7.size) ((k2.below hB7).up hB7.size) ((k3.below hB7).up hB7.size) (by omega) (by omega)).mono ?_
  rintro e w8 ⟨rfl, hb8⟩
  have hB8 := ex_trans hB7 hb8
  rw [HT.out]
  go_wp2_with fail
  refine (awake_any _).mono ?_
  rintro e w9 ⟨rfl, hb9⟩
  go_wp2
  go_ret
  exact ⟨rfl, ex_trans hB8 hb9⟩

set_option maxRecDepth 100000 in
set_option maxHeartbeats 3200000 in
theorem Plays_ok (g : Gl) (Ab Ad Ah : Option Addr) (cb cd ch : Nat) (h : List Rg) (w : World) (hg : GlIn w w.heap.size g Ab Ad) (hh : SlAt w w.heap.size 2 Ah h.length (fR h)) (A1 A2 A3 : Option Addr) (c1 c2 c3 : Nat) (t1 t2 t3 : List Int) (k1 : SlAt w w.heap.size 1 A1 t1.length (fI t1)) (k2 : SlAt w w.heap.size 1 A2 t2.length (fI t2)) (k3 : SlAt w w.heap.size 1 A3 t3.length (fI t3)) (hth : thinB g.bands.length g.depths.length h.length 0 = true) (h1 : t1.length ≤ 22) (h2 : t2.length ≤ 22) (h3 : t3.length ≤ 22) (hl : lived g h = 0) (ht : truthB g h t1 t2 t3 = true) :
    Calls Try.prog 11 #[.agg #[.int .i64 g.base, .slice Ab g.bands.length cb, .slice Ad g.depths.length cd, .int .i64 g.blo, .int .i64 g.bhi], .slice Ah h.length ch, .agg #[.slice A1 t1.length c1, .slice A2 t2.length c2, .slice A3 t3.length c3]] w fun e w' => e = .returned (.bool true) ∧ Below w.heap.size w w' := by
  have hb1 := ex_alloc (ex_alloc (Below.refl w.heap.size w) (.cells #[.int .i64 g.base, .slice Ab g.bands.length cb, .slice Ad g.depths.length cd, .int .i64 g.blo, .int .i64 g.bhi] 27)) (.cells #[.slice A1 t1.length c1, .slice A2 t2.length c2, .slice A3 t3.length c3] 56)
  have q1 : Blk ((w.alloc (.cells #[.int .i64 g.base, .slice Ab g.bands.length cb, .slice Ad g.depths.length cd, .int .i64 g.blo, .int .i64 g.bhi] 27)).alloc (.cells #[.slice A1 t1.length c1, .slice A2 t2.length c2, .slice A3 t3.length c3] 56)) w.heap.size 27 #[.int .i64 g.base, .slice Ab g.bands.length cb, .slice Ad g.depths.length cd, .int .i64 g.blo, .int .i64 g.bhi] := (Blk.new _ _ _).alloc _
  have q2 : Blk ((w.alloc (.cells #[.int .i64 g.base, .slice Ab g.bands.length cb, .slice Ad g.depths.length cd, .int .i64 g.blo, .int .i64 g.bhi] 27)).alloc (.cells #[.slice A1 t1.length c1, .slice A2 t2.length c2, .slice A3 t3.length c3] 56)) (w.heap.size + 1) 56 #[.slice A1 t1.length c1, .slice A2 t2.length c2, .slice A3 t3.length c3] := Blk.new' _ _ _ (by simp)
  obtain ⟨hnb, hnd, hnh, _⟩ := thinB_iff.1 hth
  have HTH := Lib.hid hth
  clear hth
  have e1 : decide (22 < t1.length) = false := decide_eq_false (by omega)
  have e1' : decide ((22 : Int) < (t1.length : Int)) = false := decide_eq_false (by omega)
  have e2 : decide (22 < t2.length) = false := decide_eq_false (by omega)
  have e2' : decide ((22 : Int) < (t2.length : Int)) = false := decide_eq_false (by omega)
  have e3 : decide (22 < t3.length) = false := decide_eq_false (by omega)
  have e3' : decide ((22 : Int) < (t3.length : Int)) = false := decide_eq_false (by omega)
  go_enter Try.func11, Try.ntmps11
  go_wp2_with fail
  refine (Thin_any _ _ _ _ _ _ _ _ _ _ 0 _ _ _ _ _).mono ?_
  rintro e w2 ⟨rfl, hb2⟩
  have hB2 := ex_trans hb1 hb2
  rw [HTH.out]
  have p1 := q1.below hb2 q1.lt
  have p2 := q2.below hb2 q2.lt
  clear q1 q2
  have d0 : w2.cell? ⟨w.heap.size + 1, 0, none⟩ = some (.slice A1 t1.length c1) := p2.cell 0
  have d1 : w2.cell? ⟨w.heap.size + 1, 1, none⟩ = some (.slice A2 t2.length c2) := p2.cell 1
  have d2 : w2.cell? ⟨w.heap.size + 1, 2, none⟩ = some (.slice A3 t3.length c3) := p2.cell 2
  have a0 : w2.cell? ⟨w.heap.size, 0, none⟩ = some (.int .i64 g.base) := p1.cell 0
  have a1 : w2.cell? ⟨w.heap.size, 1, none⟩ = some (.slice Ab g.bands.length cb) := p1.cell 1
  have a2 : w2.cell? ⟨w.heap.size, 2, none⟩ = some (.slice Ad g.depths.length cd) := p1.cell 2
  have a3 : w2.cell? ⟨w.heap.size, 3, none⟩ = some (.int .i64 g.blo) := p1.cell 3
  have a4 : w2.cell? ⟨w.heap.size, 4, none⟩ = some (.int .i64 g.bhi) := p1.cell 4
  have l1 := p1.lt
  have l2 := p2.lt
  go_wp2_with fail
  refine (Glass_any g _ _ _ _ _ ((hg.below hB2).up hB2.size) (by omega) (by omega)).mono ?_
  rintro e w3 ⟨⟨Bb, Bd, kb, kd, rfl, hg3⟩, hb3⟩
  go_wp2_with fail
  refine (check_any g _ _ _ _ _ hg3).mono ?_
  rintro e w4 ⟨rfl, hb4⟩
  have hB4 := ex_trans hB2 (ex_trans hb3 hb4)
  replace p1 := p1.below (ex_trans hb3 hb4) l1
  replace p2 := p2.below (ex_trans hb3 hb4) l2
  clear hg3 a0 a1 a2 a3 a4 d0 d1 d2 l1 l2
  have d0 : w4.cell? ⟨w.heap.size + 1, 0, none⟩ = some (.slice A1 t1.length c1) := p2.cell 0
  have d1 : w4.cell? ⟨w.heap.size + 1, 1, none⟩ = some (.slice A2 t2.length c2) := p2.cell 1
  have d2 : w4.cell? ⟨w.heap.size + 1, 2, none⟩ = some (.slice A3 t3.length c3) := p2.cell 2
  have a0 : w4.cell? ⟨w.heap.size, 0, none⟩ = some (.int .i64 g.base) := p1.cell 0
  have a1 : w4.cell? ⟨w.heap.size, 1, none⟩ = some (.slice Ab g.bands.length cb) := p1.cell 1
  have a2 : w4.cell? ⟨w.heap.size, 2, none⟩ = some (.slice Ad g.depths.length cd) := p1.cell 2
  have a3 : w4.cell? ⟨w.heap.size, 3, none⟩ = some (.int .i64 g.blo) := p1.cell 3
  have a4 : w4.cell? ⟨w.heap.size, 4, none⟩ = some (.int .i64 g.bhi) := p1.cell 4
  have l1 := p1.lt
  have l2 := p2.lt
  go_wp2_with fail
  refine wp_region_ext_mix 11 [(false, 0), (false, 2), (false, 4), (true, 1), (true, 3), (true, 5), (true, 6), (false, 7), (false, 8), (false, 9), (false, 10)] (by kernel_rfl) (by kernel_rfl) (by intro d _ _ _ _ h; cases d <;> exact h) ?_
  have hX0 := (Below.refl w4.heap.size w4).drew
  repeat (refine mix_quiet rfl ?_; go_big_quiet_step (fail); refine wpQuiet_nil ?_)
  refine mix_loud rfl ?_
  go_wp2_with fail
  refine (Glass_any g _ _ _ _ w4.drew ((hg.below (ex_trans hB4 hX0)).up (ex_trans hB4 hX0).size) (by omega) (by omega)).mono ?_
  rintro e x1 ⟨⟨Cb, Cd, mb, md, rfl, hgx⟩, hx1⟩
  have hX1 := ex_trans hX0 hx1
  go_wp2_with fail
  refine ⟨inEx hX1, ?_⟩
  refine mix_loud rfl ?_
  go_wp2_with fail
  refine (History_any _ _ h x1 (by omega) ((hh.below (ex_trans hB4 hX1)).up (ex_trans hB4 hX1).size)).mono ?_
  rintro e x2 ⟨⟨Ch, mh, rfl, _, _, hhx⟩, hx2⟩
  have hX2 := ex_trans hX1 hx2
  go_wp2_with fail
  refine ⟨inEx hX2, ?_⟩
  refine mix_loud rfl ?_
  go_wp2_with fail
  refine (Truth_any x2 _ _ _ _ _ _ t1 t2 t3 ((k1.below (ex_trans hB4 hX2)).up (ex_trans hB4 hX2).size) ((k2.below (ex_trans hB4 hX2)).up (ex_trans hB4 hX2).size) ((k3.below (ex_trans hB4 hX2)).up (ex_trans hB4 hX2).size) (by omega) (by omega) (by omega)).mono ?_
  rintro e x3 ⟨⟨C1, C2, C3, m1, m2, m3, rfl, s1, s2, s3⟩, hx3⟩
  have hX3 := ex_trans hX2 hx3
  have hgx3 := (hgx.below (ex_trans hx2 hx3)).up (ex_trans hx2 hx3).size
  have hhx3 := (hhx.below hx3).up hx3.size
  clear hgx hhx
  go_wp2_with fail
  refine ⟨inEx hX3, ?_⟩
  refine mix_loud rfl ?_
  go_wp2_with fail
  refine (Play_ok g _ _ _ _ _ _ _ _ _ _ _ _ h t1 t2 t3 _ hgx3 hhx3 s1 s2 s3 hl ht).mono ?_
  rintro e x4 ⟨⟨v, rfl, hv⟩, hx4⟩
  obtain ⟨Av, cv, rfl, _, hsv⟩ := own_sl hv
  have HL := Lib.hid hl
  have HT := Lib.hid ht
  have HSV := Lib.hid hsv
  clear hl ht hv hsv
  have hX4 := ex_trans hX3 hx4
  go_wp2_with fail
  refine ⟨inEx hX4, ?_⟩
  repeat (refine mix_quiet rfl ?_; go_big_quiet_step (fail); refine wpQuiet_nil ?_)
  refine mix_nil rfl ?_
  have hB5 := ex_trans hB4 hX4
  replace p1 := p1.below hX4 l1
  replace p2 := p2.below hX4 l2
  clear hgx3 hhx3 s1 s2 s3 a0 a1 a2 a3 a4 d0 d1 d2 l1 l2
  have d0 : x4.cell? ⟨w.heap.size + 1, 0, none⟩ = some (.slice A1 t1.length c1) := p2.cell 0
  have d1 : x4.cell? ⟨w.heap.size + 1, 1, none⟩ = some (.slice A2 t2.length c2) := p2.cell 1
  have d2 : x4.cell? ⟨w.heap.size + 1, 2, none⟩ = some (.slice A3 t3.length c3) := p2.cell 2
  have a0 : x4.cell? ⟨w.heap.size, 0, none⟩ = some (.int .i64 g.base) := p1.cell 0
  have a1 : x4.cell? ⟨w.heap.size, 1, none⟩ = some (.slice Ab g.bands.length cb) := p1.cell 1
  have a2 : x4.cell? ⟨w.heap.size, 2, none⟩ = some (.slice Ad g.depths.length cd) := p1.cell 2
  have a3 : x4.cell? ⟨w.heap.size, 3, none⟩ = some (.int .i64 g.blo) := p1.cell 3
  have a4 : x4.cell? ⟨w.heap.size, 4, none⟩ = some (.int .i64 g.bhi) := p1.cell 4
  have l1 := p1.lt
  have l2 := p2.lt
  go_wp2_with fail
  refine (fault_any g _ _ _ _ _ ((hg.below hB5).up hB5.size)).mono ?_
  rintro e w6 ⟨rfl, hb6⟩
  have hB6 := ex_trans hB5 hb6
  have ef : (ckGlass g != ckGlass g) = false := by simp
  generalize ckGlass g = ck at *
  replace p1 := p1.below hb6 l1
  replace p2 := p2.below hb6 l2
  clear a0 a1 a2 a3 a4 d0 d1 d2 l1 l2
  have a0 : w6.cell? ⟨w.heap.size, 0, none⟩ = some (.int .i64 g.base) := p1.cell 0
  have a1 : w6.cell? ⟨w.heap.size, 1, none⟩ = some (.slice Ab g.bands.length cb) := p1.cell 1
  have a2 : w6.cell? ⟨w.heap.size, 2, none⟩ = some (.slice Ad g.depths.length cd) := p1.cell 2
  have a3 : w6.cell? ⟨w.heap.size, 3, none⟩ = some (.int .i64 g.blo) := p1.cell 3
  have a4 : w6.cell? ⟨w.heap.size, 4, none⟩ = some (.int .i64 g.bhi) := p1.cell 4
  have l1 := p1.lt
  have l2 := p2.lt
  go_wp2_with fail
  refine (livedL_any g _ _ _ _ _ _ h _ ((hg.below hB6).up hB6.size) ((hh.below hB6).up hB6.size)).mono ?_
  rintro e w7 ⟨rfl, hb7⟩
  have hB7 := ex_trans hB6 hb7
  replace p1 := p1.below hb7 l1
  replace p2 := p2.below hb7 l2
  clear a0 a1 a2 a3 a4 l1 l2
  have d0 : w7.cell? ⟨w.heap.size + 1, 0, none⟩ = some (.slice A1 t1.length c1) := p2.cell 0
  have d1 : w7.cell? ⟨w.heap.size + 1, 1, none⟩ = some (.slice A2 t2.length c2) := p2.cell 1
  have d2 : w7.cell? ⟨w.heap.size + 1, 2, none⟩ = some (.slice A3 t3.length c3) := p2.cell 2
  have a0 : w7.cell? ⟨w.heap.size, 0, none⟩ = some (.int .i64 g.base) := p1.cell 0
  have a1 : w7.cell? ⟨w.heap.size, 1, none⟩ = some (.slice Ab g.bands.length cb) := p1.cell 1
  have a2 : w7.cell? ⟨w.heap.size, 2, none⟩ = some (.slice Ad g.depths.length cd) := p1.cell 2
  have a3 : w7.cell? ⟨w.heap.size, 3, none⟩ = some (.int .i64 g.blo) := p1.cell 3
  have a4 : w7.cell? ⟨w.heap.size, 4, none⟩ = some (.int .i64 g.bhi) := p1.cell 4
  have l1 := p1.lt
  have l2 := p2.lt
  rw [HL.out]
  go_wp2_with fail
  refine (IsTruth_any g _ _ _ _ _ _ h _ ((hg.below hB7).up hB7.size) ((hh.below hB7).up hB7.size) _ _ _ _ _ _ t1 t2 t3 ((k1.below hB7).up hB7.size) ((k2.below hB7).up hB7.size) ((k3.below hB7).up hB7.size) (by omega) (by omega)).mono ?_
  rintro e w8 ⟨rfl, hb8⟩
  have hB8 := ex_trans hB7 hb8
  rw [HT.out]
  replace p1 := p1.below hb8 l1
  replace p2 := p2.below hb8 l2
  clear a0 a1 a2 a3 a4 d0 d1 d2 l1 l2
  have d0 : w8.cell? ⟨w.heap.size + 1, 0, none⟩ = some (.slice A1 t1.length c1) := p2.cell 0
  have d1 : w8.cell? ⟨w.heap.size + 1, 1, none⟩ = some (.slice A2 t2.length c2) := p2.cell 1
  have d2 : w8.cell? ⟨w.heap.size + 1, 2, none⟩ = some (.slice A3 t3.length c3) := p2.cell 2
  have a0 : w8.cell? ⟨w.heap.size, 0, none⟩ = some (.int .i64 g.base) := p1.cell 0
  have a1 : w8.cell? ⟨w.heap.size, 1, none⟩ = some (.slice Ab g.bands.length cb) := p1.cell 1
  have a2 : w8.cell? ⟨w.heap.size, 2, none⟩ = some (.slice Ad g.depths.length cd) := p1.cell 2
  have a3 : w8.cell? ⟨w.heap.size, 3, none⟩ = some (.int .i64 g.blo) := p1.cell 3
  have a4 : w8.cell? ⟨w.heap.size, 4, none⟩ = some (.int .i64 g.bhi) := p1.cell 4
  have l1 := p1.lt
  have l2 := p2.lt
  go_wp2_with fail
  refine (PlayR_any g _ _ _ _ h _ ((hg.below hB8).up hB8.size) _ _ _ _ _ _ t1 t2 t3 ((k1.below hB8).up hB8.size) ((k2.below hB8).up hB8.size) ((k3.below hB8).up hB8.size) (ok_of_lived HL.out) HT.out).mono ?_
  rintro e w9 ⟨⟨v2, rfl, hv2⟩, hb9⟩
  obtain ⟨Aw, cw, rfl, _, hsw⟩ := own_sl hv2
  have hB9 := ex_trans hB8 hb9
  have hbx : Below x4.heap.size x4 w9 := ex_trans hb6 (ex_trans hb7 (ex_trans hb8 hb9))
  have hlen : (playTo g t1 t2 t3 h.length).length ≤ 1000000 := by rw [playTo_len]; omega
  have hsv9 := (HSV.out.below hbx).up hbx.size
  have hself := ints_self (playTo g t1 t2 t3 h.length)
  clear hv2
  generalize playTo g t1 t2 t3 h.length = pl at *
  go_wp2_with fail
  refine (ints_any _ _ _ _ pl pl _ hlen hsv9 hsw hlen).mono ?_
  rintro e y1 ⟨rfl, hy1⟩
  have hC1 := ex_trans hB9 hy1
  rw [hself]
  go_wp2_with fail
  refine (awake_any _).mono ?_
  rintro e y2 ⟨rfl, hy2⟩
  go_wp2
  go_ret
  exact ⟨rfl, ex_trans hC1 hy2⟩

theorem Plays_any (g : Gl) (Ab Ad Ah : Option Addr) (cb cd ch : Nat) (h : List Rg) (w : World) (hg : GlIn w w.heap.size g Ab Ad) (hh : SlAt w w.heap.size 2 Ah h.length (fR h)) (A1 A2 A3 : Option Addr) (c1 c2 c3 : Nat) (t1 t2 t3 : List Int) (k1 : SlAt w w.heap.size 1 A1 t1.length (fI t1)) (k2 : SlAt w w.heap.size 1 A2 t2.length (fI t2)) (k3 : SlAt w w.heap.size 1 A3 t3.length (fI t3)) :
    Calls Try.prog 11 #[.agg #[.int .i64 g.base, .slice Ab g.bands.length cb, .slice Ad g.depths.length cd, .int .i64 g.blo, .int .i64 g.bhi], .slice Ah h.length ch, .agg #[.slice A1 t1.length c1, .slice A2 t2.length c2, .slice A3 t3.length c3]] w fun e w' => e = .returned (.bool true) ∧ Below w.heap.size w w' := by
  by_cases hn : thinB g.bands.length g.depths.length h.length 0 = true ∧ t1.length ≤ 22 ∧ t2.length ≤ 22 ∧ t3.length ≤ 22
  · obtain ⟨n0, n1, n2, n3⟩ := hn
    by_cases hl : lived g h = 0
    · cases ht : truthB g h t1 t2 t3
      · exact Plays_nt g _ _ _ _ _ _ h w hg hh _ _ _ _ _ _ t1 t2 t3 k1 k2 k3 n0 n1 n2 n3 hl ht
      · exact Plays_ok g _ _ _ _ _ _ h w hg hh _ _ _ _ _ _ t1 t2 t3 k1 k2 k3 n0 n1 n2 n3 hl ht
    · exact Plays_no g _ _ _ _ _ _ h w hg hh _ _ _ _ _ _ t1 t2 t3 k1 k2 k3 n0 n1 n2 n3 hl
  · exact Plays_far g _ _ _ _ _ _ h w _ _ _ _ _ _ t1 t2 t3 k1 k2 k3 hn

end Go.Proofs.Ytlgmeofpkfliaaa
end

section
namespace Go.Proofs.Ytlgmeofpkfliaaa.glassPlays
open Go.ChangeShapes Go.WideShapes Go.ChangeAt Go.RowKit
set_option linter.unusedVariables false

set_option maxRecDepth 100000 in
theorem lifted (os : Os) (started : os.Started) (H : Type) (enc : TypeId × Value → H) :
    ReturnsInHanded {} Try.checked os 11 .any (Rows.glassPlaysSpec.pre6 enc Try.prog Try.f11 Rows.glassPlaysRow.domain false) (Rows.glassPlaysSpec.post enc Try.prog Try.f11 false true false false) := by
  refine returnsInHanded_of_change (C := Try.checked) own started (by kernel_rfl) Try.func11
    (ChangeSpec.witness6 (enc := enc) (C := Try.checked) false ⟨#[], #[.agg #[.int .i64 0, .slice none 0 0, .slice none 0 0, .int .i64 0, .int .i64 0], .slice none 0 0, .agg #[.slice none 0 0, .slice none 0 0, .slice none 0 0]], []⟩ 8 (by kernel_rfl) (by kernel_rfl) (by kernel_rfl) (by kernel_rfl)) ?_
  intro W base args ds gs before hval0 hW hcnd _
  have hval : ∀ (j : Nat) t v, Try.f11.params[j]? = some t → args[j]? = some v → Value.okWide Try.prog W .any base t v := hval0
  have hW0 := hW
  obtain ⟨p, q, hA0, hV, rfl, hfz, hnd⟩ := hW
  have hA : DataW.TrodAll enc Try.prog W 0 (fun _ => true) true Try.f11.params.toList args.toList ds p := hA0
  rw [Try.params11] at hA hval
  obtain ⟨v0, v1, v2, d0, d1, d2, p0, p1, p2, rfl, rfl, rfl, h0, h1, h2⟩ := trodAll_three hA
  obtain ⟨rfl, rfl⟩ := trodVars_none hV
  obtain ⟨g, Ab, Ad, cb, cd, rfl, _, hg⟩ := open_glass (hval 0 _ _ rfl rfl) h0
  obtain ⟨Ah, h, ch, rfl, _, _, hh⟩ := open_rgs (hval 1 _ _ rfl rfl) h1
  obtain ⟨t1, t2, t3, A1, A2, A3, c1, c2, c3, rfl, _, k1, k2, k3⟩ := open_truth (hval 2 _ _ rfl rfl) h2
  refine (Plays_any g Ab Ad Ah cb cd ch h W hg hh A1 A2 A3 c1 c2 c3 t1 t2 t3 k1 k2 k3).mono fun e W' he => ?_
  obtain ⟨rfl, hb⟩ := he
  exact ⟨_, rfl, post_law rfl hW0 rfl rfl ⟨⟨by kernel_rfl, of_decide_eq_true (by kernel_rfl)⟩, ⟨by kernel_rfl, of_decide_eq_true (by kernel_rfl)⟩, ⟨by kernel_rfl, of_decide_eq_true (by kernel_rfl)⟩, trivial⟩ hb⟩

theorem over : Rows.glassPlaysRow.holds Try.pinned (OpenSpec.ofChange Rows.glassPlaysSpec) :=
  OpenClaim.holds_of_wide 11 Try.f11 rfl rfl rfl rfl rfl rfl rfl ⟨rfl, rfl, rfl, rfl, rfl⟩ rfl rfl rfl rfl rfl (by kernel_rfl) Try.func11 (by kernel_rfl)
    (of_decide_eq_true (by kernel_rfl)) (by unfold Func.isWrapper; first | (rw [if_pos (by decide +kernel)]; kernel_rfl) | (rw [if_neg (by decide +kernel)]; exact ⟨rfl, rfl⟩))
    (fun os started H enc _ => lifted os started H enc)

/-- the statement. -/
theorem proved : Rows.GlassPlaysSaid :=
  over
#print axioms proved
end Go.Proofs.Ytlgmeofpkfliaaa.glassPlays
end
