/- The reference's Play (walk). · The law's own truths: word, picked, Picked (walks). · The law's own truths: Picked (walk). · The law's own truths: Picked (walk). · The law's own ices: Read (walk). · Glass: what one day does, by its truth (plain). · The law GlassTruth (plain): a truth in which all ices are true. · Readings of arguments: words, and small integers. · Readings of arguments: one range, one ice. -/
import Derived.Test.YtlgmeofpkfliaaaGh
import Derived.Test.YtlgmeofpkfliaaaGa
import Derived.Test.YtlgmeofpkfliaaaGf
import Derived.Test.YtlgmeofpkfliaaaGc
import Derived.Test.YtlgmeofpkfliaaaGd
import Derived.Test.YtlgmeofpkfliaaaGe
set_option linter.unusedVariables false
set_option linter.unusedSimpArgs false
set_option linter.unusedSectionVars false
section
namespace Go.Proofs.Ytlgmeofpkfliaaa
open Go.RowKit
attribute [local go_sem] Ex.cell? Ex.frozen? Gx.cell?

set_option maxRecDepth 100000 in
set_option maxHeartbeats 3200000 in
theorem PlayR_any (g : Gl) (Ab Ad : Option Addr) (cb cd : Nat) (h : List Rg) (w : World) (hg : GlIn w w.heap.size g Ab Ad) (A1 A2 A3 : Option Addr) (c1 c2 c3 : Nat) (t1 t2 t3 : List Int) (k1 : SlAt w w.heap.size 1 A1 t1.length (fI t1)) (k2 : SlAt w w.heap.size 1 A2 t2.length (fI t2)) (k3 : SlAt w w.heap.size 1 A3 t3.length (fI t3)) (hok : Ok g h) (ht : truthB g h t1 t2 t3 = true) :
    Calls Try.prog 45 #[.agg #[.int .i64 g.base, .slice Ab g.bands.length cb, .slice Ad g.depths.length cd, .int .i64 g.blo, .int .i64 g.bhi], .agg #[.slice A1 t1.length c1, .slice A2 t2.length c2, .slice A3 t3.length c3]] w fun e w' =>
      (∃ v, e = .returned v ∧ w'.ownsRow w.heap.size 3 1 v (playTo g t1 t2 t3 h.length).length ((playTo g t1 t2 t3 h.length).map (Value.int .i64))) ∧ Below w.heap.size w w' := by
  obtain ⟨i0, hi0, hz0, hz1, hz2⟩ := info_parts int_info
  have HI := Lib.hid hi0
  have hb1 := ex_alloc (ex_alloc (Below.refl w.heap.size w) (.cells #[.int .i64 g.base, .slice Ab g.bands.length cb, .slice Ad g.depths.length cd, .int .i64 g.blo, .int .i64 g.bhi] 27)) (.cells #[.slice A1 t1.length c1, .slice A2 t2.length c2, .slice A3 t3.length c3] 56)
  have HT := Lib.hid (truthB_iff.1 ht)
  have HK := Lib.hid hok
  have hnh := hok.nh.2
  clear ht hok hi0
  go_enter Try.func45, Try.ntmps45
  go_wp2_with fail
  go_loopw [5, 6, 7, 8] (fun r s v i wr => ∃ k : Nat, k ≤ h.length ∧ i = .int .i64 k ∧ r = .int .i64 (riseTo t2 k) ∧ s = .int .i64 (sinkTo g t1 t3 k) ∧ Below w.heap.size w wr ∧
      Blk wr w.heap.size 27 #[.int .i64 g.base, .slice Ab g.bands.length cb, .slice Ad g.depths.length cd, .int .i64 g.blo, .int .i64 g.bhi] ∧ Blk wr (w.heap.size + 1) 56 #[.slice A1 t1.length c1, .slice A2 t2.length c2, .slice A3 t3.length c3] ∧
      wr.ownsRow (w.heap.size + 1 + 1) 3 1 v (playTo g t1 t2 t3 k).length ((playTo g t1 t2 t3 k).map (Value.int .i64)))
    (fun _ _ _ i _ => h.length - (intOf i).toNat)
  case atStart => exact ⟨0, by omega, rfl, rfl, rfl, hb1, (Blk.new _ _ _).alloc _, Blk.new' _ _ _ (by simp), by simp [playTo], .inl ⟨rfl, by simp [playTo]⟩⟩
  case round =>
    obtain ⟨k, hk, rfl, rfl, rfl, hbl, hq1, hq2, hown⟩ := hrel
    have d0 : wr.cell? ⟨w.heap.size + 1, 0, none⟩ = some (.slice A1 t1.length c1) := hq2.cell 0
    have d1 : wr.cell? ⟨w.heap.size + 1, 1, none⟩ = some (.slice A2 t2.length c2) := hq2.cell 1
    have d2 : wr.cell? ⟨w.heap.size + 1, 2, none⟩ = some (.slice A3 t3.length c3) := hq2.cell 2
    have l1 := hq1.lt
    have l2 := hq2.lt
    by_cases hlt : k < h.length
    · have a0 : wr.cell? ⟨w.heap.size, 0, none⟩ = some (.int .i64 g.base) := hq1.cell 0
      have a1 : wr.cell? ⟨w.heap.size, 1, none⟩ = some (.slice Ab g.bands.length cb) := hq1.cell 1
      have a2 : wr.cell? ⟨w.heap.size, 2, none⟩ = some (.slice Ad g.depths.length cd) := hq1.cell 2
      have a3 : wr.cell? ⟨w.heap.size, 3, none⟩ = some (.int .i64 g.blo) := hq1.cell 3
      have a4 : wr.cell? ⟨w.heap.size, 4, none⟩ = some (.int .i64 g.bhi) := hq1.cell 4
      obtain ⟨b1, o1, rfl, hbb1, p3⟩ := IsInts.at_ (k1.below hbl) (show k < t1.length by rw [HT.out.1.1]; exact hlt)
      obtain ⟨b2, o2, rfl, hbb2, p4⟩ := IsInts.at_ (k2.below hbl) (show k < t2.length by rw [HT.out.1.2.1]; exact hlt)
      obtain ⟨b3, o3, rfl, hbb3, p5⟩ := IsInts.at_ (k3.below hbl) (show k < t3.length by rw [HT.out.1.2.2]; exact hlt)
      have z1 : k < t1.length := by rw [HT.out.1.1]; exact hlt
      have z2 : k < t2.length := by rw [HT.out.1.2.1]; exact hlt
      have z3 : k < t3.length := by rw [HT.out.1.2.2]; exact hlt
      have hBr : w.heap.size ≤ wr.heap.size := hbl.size
      have m1 : b1 < wr.heap.size := by omega
      have m2 : b2 < wr.heap.size := by omega
      have m3 : b3 < wr.heap.size := by omega
      have hl5 : g.depths.length ≤ 1000000 := by have := HK.out.nd; omega
      have r0 := dayOk_iff.1 (HT.out.2 k hlt)
      have r1 : 0 ≤ riseTo t2 k ∧ riseTo t2 k ≤ 100000 := by have := riseTo_bd HK.out HT.out.2 hk; omega
      have r2 : 0 ≤ sinkTo g t1 t3 k ∧ sinkTo g t1 t3 k ≤ 100000 := by have := sinkTo_bd HK.out HT.out.2 hk; omega
      have r3 : 0 ≤ gI t2 k ∧ gI t2 k ≤ 100000 := by have := HK.out.creep k; omega
      have r4 : 0 ≤ gI t3 k ∧ gI t3 k ≤ 100000 := by have := HK.out.back; omega
      have r5 : -1000 ≤ g.base ∧ g.base ≤ 1000 := HK.out.base
      clear r0
      have hR := Lib.hid (show riseTo t2 (k + 1) = riseTo t2 k + gI t2 k from rfl)
      have hS := Lib.hid (show sinkTo g t1 t3 (k + 1) = mx3 (sinkTo g t1 t3 k - gI t3 k) 0 (sinksTo g.depths (gI t1 k) g.depths.length) from rfl)
      have hrk : 0 ≤ riseTo t2 k + gI t2 k ∧ riseTo t2 k + gI t2 k ≤ 100000 := by have := riseTo_bd HK.out HT.out.2 (d := k + 1) (by omega); rw [hR.out] at this; omega
      have hsk : 0 ≤ mx3 (sinkTo g t1 t3 k - gI t3 k) 0 (sinksTo g.depths (gI t1 k) g.depths.length) ∧ mx3 (sinkTo g t1 t3 k - gI t3 k) 0 (sinksTo g.depths (gI t1 k) g.depths.length) ≤ 100000 := by have := sinkTo_bd HK.out HT.out.2 (d := k + 1) (by omega); rw [hS.out] at this; omega
      go_wp2_with fail
      refine wp_region_ext_mix 15 [(false, 0), (false, 1), (false, 2), (false, 3), (false, 4), (false, 5), (false, 6), (false, 7), (false, 8), (false, 9), (false, 10), (false, 11), (false, 12), (true, 13), (true, 14)] (by kernel_rfl) (by kernel_rfl) (by intro d _ _ _ _ h; cases d <;> exact h) ?_
      have hX0 := (Below.refl wr.heap.size wr).drew
      repeat (refine mix_quiet rfl ?_; go_big_quiet_step (fail); refine wpQuiet_nil ?_)
      refine mix_loud rfl ?_
      go_wp2_with fail
      refine (SinksR_any g _ _ _ _ _ wr.drew ((hg.below (ex_trans hbl hX0)).up (ex_trans hbl hX0).size) hl5).mono ?_
      rintro e x1 ⟨rfl, hx1⟩
      have hX1 := ex_trans hX0 hx1
      go_wp2_with fail
      refine ⟨inEx hX1, ?_⟩
      refine mix_loud rfl ?_
      refine wpList_max3 _ rfl _ _ _ _ rfl (sinkTo g t1 t3 k - gI t3 k) 0 (sinksTo g.depths (gI t1 k) g.depths.length) rfl rfl rfl ?_
      generalize mx3 (sinkTo g t1 t3 k - gI t3 k) 0 (sinksTo g.depths (gI t1 k) g.depths.length) = sk at *
      refine ⟨inEx hX1, ?_⟩
      refine mix_nil rfl ?_
      have hB1 := ex_trans hbl hX1
      have y1 := hq1.below hX1 l1
      have y2 := hq2.below hX1 l2
      have n0 : x1.cell? ⟨w.heap.size, 0, none⟩ = some (.int .i64 g.base) := y1.cell 0
      have hown1 := own_below hown hX1
      generalize riseTo t2 k + gI t2 k = rk at *
      have y4 := hown1.alloc (.cells #[.int .i64 (g.base + rk - sk)] 3)
      have hlen : (playTo g t1 t2 t3 k).length = k := playTo_len
      have c63 : (playTo g t1 t2 t3 k).length + 1 ≤ maxLen := by rw [hlen]; unfold maxLen; omega
      have cby : ((playTo g t1 t2 t3 k).length + 1) * 8 ≤ 140737488355328 := by rw [hlen]; omega
      have HLEN := Lib.hid hlen
      clear hlen
      have hbase3 : w.heap.size + 1 + 1 ≤ x1.heap.size + 1 := by have := y2.lt; omega
      go_wp2_with (at_builtin; refine wpList_append_lies _ rfl _ _ _ rfl (w.heap.size + 1 + 1) 3 i0 _ 1 8 Try.underlying54 HI.out hz0 hz1 hz2 rfl (by omega) u7 _ _ rfl y4 ⟨x1.heap.size, 0, none⟩ 1 1 [.int .i64 (g.base + rk - sk)] rfl rfl (World.news_of_block (heap_alloc_new x1 _)) (by simp [Value.oneCell']) (by omega) c63 cby (by simpa using hbase3) (x1.heap.size + 1) (by simp) ?_; intro gg cap w1 hown' hgrow hat hlt')
      go_roundw
      case rel =>
        have hz : zAt g t1 t2 t3 k = g.base + rk - sk := by unfold zAt; rw [hR.out, hS.out]
        refine ⟨k + 1, by omega, by go_num, by rw [hR.out], by rw [hS.out], (ex_alloc hB1 _).grown hgrow (by simp; omega) (fun j hj => Nat.le_trans (by omega) (own_ge hown1 hj)), (y1.alloc _).grown hgrow (own_blk hown1 (by omega)), (y2.alloc _).grown hgrow (own_blk hown1 (by omega)), ?_⟩
        rw [playTo_succ, hz]; exact own_snoc rfl hown'
      case measure => simp [intOf]; omega
    · have HK2 : Hid (k = h.length) := Lib.hid (by omega)
      have z1 : ¬ k < t1.length := by rw [HT.out.1.1]; exact hlt
      go_wp2
      go_ret
      exact ⟨⟨_, rfl, by rw [← HK2.out]; exact own_base hown (by omega)⟩, hbl⟩

end Go.Proofs.Ytlgmeofpkfliaaa
end

section
namespace Go.Proofs.Ytlgmeofpkfliaaa
open Go.RowKit
attribute [local go_sem] Ex.cell? Ex.frozen? Gx.cell?

def fU (l : List Int) (k _j : Nat) : Value := .int .u16 (gI l k)
theorem IsWords.at_ {w : World} {B : Nat} {A : Option Addr} {l : List Int} (h : SlAt w B 1 A l.length (fU l)) {k : Nat} (hk : k < l.length) : ∃ b off, A = some ⟨b, off, none⟩ ∧ b < B ∧ w.cell? ⟨b, off + k, none⟩ = some (.int .u16 (gI l k)) := by
  obtain ⟨b, off, rfl, hb, hc⟩ := h (by omega)
  have := hc k 0 hk (by omega)
  exact ⟨b, off, rfl, hb, by simpa [fU] using this⟩

set_option maxHeartbeats 800000 in
theorem word_any (A : Option Addr) (c : Nat) (l : List Int) (at_ : Int) (w : World) (hA : SlAt w w.heap.size 1 A l.length (fU l)) (hw : ∀ k, k < l.length → 0 ≤ gI l k ∧ gI l k ≤ 65535) (h0 : 0 ≤ at_) (h1 : at_ ≤ 1000) (hl : l.length ≤ maxLen) :
    Calls Try.prog 63 #[.slice A l.length c, .int .i64 at_] w fun e w' => (∃ n : Int, e = .returned (.int .i64 n) ∧ 0 ≤ n ∧ n ≤ 65535) ∧ Below w.heap.size w w' := by
  unfold maxLen at hl
  by_cases h : l.length = 0
  · have HL := Lib.hid h
    clear h
    go_enter Try.func63, Try.ntmps63
    rw [HL.out]
    go_wp2
    go_ret
    exact ⟨⟨0, rfl, by omega, by omega⟩, Below.refl _ _⟩
  · have hk : (at_ % (l.length : Int)).toNat < l.length := by
      have := Int.emod_lt_of_pos at_ (show (0 : Int) < (l.length : Int) by omega)
      have := Int.emod_nonneg at_ (show (l.length : Int) ≠ 0 by omega)
      omega
    have hr0 := Int.emod_nonneg at_ (show (l.length : Int) ≠ 0 by omega)
    have hr1 := Int.emod_lt_of_pos at_ (show (0 : Int) < (l.length : Int) by omega)
    obtain ⟨m, hm⟩ : ∃ m : Nat, at_ % (l.length : Int) = (m : Int) := ⟨(at_ % (l.length : Int)).toNat, by omega⟩
    have hmk : m < l.length := by omega
    obtain ⟨b, off, rfl, hb, hc⟩ := IsWords.at_ hA hmk
    have hv := hw _ hmk
    have e0 : ((l.length : Int) == 0) = false := by simpa using h
    have e0' : (l.length == 0) = false := by simpa using h
    have h1l : (1 : Int) ≤ (l.length : Int) := by omega
    have e2 : IntKind.i64.wrap (gI l m) = gI l m := IntWalk.i64_in _ (by omega)
    clear hk hr0 hr1
    go_enter Try.func63, Try.ntmps63
    go_wp2
    go_ret
    exact ⟨⟨_, rfl, hv.1, hv.2⟩, Below.refl _ _⟩


set_option maxHeartbeats 800000 in
theorem picked_any (lo hi n : Int) (w : World) (h0 : 0 ≤ n) (h1 : n ≤ 65535) (hl : -100000 ≤ lo) (hlh : lo ≤ hi) (hh : hi ≤ 100000) :
    Calls Try.prog 64 #[.agg #[.int .i64 lo, .int .i64 hi], .int .i64 n] w fun e w' => (∃ x : Int, e = .returned (.int .i64 x) ∧ lo ≤ x ∧ x ≤ hi) ∧ Below w.heap.size w w' := by
  have hb := ex_alloc (Below.refl w.heap.size w) (.cells #[.int .i64 lo, .int .i64 hi] 25)
  by_cases c0 : n % 4 = 0
  · have e0 : (n % 4 == 0) = true := by simp [c0]
    go_enter Try.func64, Try.ntmps64
    go_wp2
    go_ret
    exact ⟨⟨lo, rfl, by omega, by omega⟩, hb⟩
  have e0 : (n % 4 == 0) = false := by simp [c0]
  by_cases c1 : n % 4 = 1
  · have e1 : (n % 4 == 1) = true := by simp [c1]
    go_enter Try.func64, Try.ntmps64
    go_wp2
    go_ret
    exact ⟨⟨hi, rfl, by omega, by omega⟩, hb⟩
  have e1 : (n % 4 == 1) = false := by simp [c1]
  clear c0 c1
  go_enter Try.func64, Try.ntmps64
  go_wp2
  have k0 : (hi - lo + 1 == 0) = false := by rw [beq_eq_false_iff_ne]; omega
  have k1 : IntKind.i64.wrap (hi - lo) = hi - lo := IntWalk.i64_in _ (by omega)
  have k2 : IntKind.i64.wrap (hi - lo + 1) = hi - lo + 1 := IntWalk.i64_in _ (by omega)
  have k3 : IntKind.i64.wrap (n.tdiv 4) = n / 4 := by rw [Int.tdiv_eq_ediv_of_nonneg h0]; exact IntWalk.i64_in _ (by omega)
  have r0 : 0 ≤ (n / 4) % (hi - lo + 1) := Int.emod_nonneg _ (by omega)
  have r1 : (n / 4) % (hi - lo + 1) < hi - lo + 1 := Int.emod_lt_of_pos _ (by omega)
  have k4 : IntKind.i64.wrap ((n / 4).tmod (hi - lo + 1)) = (n / 4) % (hi - lo + 1) := by rw [Int.tmod_eq_emod_of_nonneg (by omega)]; exact IntWalk.i64_in _ (by omega)
  have k5 : IntKind.i64.wrap (lo + (n / 4) % (hi - lo + 1)) = lo + (n / 4) % (hi - lo + 1) := IntWalk.i64_in _ (by omega)
  refine wp_region_ext (by kernel_rfl) (by kernel_rfl) ?_
  repeat (any_goals (go_big_quiet_step (fail)))
  refine wpQuiet_nil ?_; intro _ hw'; obtain ⟨X, rfl⟩ := hw'
  go_wp2
  go_ret
  exact ⟨⟨_, rfl, by omega, by omega⟩, ex_trans hb X.h⟩

end Go.Proofs.Ytlgmeofpkfliaaa
end

section
namespace Go.Proofs.Ytlgmeofpkfliaaa
open Go.RowKit
attribute [local go_sem] Ex.cell? Ex.frozen? Gx.cell?

/-- where three lists lie that the call makes, in a struct of its own. -/
structure TR (gc : Array Value) (w : World) (v1 v2 v3 : Value) (l1 l2 l3 : List Int) (W : World) : Prop where
  bw : Below w.heap.size w W
  q1 : Blk W w.heap.size 27 gc
  qr : Blk W (w.heap.size + 1) 56 #[.slice none 0 0, .slice none 0 0, .slice none 0 0]
  qp : Blk W (w.heap.size + 1 + 1) 56 #[v1, v2, v3]
  o1 : W.ownsRow (w.heap.size + 1 + 1) 3 1 v1 l1.length (l1.map (Value.int .i64))
  o2 : W.ownsRow (w.heap.size + 1 + 1) 3 1 v2 l2.length (l2.map (Value.int .i64))
  o3 : W.ownsRow (w.heap.size + 1 + 1) 3 1 v3 l3.length (l3.map (Value.int .i64))
  n12 : ∀ b, v1.ownBlock = some b → v2.ownBlock ≠ some b
  n13 : ∀ b, v1.ownBlock = some b → v3.ownBlock ≠ some b
  n23 : ∀ b, v2.ownBlock = some b → v3.ownBlock ≠ some b

theorem TR.below {gc : Array Value} {w : World} {v1 v2 v3 : Value} {l1 l2 l3 : List Int} {W W' : World} (h : TR gc w v1 v2 v3 l1 l2 l3 W) (hb : Below W.heap.size W W') : TR gc w v1 v2 v3 l1 l2 l3 W' :=
  ⟨ex_trans h.bw hb, h.q1.below hb h.q1.lt, h.qr.below hb h.qr.lt, h.qp.below hb h.qp.lt, own_below h.o1 hb, own_below h.o2 hb, own_below h.o3 hb, h.n12, h.n13, h.n23⟩

theorem TR.step1 {gc : Array Value} {w : World} {v1 v2 v3 : Value} {l1 l2 l3 : List Int} {W W1 : World} (h : TR gc w v1 v2 v3 l1 l2 l3 W) {gg cap : Nat} {x : Int} (hgB : W.grownBy W1 v1.ownBlock)
    (hown : W1.ownsRow (w.heap.size + 1 + 1) 3 1 (.slice (some ⟨gg, 0, none⟩) (l1.length + 1) cap) (l1.length + 1) (l1.map (Value.int .i64) ++ [.int .i64 x])) (hat : v1.ownBlock = some gg ∨ W.heap.size ≤ gg) :
    TR gc w (.slice (some ⟨gg, 0, none⟩) (l1.length + 1) cap) v2 v3 (l1 ++ [x]) l2 l3 (W1.setCell ⟨w.heap.size + 1 + 1, 0, none⟩ (.slice (some ⟨gg, 0, none⟩) (l1.length + 1) cap)) := by
  have hf : Fr (fun b => b = w.heap.size + 1 + 1 ∨ v1.ownBlock = some b) W (W1.setCell ⟨w.heap.size + 1 + 1, 0, none⟩ (.slice (some ⟨gg, 0, none⟩) (l1.length + 1) cap)) := (Fr.grown hgB (fun b hb => .inl (.inr hb))).andSet (.inl rfl)
  have hno : ∀ x, x < w.heap.size + 1 + 1 → ¬ (x = w.heap.size + 1 + 1 ∨ v1.ownBlock = some x) := fun x h1 h2 => by
    rcases h2 with h2 | h2
    · omega
    · have := own_ge h.o1 h2; omega
  have hnp : ¬ some (w.heap.size + 1 + 1) = v1.ownBlock := fun e => own_blkne h.o1 h.qp (by decide) e.symm
  have hq := (h.qp.grown hgB hnp).set_ 0 (.slice (some ⟨gg, 0, none⟩) (l1.length + 1) cap)
  simp only [List.setIfInBounds_toArray, List.set_cons_zero, List.set_cons_succ] at hq
  exact ⟨hf.toBelow h.bw h.bw.size (fun x hx => by
    rcases hx with hx | hx
    · omega
    · have := own_ge h.o1 hx; omega), h.q1.fr hf (hno _ (by omega)), h.qr.fr hf (hno _ (by omega)), hq, own_fr (own_snoc rfl hown) (Fr.set (R := fun b => b = w.heap.size + 1 + 1) _ _ _ _ rfl) (fun b hb hbp => own_blkne hown (h.qp.grown hgB hnp) (by decide) (hbp ▸ hb)), own_fr h.o2 hf (fun b hb hbp => by
    rcases hbp with hbp | hbp
    · exact own_blkne h.o2 h.qp (by decide) (hbp ▸ hb)
    · exact h.n12 b hbp hb), own_fr h.o3 hf (fun b hb hbp => by
    rcases hbp with hbp | hbp
    · exact own_blkne h.o3 h.qp (by decide) (hbp ▸ hb)
    · exact h.n13 b hbp hb), (fun b hb hc => by
    have hb' : gg = b := by simpa [Value.ownBlock] using hb
    subst hb'
    rcases hat with hat | hat
    · exact h.n12 gg hat hc
    · have := own_lt h.o2 hc; omega), (fun b hb hc => by
    have hb' : gg = b := by simpa [Value.ownBlock] using hb
    subst hb'
    rcases hat with hat | hat
    · exact h.n13 gg hat hc
    · have := own_lt h.o3 hc; omega), h.n23⟩

theorem TR.step2 {gc : Array Value} {w : World} {v1 v2 v3 : Value} {l1 l2 l3 : List Int} {W W1 : World} (h : TR gc w v1 v2 v3 l1 l2 l3 W) {gg cap : Nat} {x : Int} (hgB : W.grownBy W1 v2.ownBlock)
    (hown : W1.ownsRow (w.heap.size + 1 + 1) 3 1 (.slice (some ⟨gg, 0, none⟩) (l2.length + 1) cap) (l2.length + 1) (l2.map (Value.int .i64) ++ [.int .i64 x])) (hat : v2.ownBlock = some gg ∨ W.heap.size ≤ gg) :
    TR gc w v1 (.slice (some ⟨gg, 0, none⟩) (l2.length + 1) cap) v3 l1 (l2 ++ [x]) l3 (W1.setCell ⟨w.heap.size + 1 + 1, 1, none⟩ (.slice (some ⟨gg, 0, none⟩) (l2.length + 1) cap)) := by
  have hf : Fr (fun b => b = w.heap.size + 1 + 1 ∨ v2.ownBlock = some b) W (W1.setCell ⟨w.heap.size + 1 + 1, 1, none⟩ (.slice (some ⟨gg, 0, none⟩) (l2.length + 1) cap)) := (Fr.grown hgB (fun b hb => .inl (.inr hb))).andSet (.inl rfl)
  have hno : ∀ x, x < w.heap.size + 1 + 1 → ¬ (x = w.heap.size + 1 + 1 ∨ v2.ownBlock = some x) := fun x h1 h2 => by
    rcases h2 with h2 | h2
    · omega
    · have := own_ge h.o2 h2; omega
  have hnp : ¬ some (w.heap.size + 1 + 1) = v2.ownBlock := fun e => own_blkne h.o2 h.qp (by decide) e.symm
  have hq := (h.qp.grown hgB hnp).set_ 1 (.slice (some ⟨gg, 0, none⟩) (l2.length + 1) cap)
  simp only [List.setIfInBounds_toArray, List.set_cons_zero, List.set_cons_succ] at hq
  exact ⟨hf.toBelow h.bw h.bw.size (fun x hx => by
    rcases hx with hx | hx
    · omega
    · have := own_ge h.o2 hx; omega), h.q1.fr hf (hno _ (by omega)), h.qr.fr hf (hno _ (by omega)), hq, own_fr h.o1 hf (fun b hb hbp => by
    rcases hbp with hbp | hbp
    · exact own_blkne h.o1 h.qp (by decide) (hbp ▸ hb)
    · exact h.n12 b hb hbp), own_fr (own_snoc rfl hown) (Fr.set (R := fun b => b = w.heap.size + 1 + 1) _ _ _ _ rfl) (fun b hb hbp => own_blkne hown (h.qp.grown hgB hnp) (by decide) (hbp ▸ hb)), own_fr h.o3 hf (fun b hb hbp => by
    rcases hbp with hbp | hbp
    · exact own_blkne h.o3 h.qp (by decide) (hbp ▸ hb)
    · exact h.n23 b hbp hb), (fun b hb hc => by
    have hb' : gg = b := by simpa [Value.ownBlock] using hc
    subst hb'
    rcases hat with hat | hat
    · exact h.n12 gg hb hat
    · have := own_lt h.o1 hb; omega), h.n13, (fun b hb hc => by
    have hb' : gg = b := by simpa [Value.ownBlock] using hb
    subst hb'
    rcases hat with hat | hat
    · exact h.n23 gg hat hc
    · have := own_lt h.o3 hc; omega)⟩

theorem TR.step3 {gc : Array Value} {w : World} {v1 v2 v3 : Value} {l1 l2 l3 : List Int} {W W1 : World} (h : TR gc w v1 v2 v3 l1 l2 l3 W) {gg cap : Nat} {x : Int} (hgB : W.grownBy W1 v3.ownBlock)
    (hown : W1.ownsRow (w.heap.size + 1 + 1) 3 1 (.slice (some ⟨gg, 0, none⟩) (l3.length + 1) cap) (l3.length + 1) (l3.map (Value.int .i64) ++ [.int .i64 x])) (hat : v3.ownBlock = some gg ∨ W.heap.size ≤ gg) :
    TR gc w v1 v2 (.slice (some ⟨gg, 0, none⟩) (l3.length + 1) cap) l1 l2 (l3 ++ [x]) (W1.setCell ⟨w.heap.size + 1 + 1, 2, none⟩ (.slice (some ⟨gg, 0, none⟩) (l3.length + 1) cap)) := by
  have hf : Fr (fun b => b = w.heap.size + 1 + 1 ∨ v3.ownBlock = some b) W (W1.setCell ⟨w.heap.size + 1 + 1, 2, none⟩ (.slice (some ⟨gg, 0, none⟩) (l3.length + 1) cap)) := (Fr.grown hgB (fun b hb => .inl (.inr hb))).andSet (.inl rfl)
  have hno : ∀ x, x < w.heap.size + 1 + 1 → ¬ (x = w.heap.size + 1 + 1 ∨ v3.ownBlock = some x) := fun x h1 h2 => by
    rcases h2 with h2 | h2
    · omega
    · have := own_ge h.o3 h2; omega
  have hnp : ¬ some (w.heap.size + 1 + 1) = v3.ownBlock := fun e => own_blkne h.o3 h.qp (by decide) e.symm
  have hq := (h.qp.grown hgB hnp).set_ 2 (.slice (some ⟨gg, 0, none⟩) (l3.length + 1) cap)
  simp only [List.setIfInBounds_toArray, List.set_cons_zero, List.set_cons_succ] at hq
  exact ⟨hf.toBelow h.bw h.bw.size (fun x hx => by
    rcases hx with hx | hx
    · omega
    · have := own_ge h.o3 hx; omega), h.q1.fr hf (hno _ (by omega)), h.qr.fr hf (hno _ (by omega)), hq, own_fr h.o1 hf (fun b hb hbp => by
    rcases hbp with hbp | hbp
    · exact own_blkne h.o1 h.qp (by decide) (hbp ▸ hb)
    · exact h.n13 b hb hbp), own_fr h.o2 hf (fun b hb hbp => by
    rcases hbp with hbp | hbp
    · exact own_blkne h.o2 h.qp (by decide) (hbp ▸ hb)
    · exact h.n23 b hb hbp), own_fr (own_snoc rfl hown) (Fr.set (R := fun b => b = w.heap.size + 1 + 1) _ _ _ _ rfl) (fun b hb hbp => own_blkne hown (h.qp.grown hgB hnp) (by decide) (hbp ▸ hb)), h.n12, (fun b hb hc => by
    have hb' : gg = b := by simpa [Value.ownBlock] using hc
    subst hb'
    rcases hat with hat | hat
    · exact h.n13 gg hb hat
    · have := own_lt h.o1 hb; omega), (fun b hb hc => by
    have hb' : gg = b := by simpa [Value.ownBlock] using hc
    subst hb'
    rcases hat with hat | hat
    · exact h.n23 gg hb hat
    · have := own_lt h.o2 hb; omega)⟩

theorem gI_snoc {l : List Int} {x : Int} {j : Nat} (h : j < l.length) : gI (l ++ [x]) j = gI l j := by simp [gI, List.getElem?_append, h]
theorem gI_last {l : List Int} {x : Int} : gI (l ++ [x]) l.length = x := by simp [gI]

end Go.Proofs.Ytlgmeofpkfliaaa
end

section
namespace Go.Proofs.Ytlgmeofpkfliaaa
open Go.RowKit
attribute [local go_sem] Ex.cell? Ex.frozen? Gx.cell?

theorem dayOk_snoc {g : Gl} {h : List Rg} {l1 l2 l3 : List Int} {x1 x2 x3 : Int} {k : Nat} (e1 : l1.length = k) (e2 : l2.length = k) (e3 : l3.length = k) (hd : ∀ j, j < k → dayOk g h l1 l2 l3 j = true)
    (h1 : (gR h k).lo ≤ x1 ∧ x1 ≤ (gR h k).hi) (h2 : (creep g k).lo ≤ x2 ∧ x2 ≤ (creep g k).hi) (h3 : g.blo ≤ x3 ∧ x3 ≤ g.bhi) : ∀ j, j < k + 1 → dayOk g h (l1 ++ [x1]) (l2 ++ [x2]) (l3 ++ [x3]) j = true := fun j hj => by
  rcases Nat.lt_succ_iff_lt_or_eq.1 hj with hj | hj
  · have := dayOk_iff.1 (hd j hj)
    rw [dayOk_iff, gI_snoc (by omega), gI_snoc (by omega), gI_snoc (by omega)]
    exact this
  · subst hj
    have g1 : gI (l1 ++ [x1]) j = x1 := by have := gI_last (l := l1) (x := x1); rwa [e1] at this
    have g2 : gI (l2 ++ [x2]) j = x2 := by have := gI_last (l := l2) (x := x2); rwa [e2] at this
    have g3 : gI (l3 ++ [x3]) j = x3 := by have := gI_last (l := l3) (x := x3); rwa [e3] at this
    rw [dayOk_iff, g1, g2, g3]
    exact ⟨h1, h2, h3⟩

set_option maxRecDepth 100000 in
set_option maxHeartbeats 6400000 in
theorem Picked_any (g : Gl) (Ab Ad Ah Aw : Option Addr) (cb cd ch cw : Nat) (h : List Rg) (ws : List Int) (w : World) (hg : GlIn w w.heap.size g Ab Ad) (hh : SlAt w w.heap.size 2 Ah h.length (fR h)) (hw : SlAt w w.heap.size 1 Aw ws.length (fU ws))
    (hwb : ∀ k, k < ws.length → 0 ≤ gI ws k ∧ gI ws k ≤ 65535) (hwl : ws.length ≤ maxLen) (hok : Ok g h) :
    Calls Try.prog 29 #[.agg #[.int .i64 g.base, .slice Ab g.bands.length cb, .slice Ad g.depths.length cd, .int .i64 g.blo, .int .i64 g.bhi], .slice Ah h.length ch, .slice Aw ws.length cw] w fun e w' => (∃ A1 A2 A3 c1 c2 c3, ∃ t1 t2 t3 : List Int, e = .returned (.agg #[.slice A1 t1.length c1, .slice A2 t2.length c2, .slice A3 t3.length c3]) ∧ truthB g h t1 t2 t3 = true ∧
      SlAt w' w'.heap.size 1 A1 t1.length (fI t1) ∧ SlAt w' w'.heap.size 1 A2 t2.length (fI t2) ∧ SlAt w' w'.heap.size 1 A3 t3.length (fI t3)) ∧ Below w.heap.size w w' := by
  obtain ⟨i0, hi0, hz0', hz1', hz2'⟩ := info_parts int_info
  have HI := Lib.hid hi0
  clear hi0
  have hb1 := ex_alloc (ex_alloc (ex_alloc (Below.refl w.heap.size w) (.cells #[.int .i64 g.base, .slice Ab g.bands.length cb, .slice Ad g.depths.length cd, .int .i64 g.blo, .int .i64 g.bhi] 27)) (.cells #[.slice none 0 0, .slice none 0 0, .slice none 0 0] 56)) (.cells #[.slice none 0 0, .slice none 0 0, .slice none 0 0] 56)
  have hnh := hok.nh.2
  have hlb : g.bands.length ≤ 1000000 := by have := hok.nb; omega
  have HK := Lib.hid hok
  clear hok
  go_enter Try.func29, Try.ntmps29
  go_wp2_with fail
  go_loopw [8] (fun i wr => ∃ (k : Nat) (v1 v2 v3 : Value) (l1 l2 l3 : List Int), k ≤ h.length ∧ i = .int .i64 k ∧ TR #[.int .i64 g.base, .slice Ab g.bands.length cb, .slice Ad g.depths.length cd, .int .i64 g.blo, .int .i64 g.bhi] w v1 v2 v3 l1 l2 l3 wr ∧ l1.length = k ∧ l2.length = k ∧ l3.length = k ∧ ∀ j, j < k → dayOk g h l1 l2 l3 j = true)
    (fun i _ => h.length - (intOf i).toNat)
  case atStart => exact ⟨0, _, _, _, [], [], [], by omega, rfl, ⟨hb1, ((Blk.new _ _ _).alloc _).alloc _, (Blk.new' _ _ _ (by simp)).alloc _, Blk.new' _ _ _ (by simp), ⟨rfl, .inl ⟨rfl, rfl⟩⟩, ⟨rfl, .inl ⟨rfl, rfl⟩⟩, ⟨rfl, .inl ⟨rfl, rfl⟩⟩, fun b hb => by simp [Value.ownBlock] at hb, fun b hb => by simp [Value.ownBlock] at hb, fun b hb => by simp [Value.ownBlock] at hb⟩, rfl, rfl, rfl, fun j hj => by omega⟩
  case round =>
    obtain ⟨k, v1, v2, v3, l1, l2, l3, hk, rfl, T0, hl1, hl2, hl3, hdays⟩ := hrel
    have HL1 := Lib.hid hl1
    have HL2 := Lib.hid hl2
    have HL3 := Lib.hid hl3
    have HDAYS := Lib.hid hdays
    clear hl1 hl2 hl3 hdays hb1
    by_cases hlt : k < h.length
    · have r1 := HK.out.heats k hlt
      have r2 : 0 ≤ (creepTo g.bands (k : Int) g.bands.length).lo ∧ (creepTo g.bands (k : Int) g.bands.length).lo ≤ (creepTo g.bands (k : Int) g.bands.length).hi ∧ (creepTo g.bands (k : Int) g.bands.length).hi ≤ 3 := HK.out.creep k
      have r3 := HK.out.back
      have m1 : IntKind.i64.wrap (3 * (k : Int)) = 3 * (k : Int) := IntWalk.i64_in _ (by omega)
      have m2 : IntKind.i64.wrap (3 * (k : Int) + 1) = 3 * (k : Int) + 1 := IntWalk.i64_in _ (by omega)
      have m3 : IntKind.i64.wrap (3 * (k : Int) + 2) = 3 * (k : Int) + 2 := IntWalk.i64_in _ (by omega)

      -- list 1
      obtain ⟨row, hrow⟩ : ∃ row, v1.ownBlock = row := ⟨_, rfl⟩
      have lg := T0.q1.lt
      have lp := T0.qp.lt
      have e1 : wr.cell? ⟨w.heap.size + 1 + 1, 0, none⟩ = some v1 := T0.qp.cell 0
      have hn2 : ¬ some w.heap.size = row := fun e => by have := own_ge T0.o1 (hrow.trans e.symm); omega
      have hn3 : ¬ some (w.heap.size + 1 + 1) = row := fun e => own_blkne T0.o1 T0.qp (by decide) (hrow.trans e.symm)
      have hown := T0.o1
      have hwr := T0.bw
      have hwrs := T0.bw.size
      obtain ⟨bh, oh, rfl, hbh, s0, s1⟩ := IsRgs.at_ (hh.below hwr) hlt
      have hbr : bh < wr.heap.size := by omega
      have hn1 : ¬ some bh = row := fun e => by have := own_ge hown (hrow.trans e.symm); omega
      have HROW := Lib.hid hrow
      have HT1 := Lib.hid T0
      clear hrow T0
      go_wp2_with fail
      refine wp_region_gx_mix row 13 [(false, 0), (false, 1), (false, 2), (false, 3), (false, 4), (false, 5), (false, 6), (false, 7), (false, 8), (true, 9), (true, 10), (true, 11), (true, 12)] (by kernel_rfl) (by kernel_rfl) (by intro d _ _ _ _ h; cases d <;> exact h) ?_
      repeat (refine mix_quiet rfl ?_; go_big_quiet_step (fail); refine wpQuiet_nil ?_)
      have hX0 := (Below.refl wr.heap.size wr).drew
      refine mix_loud rfl ?_
      go_wp2_with fail
      refine (word_any _ _ ws _ wr.drew ((hw.below (ex_trans hwr hX0)).up (ex_trans hwr hX0).size) hwb (by omega) (by omega) hwl).mono ?_
      rintro e x1 ⟨⟨n, rfl, hn0, hn65⟩, hx1⟩
      have hX1 := ex_trans hX0 hx1
      go_wp2_with fail
      refine ⟨inGx (grown_row hX1), ?_⟩
      refine mix_loud rfl ?_
      go_wp2_with fail
      refine (picked_any (gR h k).lo (gR h k).hi n _ hn0 hn65 (by omega) (by omega) (by omega)).mono ?_
      rintro e x2 ⟨⟨y1, rfl, hy1, hz1⟩, hx2⟩
      have hX2 := ex_trans hX1 hx2
      go_wp2_with fail
      refine ⟨inGx (grown_row hX2), ?_⟩
      refine mix_loud rfl ?_
      go_wp2_with fail
      have hX3 := ex_alloc hX2 (.cells #[.int .i64 y1] 3)
      refine ⟨inGx (grown_row hX3), ?_⟩
      have y4 := own_below hown hX3
      have c63 : l1.length + 1 ≤ maxLen := by have := HL1.out; unfold maxLen; omega
      have cby : (l1.length + 1) * 8 ≤ 140737488355328 := by have := HL1.out; omega
      have hbase : w.heap.size + 1 + 1 ≤ (x2.alloc (.cells #[.int .i64 y1] 3)).heap.size := by have := hX2.size; simp; omega
      refine mix_loud rfl ?_
      go_wp2_with (at_builtin; refine wpList_append_lies _ rfl _ _ _ rfl (w.heap.size + 1 + 1) 3 i0 _ 1 8 Try.underlying54 HI.out hz0' hz1' hz2' rfl (by omega) v1 _ _ rfl y4 ⟨x2.heap.size, 0, none⟩ 1 1 [.int .i64 y1] rfl rfl (World.news_of_block (heap_alloc_new x2 _)) (by simp [Value.oneCell']) (by omega) c63 cby hbase (x2.heap.size + 1) (by simp) ?_; intro gg cap w1 hown' hgrow hat hlt')
      have hat' : v1.ownBlock = some gg ∨ wr.heap.size ≤ gg := hat.imp id (fun e => by have := hX2.size; omega)
      rw [HROW.out] at hgrow
      have hgB := (grown_row (r := row) hX3).andThen hgrow (fun j hj => .inr hj)
      refine ⟨inGx hgB, ?_⟩
      refine mix_nil rfl ?_
      have T1 := HT1.out.step1 (by rw [HROW.out]; exact hgB) hown' hat'
      have qp1 := HT1.out.qp.grown hgB hn3
      have e2 : w1.cell? ⟨w.heap.size + 1 + 1, 0, none⟩ = some v1 := qp1.cell 0
      have f2 := qp1.frozen 0
      have lp1 := qp1.lt
      go_wp2_with fail
      generalize hWW : w1.setCell ⟨w.heap.size + 1 + 1, 0, none⟩ (.slice (some ⟨gg, 0, none⟩) (l1.length + 1) cap) = W1 at *
      generalize hVV : Value.slice (some ⟨gg, 0, none⟩) (l1.length + 1) cap = u1 at *
      clear hWW hVV e1 e2 f2 lp1 qp1 hgB hat hat' hgrow hown' hlt' y4 hbase hX3 hX2 hX1 hX0 HROW hn2 hn3 lg lp hown hwr hwrs HT1 c63 cby

      -- list 2
      obtain ⟨row, hrow⟩ : ∃ row, v2.ownBlock = row := ⟨_, rfl⟩
      have lg := T1.q1.lt
      have lp := T1.qp.lt
      have e1 : W1.cell? ⟨w.heap.size + 1 + 1, 1, none⟩ = some v2 := T1.qp.cell 1
      have hn2 : ¬ some w.heap.size = row := fun e => by have := own_ge T1.o2 (hrow.trans e.symm); omega
      have hn3 : ¬ some (w.heap.size + 1 + 1) = row := fun e => own_blkne T1.o2 T1.qp (by decide) (hrow.trans e.symm)
      have hown := T1.o2
      have hwr := T1.bw
      have hwrs := T1.bw.size
      have a0 : W1.cell? ⟨w.heap.size, 0, none⟩ = some (.int .i64 g.base) := T1.q1.cell 0
      have a1 : W1.cell? ⟨w.heap.size, 1, none⟩ = some (.slice Ab g.bands.length cb) := T1.q1.cell 1
      have a2 : W1.cell? ⟨w.heap.size, 2, none⟩ = some (.slice Ad g.depths.length cd) := T1.q1.cell 2
      have a3 : W1.cell? ⟨w.heap.size, 3, none⟩ = some (.int .i64 g.blo) := T1.q1.cell 3
      have a4 : W1.cell? ⟨w.heap.size, 4, none⟩ = some (.int .i64 g.bhi) := T1.q1.cell 4
      have HROW := Lib.hid hrow
      have HT2 := Lib.hid T1
      clear hrow T1
      go_wp2_with fail
      refine wp_region_gx_mix row 13 [(false, 0), (false, 1), (false, 2), (false, 3), (false, 5), (false, 6), (false, 7), (false, 8), (true, 4), (true, 9), (true, 10), (true, 11), (true, 12)] (by kernel_rfl) (by kernel_rfl) (by intro d _ _ _ _ h; cases d <;> exact h) ?_
      repeat (refine mix_quiet rfl ?_; go_big_quiet_step (fail); refine wpQuiet_nil ?_)
      have hX0 := (Below.refl W1.heap.size W1).drew
      refine mix_loud rfl ?_
      go_wp2_with fail
      refine (CreepR_any g _ _ _ _ _ W1.drew ((hg.below (ex_trans hwr hX0)).up (ex_trans hwr hX0).size) hlb).mono ?_
      rintro e x0 ⟨rfl, hx0⟩
      have hXc := ex_trans hX0 hx0
      go_wp2_with fail
      refine ⟨inGx (grown_row hXc), ?_⟩
      refine mix_loud rfl ?_
      go_wp2_with fail
      refine (word_any _ _ ws _ x0 ((hw.below (ex_trans hwr hXc)).up (ex_trans hwr hXc).size) hwb (by omega) (by omega) hwl).mono ?_
      rintro e x1 ⟨⟨n, rfl, hn0, hn65⟩, hx1⟩
      have hX1 := ex_trans hXc hx1
      go_wp2_with fail
      refine ⟨inGx (grown_row hX1), ?_⟩
      refine mix_loud rfl ?_
      go_wp2_with fail
      refine (picked_any (creepTo g.bands (k : Int) g.bands.length).lo (creepTo g.bands (k : Int) g.bands.length).hi n _ hn0 hn65 (by omega) (by omega) (by omega)).mono ?_
      rintro e x2 ⟨⟨y2, rfl, hy2, hz2⟩, hx2⟩
      have hX2 := ex_trans hX1 hx2
      go_wp2_with fail
      refine ⟨inGx (grown_row hX2), ?_⟩
      refine mix_loud rfl ?_
      go_wp2_with fail
      have hX3 := ex_alloc hX2 (.cells #[.int .i64 y2] 3)
      refine ⟨inGx (grown_row hX3), ?_⟩
      have y4 := own_below hown hX3
      have c63 : l2.length + 1 ≤ maxLen := by have := HL2.out; unfold maxLen; omega
      have cby : (l2.length + 1) * 8 ≤ 140737488355328 := by have := HL2.out; omega
      have hbase : w.heap.size + 1 + 1 ≤ (x2.alloc (.cells #[.int .i64 y2] 3)).heap.size := by have := hX2.size; simp; omega
      refine mix_loud rfl ?_
      go_wp2_with (at_builtin; refine wpList_append_lies _ rfl _ _ _ rfl (w.heap.size + 1 + 1) 3 i0 _ 1 8 Try.underlying54 HI.out hz0' hz1' hz2' rfl (by omega) v2 _ _ rfl y4 ⟨x2.heap.size, 0, none⟩ 1 1 [.int .i64 y2] rfl rfl (World.news_of_block (heap_alloc_new x2 _)) (by simp [Value.oneCell']) (by omega) c63 cby hbase (x2.heap.size + 1) (by simp) ?_; intro gg cap w1 hown' hgrow hat hlt')
      have hat' : v2.ownBlock = some gg ∨ W1.heap.size ≤ gg := hat.imp id (fun e => by have := hX2.size; omega)
      rw [HROW.out] at hgrow
      have hgB := (grown_row (r := row) hX3).andThen hgrow (fun j hj => .inr hj)
      refine ⟨inGx hgB, ?_⟩
      refine mix_nil rfl ?_
      have T2 := HT2.out.step2 (by rw [HROW.out]; exact hgB) hown' hat'
      have qp1 := HT2.out.qp.grown hgB hn3
      have e2 : w1.cell? ⟨w.heap.size + 1 + 1, 1, none⟩ = some v2 := qp1.cell 1
      have f2 := qp1.frozen 1
      have lp1 := qp1.lt
      go_wp2_with fail
      generalize hWW : w1.setCell ⟨w.heap.size + 1 + 1, 1, none⟩ (.slice (some ⟨gg, 0, none⟩) (l2.length + 1) cap) = W2 at *
      generalize hVV : Value.slice (some ⟨gg, 0, none⟩) (l2.length + 1) cap = u2 at *
      clear hWW hVV e1 e2 f2 lp1 qp1 hgB hat hat' hgrow hown' hlt' y4 hbase hX3 hX2 hX1 hX0 HROW hn2 hn3 lg lp hown hwr hwrs HT2 c63 cby a0 a1 a2 a3 a4

      -- list 3
      obtain ⟨row, hrow⟩ : ∃ row, v3.ownBlock = row := ⟨_, rfl⟩
      have lg := T2.q1.lt
      have lp := T2.qp.lt
      have e1 : W2.cell? ⟨w.heap.size + 1 + 1, 2, none⟩ = some v3 := T2.qp.cell 2
      have hn2 : ¬ some w.heap.size = row := fun e => by have := own_ge T2.o3 (hrow.trans e.symm); omega
      have hn3 : ¬ some (w.heap.size + 1 + 1) = row := fun e => own_blkne T2.o3 T2.qp (by decide) (hrow.trans e.symm)
      have hown := T2.o3
      have hwr := T2.bw
      have hwrs := T2.bw.size
      have a0 : W2.cell? ⟨w.heap.size, 0, none⟩ = some (.int .i64 g.base) := T2.q1.cell 0
      have a1 : W2.cell? ⟨w.heap.size, 1, none⟩ = some (.slice Ab g.bands.length cb) := T2.q1.cell 1
      have a2 : W2.cell? ⟨w.heap.size, 2, none⟩ = some (.slice Ad g.depths.length cd) := T2.q1.cell 2
      have a3 : W2.cell? ⟨w.heap.size, 3, none⟩ = some (.int .i64 g.blo) := T2.q1.cell 3
      have a4 : W2.cell? ⟨w.heap.size, 4, none⟩ = some (.int .i64 g.bhi) := T2.q1.cell 4
      have HROW := Lib.hid hrow
      have HT3 := Lib.hid T2
      clear hrow T2
      go_wp2_with fail
      refine wp_region_gx_mix row 12 [(false, 0), (false, 1), (false, 2), (false, 3), (false, 4), (false, 5), (false, 6), (false, 7), (true, 8), (true, 9), (true, 10), (true, 11)] (by kernel_rfl) (by kernel_rfl) (by intro d _ _ _ _ h; cases d <;> exact h) ?_
      repeat (refine mix_quiet rfl ?_; go_big_quiet_step (fail); refine wpQuiet_nil ?_)
      have hX0 := (Below.refl W2.heap.size W2).drew
      refine mix_loud rfl ?_
      go_wp2_with fail
      refine (word_any _ _ ws _ W2.drew ((hw.below (ex_trans hwr hX0)).up (ex_trans hwr hX0).size) hwb (by omega) (by omega) hwl).mono ?_
      rintro e x1 ⟨⟨n, rfl, hn0, hn65⟩, hx1⟩
      have hX1 := ex_trans hX0 hx1
      go_wp2_with fail
      refine ⟨inGx (grown_row hX1), ?_⟩
      refine mix_loud rfl ?_
      go_wp2_with fail
      refine (picked_any g.blo g.bhi n _ hn0 hn65 (by omega) (by omega) (by omega)).mono ?_
      rintro e x2 ⟨⟨y3, rfl, hy3, hz3⟩, hx2⟩
      have hX2 := ex_trans hX1 hx2
      go_wp2_with fail
      refine ⟨inGx (grown_row hX2), ?_⟩
      refine mix_loud rfl ?_
      go_wp2_with fail
      have hX3 := ex_alloc hX2 (.cells #[.int .i64 y3] 3)
      refine ⟨inGx (grown_row hX3), ?_⟩
      have y4 := own_below hown hX3
      have c63 : l3.length + 1 ≤ maxLen := by have := HL3.out; unfold maxLen; omega
      have cby : (l3.length + 1) * 8 ≤ 140737488355328 := by have := HL3.out; omega
      have hbase : w.heap.size + 1 + 1 ≤ (x2.alloc (.cells #[.int .i64 y3] 3)).heap.size := by have := hX2.size; simp; omega
      refine mix_loud rfl ?_
      go_wp2_with (at_builtin; refine wpList_append_lies _ rfl _ _ _ rfl (w.heap.size + 1 + 1) 3 i0 _ 1 8 Try.underlying54 HI.out hz0' hz1' hz2' rfl (by omega) v3 _ _ rfl y4 ⟨x2.heap.size, 0, none⟩ 1 1 [.int .i64 y3] rfl rfl (World.news_of_block (heap_alloc_new x2 _)) (by simp [Value.oneCell']) (by omega) c63 cby hbase (x2.heap.size + 1) (by simp) ?_; intro gg cap w1 hown' hgrow hat hlt')
      have hat' : v3.ownBlock = some gg ∨ W2.heap.size ≤ gg := hat.imp id (fun e => by have := hX2.size; omega)
      rw [HROW.out] at hgrow
      have hgB := (grown_row (r := row) hX3).andThen hgrow (fun j hj => .inr hj)
      refine ⟨inGx hgB, ?_⟩
      refine mix_nil rfl ?_
      have T3 := HT3.out.step3 (by rw [HROW.out]; exact hgB) hown' hat'
      have qp1 := HT3.out.qp.grown hgB hn3
      have e2 : w1.cell? ⟨w.heap.size + 1 + 1, 2, none⟩ = some v3 := qp1.cell 2
      have f2 := qp1.frozen 2
      have lp1 := qp1.lt
      go_wp2_with fail
      generalize hWW : w1.setCell ⟨w.heap.size + 1 + 1, 2, none⟩ (.slice (some ⟨gg, 0, none⟩) (l3.length + 1) cap) = W3 at *
      generalize hVV : Value.slice (some ⟨gg, 0, none⟩) (l3.length + 1) cap = u3 at *
      clear hWW hVV e1 e2 f2 lp1 qp1 hgB hat hat' hgrow hown' hlt' y4 hbase hX3 hX2 hX1 hX0 HROW hn2 hn3 lg lp hown hwr hwrs HT3 c63 cby a0 a1 a2 a3 a4
      go_roundw
      case rel => exact ⟨k + 1, _, _, _, _, _, _, by omega, by go_num, T3, by simp [HL1.out], by simp [HL2.out], by simp [HL3.out], dayOk_snoc HL1.out HL2.out HL3.out HDAYS.out ⟨hy1, hz1⟩ ⟨hy2, hz2⟩ ⟨hy3, hz3⟩⟩
      case measure => simp [intOf]; omega
    · have HKH : Hid (k = h.length) := Lib.hid (by omega)
      obtain ⟨A1, c1, rfl, _, s1⟩ := own_sl T0.o1
      obtain ⟨A2, c2, rfl, _, s2⟩ := own_sl T0.o2
      obtain ⟨A3, c3, rfl, _, s3⟩ := own_sl T0.o3
      have b0 : wr.cell? ⟨w.heap.size + 1 + 1, 0, none⟩ = some (.slice A1 l1.length c1) := T0.qp.cell 0
      have b1 : wr.cell? ⟨w.heap.size + 1 + 1, 1, none⟩ = some (.slice A2 l2.length c2) := T0.qp.cell 1
      have b2 : wr.cell? ⟨w.heap.size + 1 + 1, 2, none⟩ = some (.slice A3 l3.length c3) := T0.qp.cell 2
      have lp := T0.qp.lt
      have d0 : wr.cell? ⟨w.heap.size + 1, 0, none⟩ = some (.slice none 0 0) := T0.qr.cell 0
      have d1 : wr.cell? ⟨w.heap.size + 1, 1, none⟩ = some (.slice none 0 0) := T0.qr.cell 1
      have d2 : wr.cell? ⟨w.heap.size + 1, 2, none⟩ = some (.slice none 0 0) := T0.qr.cell 2
      have f0 := T0.qr.frozen 0
      have f1 := T0.qr.frozen 1
      have f2 := T0.qr.frozen 2
      have lr := T0.qr.lt
      have r5 := ((T0.qr.set_ 0 (.slice A1 l1.length c1)).set_ 1 (.slice A2 l2.length c2)).set_ 2 (.slice A3 l3.length c3)
      simp only [List.setIfInBounds_toArray, List.set_cons_zero, List.set_cons_succ] at r5
      have hf : Fr (fun b => b = w.heap.size + 1) wr (((wr.setCell ⟨w.heap.size + 1, 0, none⟩ (.slice A1 l1.length c1)).setCell ⟨w.heap.size + 1, 1, none⟩ (.slice A2 l2.length c2)).setCell ⟨w.heap.size + 1, 2, none⟩ (.slice A3 l3.length c3)) :=
        (((Fr.refl (fun b => b = w.heap.size + 1) wr).andSet rfl).andSet rfl).andSet rfl
      have hB := hf.toBelow T0.bw T0.bw.size (fun x hx => by omega)
      go_wp2
      refine bodyPost_ret (results_cell_row rfl _ _ (w.heap.size + 1) 56 #[.slice A1 l1.length c1, .slice A2 l2.length c2, .slice A3 l3.length c3] (0, 0) _ rfl r5 rfl rfl rfl) rfl ?_
      have o1 := own_fr T0.o1 hf (fun b hb hbp => own_blkne T0.o1 T0.qr (by decide) (hbp ▸ hb))
      have o2 := own_fr T0.o2 hf (fun b hb hbp => own_blkne T0.o2 T0.qr (by decide) (hbp ▸ hb))
      have o3 := own_fr T0.o3 hf (fun b hb hbp => own_blkne T0.o3 T0.qr (by decide) (hbp ▸ hb))
      obtain ⟨A1', c1', e1, _, s1'⟩ := own_sl o1
      obtain ⟨A2', c2', e2, _, s2'⟩ := own_sl o2
      obtain ⟨A3', c3', e3, _, s3'⟩ := own_sl o3
      injection e1 with e1a e1b e1c
      injection e2 with e2a e2b e2c
      injection e3 with e3a e3b e3c
      subst e1a e2a e3a
      exact ⟨⟨_, _, _, c1, c2, c3, l1, l2, l3, rfl, truthB_iff.2 ⟨⟨HL1.out.trans HKH.out, HL2.out.trans HKH.out, HL3.out.trans HKH.out⟩, fun d hd => HDAYS.out d (by rw [HKH.out]; exact hd)⟩, s1', s2', s3'⟩, hB⟩

end Go.Proofs.Ytlgmeofpkfliaaa
end

section
namespace Go.Proofs.Ytlgmeofpkfliaaa
open Go.RowKit
attribute [local go_sem] Ex.cell? Ex.frozen? Gx.cell?

theorem icR_info : (Try.prog.info? 62).map (fun i => (i.zero, i.size, i.bytes)) = some (some (.agg #[.int .i64 0, .int .i64 0, .int .i64 0]), 3, 24) := by kernel_rfl

/-- is the bit 0? -/
def bitOff (b : Int) (i : Nat) : Prop := ¬ (b / 2 ^ i).tmod 2 = 1
/-- what Read tells of its ices. -/
def ReadIs (zs : List Int) (b : Int) (l : List Ic) : Prop := ∀ i, i < l.length → (0 ≤ (gC l i).day ∧ (gC l i).day < zs.length) ∧ (0 ≤ (gC l i).err ∧ (gC l i).err ≤ 3) ∧ (bitOff b i → -(gC l i).err ≤ gI zs (gC l i).day.toNat - (gC l i).zero ∧ gI zs (gC l i).day.toNat - (gC l i).zero ≤ (gC l i).err)

theorem gC_snoc {l : List Ic} {x : Ic} {j : Nat} (h : j < l.length) : gC (l ++ [x]) j = gC l j := by simp [gC, List.getElem?_append, h]
theorem gC_last {l : List Ic} {x : Ic} : gC (l ++ [x]) l.length = x := by simp [gC]
theorem ReadIs.snoc {zs : List Int} {b : Int} {l : List Ic} {d : Nat} {z er : Int} (h : ReadIs zs b l) (hd : d < zs.length) (h0 : 0 ≤ er) (h3 : er ≤ 3) (hz : bitOff b l.length → -er ≤ gI zs d - z ∧ gI zs d - z ≤ er) : ReadIs zs b (l ++ [⟨(d : Int), z, er⟩]) := fun i hi => by
  rw [List.length_append, List.length_singleton] at hi
  rcases Nat.lt_succ_iff_lt_or_eq.1 hi with hj | hj
  · rw [gC_snoc hj]; exact h i hj
  · subst hj
    rw [gC_last]
    exact ⟨⟨by simp, by simpa using hd⟩, ⟨h0, h3⟩, by simpa using hz⟩
theorem gI_play {g : Gl} {t1 t2 t3 : List Int} {n d : Nat} (hd : d < n) : gI (playTo g t1 t2 t3 n) d = zAt g t1 t2 t3 d := by simp [gI, playTo, hd]

set_option maxRecDepth 100000 in
set_option maxHeartbeats 6400000 in
theorem Read_any (g : Gl) (Ab Ad Aw : Option Addr) (cb cd cw : Nat) (h : List Rg) (ws : List Int) (m b : Int) (w : World) (hg : GlIn w w.heap.size g Ab Ad) (A1 A2 A3 : Option Addr) (c1 c2 c3 : Nat) (t1 t2 t3 : List Int) (k1 : SlAt w w.heap.size 1 A1 t1.length (fI t1)) (k2 : SlAt w w.heap.size 1 A2 t2.length (fI t2)) (k3 : SlAt w w.heap.size 1 A3 t3.length (fI t3)) (hw : SlAt w w.heap.size 1 Aw ws.length (fU ws))
    (hwb : ∀ k, k < ws.length → 0 ≤ gI ws k ∧ gI ws k ≤ 65535) (hwl : ws.length ≤ maxLen) (hok : Ok g h) (ht : truthB g h t1 t2 t3 = true) (hm0 : 0 ≤ m) (hm1 : m ≤ 255) (hb0 : 0 ≤ b) (hb1 : b ≤ 255) :
    Calls Try.prog 28 #[.agg #[.int .i64 g.base, .slice Ab g.bands.length cb, .slice Ad g.depths.length cd, .int .i64 g.blo, .int .i64 g.bhi], .agg #[.slice A1 t1.length c1, .slice A2 t2.length c2, .slice A3 t3.length c3], .slice Aw ws.length cw, .int .u8 m, .int .u8 b] w fun e w' => (∃ A c l, e = .returned (.slice A (l : List Ic).length c) ∧ l.length ≤ 4 ∧ l.length ≤ c ∧ c ≤ maxLen ∧ ReadIs (playTo g t1 t2 t3 h.length) b l ∧
      SlAt w' w'.heap.size 3 A l.length (fC l)) ∧ Below w.heap.size w w' := by
  obtain ⟨i0, hi0, hz0', hz1', hz2'⟩ := info_parts icR_info
  have HI := Lib.hid hi0
  clear hi0
  have hbb := ex_alloc (ex_alloc (Below.refl w.heap.size w) (.cells #[.int .i64 g.base, .slice Ab g.bands.length cb, .slice Ad g.depths.length cd, .int .i64 g.blo, .int .i64 g.bhi] 27)) (.cells #[.slice A1 t1.length c1, .slice A2 t2.length c2, .slice A3 t3.length c3] 56)
  have hnh := hok.nh
  have hzb : ∀ d, d < h.length → -1000000 ≤ gI (playTo g t1 t2 t3 h.length) d ∧ gI (playTo g t1 t2 t3 h.length) d ≤ 1000000 := fun d hd => by rw [gI_play hd]; exact zAt_bd hok ht hd
  obtain ⟨M, hM⟩ : ∃ M : Nat, m % 5 = (M : Int) := ⟨(m % 5).toNat, by omega⟩
  have hM4 : M ≤ 4 := by omega
  have HM := Lib.hid hM
  clear hM
  go_enter Try.func28, Try.ntmps28
  go_wp2_with fail
  refine (PlayR_any g _ _ _ _ h _ ((hg.below hbb).up hbb.size) _ _ _ _ _ _ t1 t2 t3 ((k1.below hbb).up hbb.size) ((k2.below hbb).up hbb.size) ((k3.below hbb).up hbb.size) hok ht).mono ?_
  rintro e w1 ⟨⟨vz, rfl, hvz⟩, hx1⟩
  obtain ⟨Az, cz, rfl, _, hsz⟩ := own_sl hvz
  have hB1 := ex_trans hbb hx1
  have hlz : (playTo g t1 t2 t3 h.length).length = h.length := playTo_len
  clear hvz hbb hx1 hok ht k1 k2 k3 hg
  generalize hzs : playTo g t1 t2 t3 h.length = zs at *
  have HZS := Lib.hid hzs
  clear hzs
  have HLZ := Lib.hid hlz
  clear hlz
  go_wp2_with fail
  go_loopw [12, 13] (fun v i wr => ∃ (k : Nat) (l : List Ic), k ≤ M ∧ i = .int .i64 k ∧ Below w1.heap.size w1 wr ∧ wr.ownsRow w1.heap.size 62 3 v l.length (l.flatMap cC) ∧ l.length = k ∧ ReadIs zs b l)
    (fun _ i _ => M - (intOf i).toNat)
  case atStart => exact ⟨0, [], by omega, rfl, Below.refl _ _, ⟨rfl, .inl ⟨rfl, rfl⟩⟩, rfl, fun i hi => by simp at hi⟩
  case round =>
    obtain ⟨k, l, hk, rfl, hbl, hown, hlk, hR⟩ := hrel
    have HLK := Lib.hid hlk
    have HRD := Lib.hid hR
    clear hlk hR
    by_cases hlt : k < M
    · have hlt' : (k : Int) < m % 5 := by rw [HM.out]; omega
      have hB2 := ex_trans hB1 hbl
      go_wp2_with fail
      refine (word_any _ _ ws _ wr ((hw.below hB2).up hB2.size) hwb (by omega) (by omega) hwl).mono ?_
      rintro e x1 ⟨⟨n, rfl, hn0, hn65⟩, hx1⟩
      have hX1 := ex_trans hbl hx1
      have hzn : (1 : Int) ≤ (zs.length : Int) := by have := HLZ.out; omega
      have hr0 := Int.emod_nonneg n (show (zs.length : Int) ≠ 0 by omega)
      have hr1 := Int.emod_lt_of_pos n (show (0 : Int) < (zs.length : Int) by omega)
      obtain ⟨d, hd⟩ : ∃ d : Nat, n % (zs.length : Int) = (d : Int) := ⟨(n % (zs.length : Int)).toNat, by omega⟩
      have hdl : d < zs.length := by omega
      obtain ⟨er, her⟩ : ∃ er : Int, n / 32 % 4 = er := ⟨_, rfl⟩
      have her0 : 0 ≤ er := by omega
      have her3 : er ≤ 3 := by omega
      have hzn0 : ((zs.length : Int) == 0) = false := by rw [beq_eq_false_iff_ne]; omega
      have hzn0' : (zs.length == 0) = false := by rw [beq_eq_false_iff_ne]; omega
      clear hr0 hr1
      obtain ⟨bz, oz, rfl, hbz, p0⟩ := IsInts.at_ (hsz.below hX1) hdl
      have hzd := hzb d (by rw [← HLZ.out]; exact hdl)
      have hbz1 : bz < x1.heap.size := by have := hX1.size; omega
      go_wp2_with fail
      have hX2 := ex_alloc hX1 (.cells #[.int .i64 (d : Int), .int .i64 0, .int .i64 er] 62)
      have q0 : Blk (x1.alloc (.cells #[.int .i64 (d : Int), .int .i64 0, .int .i64 er] 62)) x1.heap.size 62 #[.int .i64 (d : Int), .int .i64 0, .int .i64 er] := Blk.new _ _ _
      have hXW := ex_alloc hx1 (.cells #[.int .i64 (d : Int), .int .i64 0, .int .i64 er] 62)
      have hsx := hx1.size
      have hsx1 := hX1.size
      have hsz1 : (x1.alloc (.cells #[.int .i64 (d : Int), .int .i64 0, .int .i64 er] 62)).heap.size = x1.heap.size + 1 := by simp
      generalize x1.alloc (.cells #[.int .i64 (d : Int), .int .i64 0, .int .i64 er] 62) = W at *
      generalize x1.heap.size = px at *
      have c0 : W.cell? ⟨px, 0, none⟩ = some (.int .i64 (d : Int)) := q0.cell 0
      have cc1 : W.cell? ⟨px, 1, none⟩ = some (.int .i64 0) := q0.cell 1
      have c2 : W.cell? ⟨px, 2, none⟩ = some (.int .i64 er) := q0.cell 2
      have lq := q0.lt
      have fq := q0.frozen 1
      obtain ⟨_, _, eA, _, p1⟩ := IsInts.at_ (hsz.below hX2) hdl
      injection eA with eA
      injection eA with eA1 eA2
      subst eA1 eA2
      have w0 : (2 * er + 1 == 0) = false := by rw [beq_eq_false_iff_ne]; omega
      have w1' : IntKind.i64.wrap (2 * er) = 2 * er := IntWalk.i64_in _ (by omega)
      have w2' : IntKind.i64.wrap (2 * er + 1) = 2 * er + 1 := IntWalk.i64_in _ (by omega)
      have w3 : IntKind.i64.wrap (n.tdiv 128) = n / 128 := by rw [Int.tdiv_eq_ediv_of_nonneg hn0]; exact IntWalk.i64_in _ (by omega)
      have v0 : 0 ≤ (n / 128) % (2 * er + 1) := Int.emod_nonneg _ (by omega)
      have v1 : (n / 128) % (2 * er + 1) < 2 * er + 1 := Int.emod_lt_of_pos _ (by omega)
      have w4 : IntKind.i64.wrap ((n / 128).tmod (2 * er + 1)) = (n / 128) % (2 * er + 1) := by rw [Int.tmod_eq_emod_of_nonneg (by omega)]; exact IntWalk.i64_in _ (by omega)
      have w5 : IntKind.i64.wrap (gI zs d + (n / 128) % (2 * er + 1)) = gI zs d + (n / 128) % (2 * er + 1) := IntWalk.i64_in _ (by omega)
      have w6 : IntKind.i64.wrap (gI zs d + (n / 128) % (2 * er + 1) - er) = gI zs d + (n / 128) % (2 * er + 1) - er := IntWalk.i64_in _ (by omega)
      refine wp_region_ext_mix 16 [(false, 0), (false, 1), (false, 2), (false, 3), (false, 4), (false, 5), (false, 6), (false, 7), (false, 8), (false, 9), (false, 10), (false, 11), (false, 12), (false, 13), (false, 14), (false, 15)] (by kernel_rfl) (by kernel_rfl) (by intro d _ _ _ _ h; cases d <;> exact h) ?_
      repeat (refine mix_quiet rfl ?_; go_big_quiet_step (fail); refine wpQuiet_nil ?_)
      refine mix_nil rfl ?_
      generalize (n / 128) % (2 * er + 1) = ry at *
      have HX2 := Lib.hid hX2
      have HXW := Lib.hid hXW
      have HQ0 := Lib.hid q0
      clear hX2 hXW q0 hX1 hx1 hB2
      by_cases hbit : (b / 2 ^ k).tmod 2 = 1
      · have ebit : ((b / 2 ^ k).tmod 2 == 1) = true := by simp [hbit]
        have HBIT : Hid (¬ bitOff b k) := Lib.hid (fun h => h hbit)
        clear hbit
        have hf : Fr (fun b => b = px) W ((W.setCell ⟨px, 1, none⟩ (.int .i64 (gI zs d + ry - er))).setCell ⟨px, 1, none⟩ (.int .i64 (gI zs d + ry - er + (5 + n / 8 % 20)))) := ((Fr.refl (fun b => b = px) W).andSet rfl).andSet rfl
        have qV : Blk ((W.setCell ⟨px, 1, none⟩ (.int .i64 (gI zs d + ry - er))).setCell ⟨px, 1, none⟩ (.int .i64 (gI zs d + ry - er + (5 + n / 8 % 20)))) px 62 #[.int .i64 (d : Int), .int .i64 (gI zs d + ry - er + (5 + n / 8 % 20)), .int .i64 er] := by
          have q2 := (HQ0.out.set_ 1 (.int .i64 (gI zs d + ry - er))).set_ 1 (.int .i64 (gI zs d + ry - er + (5 + n / 8 % 20)))
          simpa only [List.setIfInBounds_toArray, List.set_cons_zero, List.set_cons_succ] using q2
        have hsV : ((W.setCell ⟨px, 1, none⟩ (.int .i64 (gI zs d + ry - er))).setCell ⟨px, 1, none⟩ (.int .i64 (gI zs d + ry - er + (5 + n / 8 % 20)))).heap.size = px + 1 := by simp [hsz1]
        have ownV : ((W.setCell ⟨px, 1, none⟩ (.int .i64 (gI zs d + ry - er))).setCell ⟨px, 1, none⟩ (.int .i64 (gI zs d + ry - er + (5 + n / 8 % 20)))).ownsRow w1.heap.size 62 3 u12 l.length (l.flatMap cC) := own_fr (own_below hown HXW.out) hf (fun b hb hbp => by have := own_lt hown hb; omega)
        have BV : Below w1.heap.size w1 ((W.setCell ⟨px, 1, none⟩ (.int .i64 (gI zs d + ry - er))).setCell ⟨px, 1, none⟩ (.int .i64 (gI zs d + ry - er + (5 + n / 8 % 20)))) := hf.toBelow HX2.out HX2.out.size (fun x hx => by omega)
        have y4 : (((W.setCell ⟨px, 1, none⟩ (.int .i64 (gI zs d + ry - er))).setCell ⟨px, 1, none⟩ (.int .i64 (gI zs d + ry - er + (5 + n / 8 % 20)))).alloc (.cells #[.int .i64 (d : Int), .int .i64 (gI zs d + ry - er + (5 + n / 8 % 20)), .int .i64 er] 62)).drew.ownsRow w1.heap.size 62 3 u12 l.length (l.flatMap cC) := own_below ownV ((Below.refl _ _).alloc (Nat.le_refl _) _).drew
        have BY : Below w1.heap.size w1 (((W.setCell ⟨px, 1, none⟩ (.int .i64 (gI zs d + ry - er))).setCell ⟨px, 1, none⟩ (.int .i64 (gI zs d + ry - er + (5 + n / 8 % 20)))).alloc (.cells #[.int .i64 (d : Int), .int .i64 (gI zs d + ry - er + (5 + n / 8 % 20)), .int .i64 er] 62)).drew := (ex_alloc BV _).drew
        have hnew : ∀ j u, ([.int .i64 (d : Int), .int .i64 (gI zs d + ry - er + (5 + n / 8 % 20)), .int .i64 er] : List Value)[j]? = some u → (((W.setCell ⟨px, 1, none⟩ (.int .i64 (gI zs d + ry - er))).setCell ⟨px, 1, none⟩ (.int .i64 (gI zs d + ry - er + (5 + n / 8 % 20)))).alloc (.cells #[.int .i64 (d : Int), .int .i64 (gI zs d + ry - er + (5 + n / 8 % 20)), .int .i64 er] 62)).drew.cell? ((⟨px + 1, 0, none⟩ : Addr).add j) = some u :=
          World.news_of_block (by have h := heap_alloc_new ((W.setCell ⟨px, 1, none⟩ (.int .i64 (gI zs d + ry - er))).setCell ⟨px, 1, none⟩ (.int .i64 (gI zs d + ry - er + (5 + n / 8 % 20)))) (.cells #[.int .i64 (d : Int), .int .i64 (gI zs d + ry - er + (5 + n / 8 % 20)), .int .i64 er] 62); rw [hsV] at h; exact h)
        have c63 : l.length + 1 ≤ maxLen := by have := HLK.out; unfold maxLen; omega
        have cby : (l.length + 1) * 24 ≤ 140737488355328 := by have := HLK.out; omega
        have hbase : w1.heap.size ≤ (((W.setCell ⟨px, 1, none⟩ (.int .i64 (gI zs d + ry - er))).setCell ⟨px, 1, none⟩ (.int .i64 (gI zs d + ry - er + (5 + n / 8 % 20)))).alloc (.cells #[.int .i64 (d : Int), .int .i64 (gI zs d + ry - er + (5 + n / 8 % 20)), .int .i64 er] 62)).drew.heap.size := BY.size
        have hH : (((W.setCell ⟨px, 1, none⟩ (.int .i64 (gI zs d + ry - er))).setCell ⟨px, 1, none⟩ (.int .i64 (gI zs d + ry - er + (5 + n / 8 % 20)))).alloc (.cells #[.int .i64 (d : Int), .int .i64 (gI zs d + ry - er + (5 + n / 8 % 20)), .int .i64 er] 62)).drew.heap.size = px + 1 + 1 := by simp [hsz1]
        go_wp2_with (at_builtin; refine wpList_append_lies _ rfl _ _ _ rfl w1.heap.size 62 i0 _ 3 24 Try.underlying29 HI.out hz0' hz1' hz2' rfl (by omega) u12 _ _ rfl y4 ⟨px + 1, 0, none⟩ 1 1 [.int .i64 (d : Int), .int .i64 (gI zs d + ry - er + (5 + n / 8 % 20)), .int .i64 er] rfl rfl hnew (by simp [Value.oneCell']) (by omega) c63 cby hbase (px + 1 + 1) hH ?_; intro gg cap w' hown' hgrow hat hlt')
        go_roundw
        case rel => exact ⟨k + 1, l ++ [⟨(d : Int), gI zs d + ry - er + (5 + n / 8 % 20), er⟩], by omega, by go_num, BY.grown hgrow BY.size (fun j hj => own_ge hown hj), by simpa [List.flatMap_append, cC] using hown', by simp [HLK.out], HRD.out.snoc hdl her0 her3 (fun h => absurd (by rw [← HLK.out]; exact h) HBIT.out)⟩
        case measure => simp [intOf]; omega
      · have ebit : ((b / 2 ^ k).tmod 2 == 1) = false := by simp [hbit]
        clear hbit
        have hf : Fr (fun b => b = px) W (W.setCell ⟨px, 1, none⟩ (.int .i64 (gI zs d + ry - er))) := (Fr.refl (fun b => b = px) W).andSet rfl
        have qV : Blk (W.setCell ⟨px, 1, none⟩ (.int .i64 (gI zs d + ry - er))) px 62 #[.int .i64 (d : Int), .int .i64 (gI zs d + ry - er), .int .i64 er] := by
          have q2 := HQ0.out.set_ 1 (.int .i64 (gI zs d + ry - er))
          simpa only [List.setIfInBounds_toArray, List.set_cons_zero, List.set_cons_succ] using q2
        have hsV : (W.setCell ⟨px, 1, none⟩ (.int .i64 (gI zs d + ry - er))).heap.size = px + 1 := by simp [hsz1]
        have ownV : (W.setCell ⟨px, 1, none⟩ (.int .i64 (gI zs d + ry - er))).ownsRow w1.heap.size 62 3 u12 l.length (l.flatMap cC) := own_fr (own_below hown HXW.out) hf (fun b hb hbp => by have := own_lt hown hb; omega)
        have BV : Below w1.heap.size w1 (W.setCell ⟨px, 1, none⟩ (.int .i64 (gI zs d + ry - er))) := hf.toBelow HX2.out HX2.out.size (fun x hx => by omega)
        have y4 : ((W.setCell ⟨px, 1, none⟩ (.int .i64 (gI zs d + ry - er))).alloc (.cells #[.int .i64 (d : Int), .int .i64 (gI zs d + ry - er), .int .i64 er] 62)).drew.ownsRow w1.heap.size 62 3 u12 l.length (l.flatMap cC) := own_below ownV ((Below.refl _ _).alloc (Nat.le_refl _) _).drew
        have BY : Below w1.heap.size w1 ((W.setCell ⟨px, 1, none⟩ (.int .i64 (gI zs d + ry - er))).alloc (.cells #[.int .i64 (d : Int), .int .i64 (gI zs d + ry - er), .int .i64 er] 62)).drew := (ex_alloc BV _).drew
        have hnew : ∀ j u, ([.int .i64 (d : Int), .int .i64 (gI zs d + ry - er), .int .i64 er] : List Value)[j]? = some u → ((W.setCell ⟨px, 1, none⟩ (.int .i64 (gI zs d + ry - er))).alloc (.cells #[.int .i64 (d : Int), .int .i64 (gI zs d + ry - er), .int .i64 er] 62)).drew.cell? ((⟨px + 1, 0, none⟩ : Addr).add j) = some u :=
          World.news_of_block (by have h := heap_alloc_new (W.setCell ⟨px, 1, none⟩ (.int .i64 (gI zs d + ry - er))) (.cells #[.int .i64 (d : Int), .int .i64 (gI zs d + ry - er), .int .i64 er] 62); rw [hsV] at h; exact h)
        have c63 : l.length + 1 ≤ maxLen := by have := HLK.out; unfold maxLen; omega
        have cby : (l.length + 1) * 24 ≤ 140737488355328 := by have := HLK.out; omega
        have hbase : w1.heap.size ≤ ((W.setCell ⟨px, 1, none⟩ (.int .i64 (gI zs d + ry - er))).alloc (.cells #[.int .i64 (d : Int), .int .i64 (gI zs d + ry - er), .int .i64 er] 62)).drew.heap.size := BY.size
        have hH : ((W.setCell ⟨px, 1, none⟩ (.int .i64 (gI zs d + ry - er))).alloc (.cells #[.int .i64 (d : Int), .int .i64 (gI zs d + ry - er), .int .i64 er] 62)).drew.heap.size = px + 1 + 1 := by simp [hsz1]
        go_wp2_with (at_builtin; refine wpList_append_lies _ rfl _ _ _ rfl w1.heap.size 62 i0 _ 3 24 Try.underlying29 HI.out hz0' hz1' hz2' rfl (by omega) u12 _ _ rfl y4 ⟨px + 1, 0, none⟩ 1 1 [.int .i64 (d : Int), .int .i64 (gI zs d + ry - er), .int .i64 er] rfl rfl hnew (by simp [Value.oneCell']) (by omega) c63 cby hbase (px + 1 + 1) hH ?_; intro gg cap w' hown' hgrow hat hlt')
        go_roundw
        case rel => exact ⟨k + 1, l ++ [⟨(d : Int), gI zs d + ry - er, er⟩], by omega, by go_num, BY.grown hgrow BY.size (fun j hj => own_ge hown hj), by simpa [List.flatMap_append, cC] using hown', by simp [HLK.out], HRD.out.snoc hdl her0 her3 (fun _ => ⟨by omega, by omega⟩)⟩
        case measure => simp [intOf]; omega
    · have hlt' : ¬ (k : Int) < m % 5 := by rw [HM.out]; omega
      obtain ⟨A, c, rfl, h1, h2, h3⟩ := own_C hown
      go_wp2
      go_ret
      exact ⟨⟨A, c, l, rfl, by have := HLK.out; omega, h1, h2, by rw [HZS.out]; exact HRD.out, h3⟩, ex_trans hB1 hbl⟩

end Go.Proofs.Ytlgmeofpkfliaaa
end

section
namespace Go.Proofs.Ytlgmeofpkfliaaa

theorem mem_compact {l : List Int} {x : Int} : x ∈ Lib.compact l ↔ x ∈ l := by
  constructor
  · exact compact_mem
  · intro hx
    obtain ⟨i, hi, rfl⟩ := List.getElem_of_mem hx
    have key : ∀ i (hi : i < l.length), l[i] ∈ Lib.compact l := by
      intro i
      induction i with
      | zero =>
        intro hi
        unfold Lib.compact Lib.compactUpTo
        refine List.mem_map.2 ⟨0, List.mem_filter.2 ⟨List.mem_range.2 hi, ?_⟩, by simp [hi]⟩
        simp [Lib.keeps]
      | succ i ih =>
        intro hi
        by_cases he : l[i + 1] = l[i]'(by omega)
        · rw [he]; exact ih (by omega)
        · unfold Lib.compact Lib.compactUpTo
          refine List.mem_map.2 ⟨i + 1, List.mem_filter.2 ⟨List.mem_range.2 hi, ?_⟩, by simp [hi]⟩
          simp [Lib.keeps, hi, show i < l.length by omega, he]
    exact key i hi

theorem deep_inc {g : Gl} {h : List Rg} (hok : Ok g h) {i : Nat} (h0 : 0 < i) (hi : i < g.depths.length) : (gD g.depths (i - 1)).from_ < (gD g.depths i).from_ ∧ (gD g.depths (i - 1)).sink ≤ (gD g.depths i).sink := by
  have := hok.depths i hi
  unfold deepOk at this
  simp only [Bool.and_eq_true, Bool.not_eq_true', Bool.and_eq_false_iff, Bool.or_eq_false_iff, decide_eq_false_iff_not] at this
  obtain ⟨_, _, h3⟩ := this
  rcases h3 with h3 | ⟨h3, h4⟩
  · omega
  · exact ⟨by omega, by omega⟩
theorem deep_lt {g : Gl} {h : List Rg} (hok : Ok g h) {k : Nat} : ∀ {m : Nat}, k < m → m < g.depths.length → (gD g.depths k).from_ < (gD g.depths m).from_ ∧ (gD g.depths k).sink ≤ (gD g.depths m).sink
  | 0, h1, _ => by omega
  | m + 1, h1, h2 => by
    have hs := deep_inc hok (i := m + 1) (by omega) h2
    rw [Nat.add_sub_cancel] at hs
    rcases Nat.lt_succ_iff_lt_or_eq.1 h1 with h | h
    · have := deep_lt hok h (by omega)
      omega
    · subst h; exact hs
theorem sinks_from {g : Gl} {h : List Rg} (hok : Ok g h) {k : Nat} : ∀ {m : Nat}, k < m → m ≤ g.depths.length → sinksTo g.depths (gD g.depths k).from_ m = (gD g.depths k).sink
  | 0, h1, _ => by omega
  | m + 1, h1, h2 => by
    rcases Nat.lt_succ_iff_lt_or_eq.1 h1 with h | h
    · have := deep_lt hok h (by omega)
      rw [sinksTo, if_neg (by omega)]
      exact sinks_from hok h (by omega)
    · subst h; rw [sinksTo, if_pos (Int.le_refl _)]
theorem sinks_or {l : List Dp} {lo x : Int} (hx : lo ≤ x) : ∀ {k : Nat}, sinksTo l x k = sinksTo l lo k ∨ ∃ j, j < k ∧ lo < (gD l j).from_ ∧ (gD l j).from_ ≤ x ∧ sinksTo l x k = (gD l j).sink
  | 0 => .inl rfl
  | k + 1 => by
    by_cases h1 : (gD l k).from_ ≤ x
    · by_cases h2 : (gD l k).from_ ≤ lo
      · exact .inl (by rw [sinksTo, sinksTo, if_pos h1, if_pos h2])
      · exact .inr ⟨k, by omega, by omega, h1, by rw [sinksTo, if_pos h1]⟩
    · rw [sinksTo, sinksTo, if_neg h1, if_neg (by omega)]
      rcases sinks_or hx (k := k) with h | ⟨j, h2, h3⟩
      · exact .inl h
      · exact .inr ⟨j, by omega, h3⟩
theorem mem_depTo {g : Gl} {lo hi y : Int} : ∀ {k : Nat}, y ∈ depTo g lo hi k ↔ y = sinks g lo ∨ ∃ j, j < k ∧ lo < (gD g.depths j).from_ ∧ (gD g.depths j).from_ ≤ hi ∧ y = (gD g.depths j).sink
  | 0 => by simp [depTo]
  | k + 1 => by
    rw [depTo]
    split
    · rename_i hc
      rw [List.mem_append, mem_depTo, List.mem_singleton]
      constructor
      · rintro ((h | ⟨j, h1, h2⟩) | h)
        · exact .inl h
        · exact .inr ⟨j, by omega, h2⟩
        · exact .inr ⟨k, by omega, hc.1, hc.2, h⟩
      · rintro (h | ⟨j, h1, h2, h3, h4⟩)
        · exact .inl (.inl h)
        · rcases Nat.lt_succ_iff_lt_or_eq.1 h1 with h | h
          · exact .inl (.inr ⟨j, h, h2, h3, h4⟩)
          · subst h; exact .inr h4
    · rename_i hc
      rw [mem_depTo]
      constructor
      · rintro (h | ⟨j, h1, h2⟩)
        · exact .inl h
        · exact .inr ⟨j, by omega, h2⟩
      · rintro (h | ⟨j, h1, h2, h3, h4⟩)
        · exact .inl h
        · rcases Nat.lt_succ_iff_lt_or_eq.1 h1 with h | h
          · exact .inr ⟨j, h, h2, h3, h4⟩
          · subst h; exact absurd ⟨h2, h3⟩ hc
theorem mem_depL {g : Gl} {h : List Rg} (hok : Ok g h) {d : Nat} (hd : d < h.length) {y : Int} : y ∈ depL g h d ↔ ∃ x, ((gR h d).lo ≤ x ∧ x ≤ (gR h d).hi) ∧ y = sinks g x := by
  have hr := hok.heats d hd
  rw [depL, mem_compact, mem_depTo]
  constructor
  · rintro (h | ⟨j, h1, h2, h3, h4⟩)
    · exact ⟨_, ⟨Int.le_refl _, hr.2.1⟩, h⟩
    · exact ⟨_, ⟨by omega, h3⟩, by rw [h4]; exact (sinks_from hok h1 (Nat.le_refl _)).symm⟩
  · rintro ⟨x, ⟨h1, h2⟩, rfl⟩
    rcases sinks_or (l := g.depths) h1 (k := g.depths.length) with h | ⟨j, h3, h4, h5, h6⟩
    · exact .inl h
    · exact .inr ⟨j, h3, h4, by omega, h6⟩

/-- one day, in some truth. -/
def Step (g : Gl) (h : List Rg) (d : Nat) (s t : St) : Prop :=
  ∃ x b c : Int, ((gR h d).lo ≤ x ∧ x ≤ (gR h d).hi) ∧ (g.blo ≤ b ∧ b ≤ g.bhi) ∧ ((creep g d).lo ≤ c ∧ c ≤ (creep g d).hi) ∧ t = (s.1 + c, mx3 (s.2 - b) 0 (sinks g x))
theorem mem_nextL {g : Gl} {h : List Rg} (hok : Ok g h) {d : Nat} (hd : d < h.length) {s t : St} : t ∈ nextL g h d s ↔ Step g h d s t := by
  have k1 := hok.creep d
  have k2 := hok.back
  unfold nextL
  rw [mem_deps]
  constructor
  · rintro ⟨m, hm, b, c, h1, h2, h3, h4, rfl⟩
    obtain ⟨x, hx, he⟩ := (mem_depL hok hd).1 (gI_mem hm)
    exact ⟨x, b, c, hx, ⟨h1, by omega⟩, ⟨h3, by omega⟩, by rw [he]⟩
  · rintro ⟨x, b, c, hx, hb, hc, rfl⟩
    obtain ⟨m, hm, he⟩ := List.getElem_of_mem ((mem_depL hok hd).2 ⟨x, hx, rfl⟩)
    exact ⟨m, hm, b, c, hb.1, by omega, hc.1, by omega, by simp [gI, hm, he]⟩

/-- where a truth is behind so many days. -/
def stAt (g : Gl) (t1 t2 t3 : List Int) (d : Nat) : St := (riseTo t2 d, sinkTo g t1 t3 d)
theorem zero_st {g : Gl} {t1 t2 t3 : List Int} {d : Nat} : zero g (stAt g t1 t2 t3 (d + 1)) = zAt g t1 t2 t3 d := rfl
theorem step_st {g : Gl} {h : List Rg} {t1 t2 t3 : List Int} {d : Nat} (hd : dayOk g h t1 t2 t3 d = true) : Step g h d (stAt g t1 t2 t3 d) (stAt g t1 t2 t3 (d + 1)) := by
  obtain ⟨h1, h2, h3⟩ := dayOk_iff.1 hd
  exact ⟨gI t1 d, gI t3 d, gI t2 d, h1, h3, h2, rfl⟩
theorem can_st {g : Gl} {h : List Rg} {t1 t2 t3 : List Int} {l : List Ic} {o : Nat → Bool} (hok : Ok g h) (hd : ∀ d, d < h.length → dayOk g h t1 t2 t3 d = true) (hf : ∀ d, d < h.length → fitsB l o (d : Int) (zAt g t1 t2 t3 d) = true) : ∀ {d : Nat}, d ≤ h.length → Can g h l o d (stAt g t1 t2 t3 d)
  | 0, _ => rfl
  | d + 1, h1 => ⟨_, can_st hok hd hf (by omega), (mem_nextL hok (by omega)).2 (step_st (hd d (by omega))), by rw [zero_st]; exact hf d (by omega)⟩
theorem goes_st {g : Gl} {h : List Rg} {t1 t2 t3 : List Int} {l : List Ic} {o : Nat → Bool} (hok : Ok g h) (hd : ∀ d, d < h.length → dayOk g h t1 t2 t3 d = true) (hf : ∀ d, d < h.length → fitsB l o (d : Int) (zAt g t1 t2 t3 d) = true) : ∀ {k d : Nat}, d + k = h.length → Goes g h l o k d (stAt g t1 t2 t3 d)
  | 0, d, h1 => can_st hok hd hf (by omega)
  | k + 1, d, h1 => ⟨can_st hok hd hf (by omega), _, (mem_nextL hok (by omega)).2 (step_st (hd d (by omega))), goes_st hok hd hf (by omega)⟩

end Go.Proofs.Ytlgmeofpkfliaaa
end

section
namespace Go.Proofs.Ytlgmeofpkfliaaa

theorem bitOff_zero (i : Nat) : bitOff 0 i := by simp [bitOff]

/-- all ices are true of a list of zeros. -/
def AllOf (zs : List Int) (l : List Ic) : Prop := ∀ i, i < l.length → -(gC l i).err ≤ gI zs (gC l i).day.toNat - (gC l i).zero ∧ gI zs (gC l i).day.toNat - (gC l i).zero ≤ (gC l i).err
theorem ReadIs.all {zs : List Int} {l : List Ic} (h : ReadIs zs 0 l) : AllOf zs l := fun i hi => (h i hi).2.2 (bitOff_zero i)
theorem AllOf.take {zs : List Int} {l : List Ic} (h : AllOf zs l) (k : Nat) : AllOf zs (l.take k) := fun i hi => by
  rw [List.length_take] at hi
  rw [gC_take (by omega)]
  exact h i (by omega)
theorem AllOf.fits {zs : List Int} {l : List Ic} (h : AllOf zs l) (o : Nat → Bool) (d : Nat) : fitsB l o (d : Int) (gI zs d) = true := by
  unfold fitsB
  rw [allTo_iff]
  intro k hk
  have hk' := h k hk
  unfold fitOk
  by_cases hd : (gC l k).day = (d : Int)
  · rw [hd] at hk'
    have : inB (gI zs d - (gC l k).zero) (-(gC l k).err) (gC l k).err = true := inB_iff.2 (by simpa using hk')
    rw [this]
    simp
  · simp [hd]

section
variable {g : Gl} {h : List Rg} {l : List Ic} {t1 t2 t3 : List Int}
theorem AllOf.fits' (ha : AllOf (playTo g t1 t2 t3 h.length) l) (o : Nat → Bool) : ∀ d, d < h.length → fitsB l o (d : Int) (zAt g t1 t2 t3 d) = true := fun d hd => by
  have := ha.fits o d
  rwa [gI_play hd] at this
theorem AllOf.can (hok : Ok g h) (ht : truthB g h t1 t2 t3 = true) (ha : AllOf (playTo g t1 t2 t3 h.length) l) (o : Nat → Bool) : ∃ s, Can g h l o h.length s :=
  ⟨_, can_st hok (truthB_iff.1 ht).2 (ha.fits' o) (Nat.le_refl _)⟩
theorem AllOf.agree (hok : Ok g h) (ht : truthB g h t1 t2 t3 = true) (ha : AllOf (playTo g t1 t2 t3 h.length) l) (o : Nat → Bool) : agreeB g h l o = true := agreeB_iff.2 (ha.can hok ht o)
theorem AllOf.shows (hok : Ok g h) (ht : truthB g h t1 t2 t3 = true) (ha : AllOf (playTo g t1 t2 t3 h.length) l) {e : Ending} (he : ShowsIs (fun j => agreeB g h (l.take (j + 1)) off0) l.length e) : e = .returned (.tuple #[.int .i64 0, .int .i64 7]) := by
  rcases he with ⟨k, _, _, h2, _⟩ | ⟨_, h2⟩
  · have := (ha.take (k + 1)).agree hok ht off0
    rw [show (fun j => agreeB g h (l.take (j + 1)) off0) k = agreeB g h (l.take (k + 1)) off0 from rfl, this] at h2
    cases h2
  · exact h2
theorem lists0 (ha : agreeB g h l off0 = true) : listsL g h l 0 = [[]] := by
  unfold listsL pickL
  rw [if_pos (by rfl), if_pos ha]
theorem few_none (ha : agreeB g h l off0 = true) {r : List Int} (hf : FewIs (listsL g h l) l.length r) : r = [] := by
  rcases hf with ⟨k, hk, h1, ls, h2⟩ | ⟨h1, h2⟩
  · rcases Nat.eq_zero_or_pos k with h0 | h0
    · subst h0
      rw [lists0 ha] at h2
      injection h2 with h2 _
      exact h2.symm
    · have := h1 0 h0
      rw [lists0 ha] at this; cases this
  · rcases Nat.eq_zero_or_pos l.length with h0 | h0
    · rw [h2, h0]; rfl
    · have := h1 0 h0
      rw [lists0 ha] at this; cases this
theorem AllOf.prove (hok : Ok g h) (ht : truthB g h t1 t2 t3 = true) (hi : iced g h l = 0) (ha : AllOf (playTo g t1 t2 t3 h.length) l) : proveB g h l t1 t2 t3 = true := by
  unfold proveB
  rw [hi, ht]
  simp only [decide_true, Bool.true_and, allTo_iff]
  exact ha.fits' off0
theorem AllOf.within (hok : Ok g h) (ht : truthB g h t1 t2 t3 = true) (ha : AllOf (playTo g t1 t2 t3 h.length) l) {zs : List Rg} (hz : ZsOf g h l zs) {d : Nat} (hd : d < h.length) : (gR zs d).lo ≤ gI (playTo g t1 t2 t3 h.length) d ∧ gI (playTo g t1 t2 t3 h.length) d ≤ (gR zs d).hi := by
  rw [gI_play hd]
  exact (hz.2 d hd).2.2 _ ⟨_, goes_st hok (truthB_iff.1 ht).2 (ha.fits' off0) (by omega), rfl⟩
end
theorem iced_of {g : Gl} {h : List Rg} {l : List Ic} (h1 : lived g h = 0) (h2 : icsF h.length l = 0) : iced g h l = 0 := by
  rw [iced_eq', if_neg (by simp [h1])]; exact h2

end Go.Proofs.Ytlgmeofpkfliaaa
end

section
namespace Go.Proofs.Ytlgmeofpkfliaaa
open Go.RowKit Go.ChangeShapes Go.WideShapes Go.ChangeAt

theorem wf_u16 {n : Int} (h : (Lit.int .u16 n).wf = true) : 0 ≤ n ∧ n ≤ 65535 := by
  simp only [Lit.wf, Bool.and_eq_true, decide_eq_true_eq] at h
  exact ⟨h.1, h.2⟩
theorem wf_u8 {n : Int} (h : (Lit.int .u8 n).wf = true) : 0 ≤ n ∧ n ≤ 255 := by
  simp only [Lit.wf, Bool.and_eq_true, decide_eq_true_eq] at h
  exact ⟨h.1, h.2⟩
theorem wf_i16 {n : Int} (h : (Lit.int .i16 n).wf = true) : -32768 ≤ n ∧ n ≤ 32767 := by
  simp only [Lit.wf, Bool.and_eq_true, decide_eq_true_eq] at h
  exact ⟨h.1, h.2⟩
theorem wf_i64 {n : Int} (h : (Lit.int .i64 n).wf = true) : -9223372036854775808 ≤ n ∧ n ≤ 9223372036854775807 := by
  simp only [Lit.wf, Bool.and_eq_true, decide_eq_true_eq] at h
  exact ⟨h.1, h.2⟩

/-- a word of two bytes. -/
abbrev Wd := {n : Int // 0 ≤ n ∧ n ≤ 65535}
instance : Inhabited Wd := ⟨⟨0, by omega⟩⟩

section
variable {H : Type} {enc : TypeId × Value → H} {w : World} {base : Nat} {spare : Nat → Bool} {held : Bool} {r : Reach} {b0 : Nat}
set_option maxRecDepth 100000 in
theorem open_int {t : TypeId} {k : IntKind} (ht : Try.prog.underlying t = some (.int k)) {v : Value} {d : DataW H} {p : List MemPlace} (hv : Value.okWide Try.prog w r b0 t v) (h : DataW.Trod enc Try.prog w base spare held t v d p) : ∃ n, v = .int k n ∧ (Lit.int k n).wf = true := by
  obtain ⟨n, rfl⟩ := okWide_int ht hv
  obtain ⟨fuel, hf⟩ := h
  obtain ⟨m, h1, h2⟩ := tr_int ht hf
  injection h1 with h1 _
  exact ⟨m, h1, h2⟩
set_option maxRecDepth 100000 in
theorem open_words {v : Value} {d : DataW H} {p : List MemPlace} (hv : Value.okWide Try.prog w r b0 51 v) (h : DataW.Trod enc Try.prog w base spare held 51 v d p) :
    ∃ A l cp, v = .slice A (l : List Int).length cp ∧ l.length ≤ maxLen ∧ SlAt w w.heap.size 1 A l.length (fU l) ∧ ∀ k, k < l.length → 0 ≤ gI l k ∧ gI l k ≤ 65535 := by
  obtain ⟨a, len, cap, rfl⟩ := okWide_slice Try.underlying51 hv
  obtain ⟨fuel, hf⟩ := h
  obtain ⟨A, l, cp, h1, h2, h3, h4⟩ := tr_sl (sz := 1) (α := Wd) (c := fun n => [.int .u16 n.1]) Try.underlying51 (by omega) (by kernel_rfl) (fun h => by obtain ⟨n, hn, hw⟩ := tr_int Try.underlying151 h; exact ⟨⟨n, wf_u16 hw⟩, hn⟩) (fun _ => rfl) hf
  have hl : (l.map (·.1)).length = l.length := by simp
  have hg : ∀ k (hk : k < l.length), gI (l.map (·.1)) k = (l[k]).1 := fun k hk => by simp [gI, hk]
  refine ⟨A, l.map (·.1), cp, by injection h1 with h1 _; rw [h1, hl], by rw [hl]; omega, ?_, fun k hk => ?_⟩
  · rw [hl]
    refine h4 _ (fun k hk j hj => ?_)
    obtain rfl : j = 0 := by omega
    show some (Value.int .u16 (l[k]).1) = some (.int .u16 (gI (l.map (·.1)) k))
    rw [hg k hk]
  · rw [hg k (by rwa [hl] at hk)]
    exact (l[k]'(by rwa [hl] at hk)).2
end
end Go.Proofs.Ytlgmeofpkfliaaa
end

section
namespace Go.Proofs.Ytlgmeofpkfliaaa
open Go.RowKit Go.ChangeShapes Go.WideShapes Go.ChangeAt
section
variable {H : Type} {enc : TypeId × Value → H} {w : World} {base : Nat} {spare : Nat → Bool} {held : Bool} {r : Reach} {b0 : Nat}
set_option maxRecDepth 100000 in
theorem open_rg {v : Value} {d : DataW H} {p : List MemPlace} (hv : Value.okWide Try.prog w r b0 25 v) (h : DataW.Trod enc Try.prog w base spare held 25 v d p) : ∃ c : Rg, v = .agg #[.int .i64 c.lo, .int .i64 c.hi] := by
  obtain ⟨cs, rfl, hsz⟩ := okWide_struct Try.underlying25 hv
  obtain ⟨l⟩ := cs
  obtain ⟨fuel, hf⟩ := h
  obtain ⟨c, hc⟩ := tr_rg hf
  exact ⟨c, congrArg (fun l => Value.agg (List.toArray l)) (show l = cR c from hc)⟩
set_option maxRecDepth 100000 in
theorem open_ic {v : Value} {d : DataW H} {p : List MemPlace} (hv : Value.okWide Try.prog w r b0 62 v) (h : DataW.Trod enc Try.prog w base spare held 62 v d p) : ∃ c : Ic, v = .agg #[.int .i64 c.day, .int .i64 c.zero, .int .i64 c.err] := by
  obtain ⟨cs, rfl, hsz⟩ := okWide_struct Try.underlying62 hv
  obtain ⟨l⟩ := cs
  obtain ⟨fuel, hf⟩ := h
  obtain ⟨c, hc⟩ := tr_ic hf
  exact ⟨c, congrArg (fun l => Value.agg (List.toArray l)) (show l = cC c from hc)⟩
end
end Go.Proofs.Ytlgmeofpkfliaaa
end
