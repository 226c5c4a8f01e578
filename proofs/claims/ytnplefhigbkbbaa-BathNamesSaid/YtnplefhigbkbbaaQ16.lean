/- Bath's reference: IsTruth (walk). · Bath: ProveTruth (walk). -/
import Derived.Test.YtnplefhigbkbbaaQ9
import Derived.Test.YtnplefhigbkbbaaQ10
import Derived.Test.YtnplefhigbkbbaaQ3
set_option linter.unusedVariables false
set_option linter.unusedSimpArgs false
set_option linter.unusedSectionVars false
section
namespace Go.Proofs.Ytnplefhigbkbbaa
open Go.RowKit
attribute [local go_sem] Ex.cell? Ex.frozen?

/-- offsets and heats that are a truth. -/
def TruI (s : Se) (o h : List Int) : Prop := o.length = s.offs.length ∧ h.length = s.baths.length ∧ Tru s (fun _ => false) (fun n => gI o n) (fun b => gI h b)
theorem inB_false {n lo hi : Int} (h : inB n lo hi = false) : ¬ (lo ≤ n ∧ n ≤ hi) := fun k => by rw [inB_iff.2 k] at h; cases h

def OkR (s : Se) (o h : List Int) (b i : Nat) : Prop := (gRd (gBt s.baths b).reads i).val - s.err ≤ gI h b + gI o (gRd (gBt s.baths b).reads i).inst.toNat ∧ gI h b + gI o (gRd (gBt s.baths b).reads i).inst.toNat ≤ (gRd (gBt s.baths b).reads i).val + s.err

set_option maxRecDepth 100000 in
set_option maxHeartbeats 25600000 in
theorem isTruth_ref (s : Se) (Ao Ab : Option Addr) (co cb : Nat) (rA : Nat → Option Addr) (rc : Nat → Nat) (w : World) (hs : SeIn w w.heap.size s Ao Ab rA rc) (ht : Thn s) (hok : SeOk s) (A1 A2 : Option Addr) (c1 c2 : Nat) (o h : List Int) (hA1 : SlAt w w.heap.size 1 A1 o.length (fI o)) (hA2 : SlAt w w.heap.size 1 A2 h.length (fI h)) :
    Calls Try.prog 64 #[.agg #[.slice Ao s.offs.length co, .int .i64 s.err, .slice Ab s.baths.length cb], .slice A1 o.length c1, .slice A2 h.length c2] w fun e w' => e = .returned (.bool (truB (TruI s o h))) ∧ Below w.heap.size w w' := by
  by_cases e1 : o.length = s.offs.length
  rotate_left
  · have HF : Hid (truB (TruI s o h) = false) := Lib.hid (truB_false (fun ht => e1 ht.1))
    have hb1 := ex_alloc (Below.refl w.heap.size w) (.cells #[.slice Ao s.offs.length co, .int .i64 s.err, .slice Ab s.baths.length cb] 25)
    go_enter Try.func64, Try.ntmps64
    go_wp2
    go_ret
    first | exact ⟨ret_bool HF.out.symm, hb1⟩ | exact ⟨by rw [HF.out], hb1⟩
  by_cases e2 : h.length = s.baths.length
  rotate_left
  · have HF : Hid (truB (TruI s o h) = false) := Lib.hid (truB_false (fun ht => e2 ht.2.1))
    have hb1 := ex_alloc (Below.refl w.heap.size w) (.cells #[.slice Ao s.offs.length co, .int .i64 s.err, .slice Ab s.baths.length cb] 25)
    have HE1 := Lib.hid e1
    rw [e1] at hA1 ⊢
    clear e1
    go_enter Try.func64, Try.ntmps64
    go_wp2
    go_ret
    first | exact ⟨ret_bool HF.out.symm, hb1⟩ | exact ⟨by rw [HF.out], hb1⟩
  have HE1 := Lib.hid e1
  have HE2 := Lib.hid e2
  rw [e1] at hA1 ⊢
  rw [e2] at hA2 ⊢
  clear e1 e2
  have hno := hok.no
  have hnb := hok.nb
  have her := hok.err
  have HOK := Lib.hid hok
  clear hok
  have B_V := ex_alloc (Below.refl w.heap.size w) (.cells #[.slice Ao s.offs.length co, .int .i64 s.err, .slice Ab s.baths.length cb] 25)
  have q0 : Blk (w.alloc (.cells #[.slice Ao s.offs.length co, .int .i64 s.err, .slice Ab s.baths.length cb] 25)) w.heap.size 25 #[.slice Ao s.offs.length co, .int .i64 s.err, .slice Ab s.baths.length cb] := Blk.new _ _ _
  go_enter Try.func64, Try.ntmps64
  go_wp2_with fail
  generalize w.alloc (.cells #[.slice Ao s.offs.length co, .int .i64 s.err, .slice Ab s.baths.length cb] 25) = V at *
  refine wp_loop (fun a W => Rel (fun a W => ∃ k : Nat, k ≤ s.offs.length ∧ Below V.heap.size V W ∧ Hid (∀ j, j < k → (gR s.offs j).lo ≤ gI o j ∧ gI o j ≤ (gR s.offs j).hi) ∧ ∃ u : Nat → Value, a = ⟨List.toArray (u 0 :: .slice A1 s.offs.length c1 :: .slice A2 s.baths.length c2 :: .pointer (some ⟨w.heap.size, 0, none⟩) :: u 4 :: u 5 :: .bool false :: .int .i64 (k : Int) :: u 8 :: u 9 :: u 10 :: u 11 :: u 12 :: u 13 :: u 14 :: u 15 :: u 16 :: u 17 :: u 18 :: u 19 :: u 20 :: u 21 :: u 22 :: u 23 :: u 24 :: u 25 :: u 26 :: u 27 :: u 28 :: u 29 :: u 30 :: u 31 :: u 32 :: u 33 :: u 34 :: u 35 :: u 36 :: u 37 :: u 38 :: u 39 :: u 40 :: u 41 :: u 42 :: u 43 :: u 44 :: u 45 :: u 46 :: u 47 :: u 48 :: u 49 :: u 50 :: u 51 :: u 52 :: u 53 :: u 54 :: u 55 :: u 56 :: u 57 :: u 58 :: u 59 :: u 60 :: u 61 :: u 62 :: u 63 :: u 64 :: u 65 :: u 66 :: u 67 :: u 68 :: u 69 :: u 70 :: u 71 :: u 72 :: u 73 :: u 74 :: u 75 :: u 76 :: u 77 :: u 78 :: u 79 :: u 80 :: u 81 :: u 82 :: u 83 :: u 84 :: u 85 :: u 86 :: u 87 :: u 88 :: u 89 :: u 90 :: u 91 :: u 92 :: u 93 :: u 94 :: u 95 :: u 96 :: u 97 :: u 98 :: u 99 :: u 100 :: u 101 :: u 102 :: u 103 :: u 104 :: u 105 :: u 106 :: u 107 :: u 108 :: []), []⟩) a W)
    (fun a _ => s.offs.length - (intOf (a.tmps.getD 7 undef)).toNat) ⟨⟨0, by omega, Below.refl _ _, Lib.hid (fun j hj => by omega), exFrame (by kernel_rfl)⟩⟩ ?_
  rintro a W ⟨⟨k, hk, hbw, HIN, u, rfl⟩⟩
  have B_W := ex_trans B_V hbw
  have p0 := q0.below hbw q0.lt
  have p0_0 : W.cell? ⟨w.heap.size, 0, none⟩ = some (.slice Ao s.offs.length co) := p0.cell 0
  have p0_1 : W.cell? ⟨w.heap.size, 1, none⟩ = some (.int .i64 s.err) := p0.cell 1
  have p0_2 : W.cell? ⟨w.heap.size, 2, none⟩ = some (.slice Ab s.baths.length cb) := p0.cell 2
  have p0_l := p0.lt
  by_cases hlt : k < s.offs.length
  · obtain ⟨br, orr, eA, hbr, r0, r1⟩ := IsRgs.at_ (hs.offs.below B_W) hlt
    obtain ⟨bo, oo, eO, hbo, o0⟩ := IsInts.at_ (hA1.below B_W) hlt
    subst eA eO
    have lbr : br < W.heap.size := by have := B_W.size; omega
    have lbo : bo < W.heap.size := by have := B_W.size; omega
    obtain ⟨v, hv⟩ : ∃ v, gI o k = v := ⟨_, rfl⟩
    obtain ⟨lo, hlo⟩ : ∃ lo, (gR s.offs k).lo = lo := ⟨_, rfl⟩
    obtain ⟨hi, hhi⟩ : ∃ hi, (gR s.offs k).hi = hi := ⟨_, rfl⟩
    have HV : Hid (gI o k = v ∧ (gR s.offs k).lo = lo ∧ (gR s.offs k).hi = hi) := Lib.hid ⟨hv, hlo, hhi⟩
    rw [hv] at o0
    rw [hlo] at r0
    rw [hhi] at r1
    clear hv hlo hhi
    go_wp2_with fail
    refine wp_region_ext_mix 17 [(false, 0), (false, 1), (false, 2), (false, 3), (false, 4), (false, 5), (false, 6), (false, 7), (false, 8), (false, 9), (false, 10), (false, 11), (false, 12), (false, 13), (false, 14), (false, 15), (true, 16)] (by kernel_rfl) (by kernel_rfl) (by intro d _ _ _ _ h; cases d <;> exact h) ?_
    have X_D := (Below.refl W.heap.size W).drew
    repeat (refine mix_quiet rfl ?_; go_big_quiet_step (fail); refine wpQuiet_nil ?_)
    refine mix_loud rfl ?_
    go_wp2_with fail
    refine (In_any v lo hi W.drew).mono ?_
    rintro e w' ⟨rfl, rfl⟩
    obtain ⟨z, hz⟩ : ∃ z, inB v lo hi = z := ⟨_, rfl⟩
    rw [hz]
    have HZ := Lib.hid hz
    clear hz
    go_wp2_with fail
    refine ⟨inEx X_D, ?_⟩
    repeat (refine mix_quiet rfl ?_; go_big_quiet_step (fail); refine wpQuiet_nil ?_)
    refine mix_nil rfl ?_
    cases z
    · have HF : Hid (truB (TruI s o h) = false) := Lib.hid (truB_false (fun ht => inB_false HZ.out (by have := ht.2.2.offs k hlt; obtain ⟨a1, a2, a3⟩ := HV.out; rw [a1, a2, a3] at this; exact this)))
      have B9 := ex_trans B_W X_D
      go_wp2
      go_ret
      first | exact ⟨ret_bool HF.out.symm, B9⟩ | exact ⟨by rw [HF.out], B9⟩
    have HN : Hid (∀ j, j < k + 1 → (gR s.offs j).lo ≤ gI o j ∧ gI o j ≤ (gR s.offs j).hi) := Lib.hid (fun j hj => by
      rcases Nat.lt_succ_iff_lt_or_eq.1 hj with h4 | h4
      · exact HIN.out j h4
      · subst h4; obtain ⟨a1, a2, a3⟩ := HV.out; rw [a1, a2, a3]; exact inB_iff.1 HZ.out)
    go_wp2_with fail
    refine ⟨⟨k + 1, by omega, ex_trans hbw X_D, HN, exFrame (by kernel_rfl)⟩, ?_⟩
    show s.offs.length - (intOf (.int .i64 ((k : Int) + 1))).toNat < s.offs.length - (intOf (.int .i64 (k : Int))).toNat
    simp [intOf]
    omega
  obtain rfl : k = s.offs.length := by omega
  have HO := HIN
  clear HIN hlt hk
  go_wp2_with fail
  clear p0_0 p0_1 p0_2 p0_l
  clear p0
  refine wp_loop (fun a W => Rel (fun a W => ∃ b : Nat, b ≤ s.baths.length ∧ Below V.heap.size V W ∧ Hid (∀ j, j < b → ((gBt s.baths j).heat.lo ≤ gI h j ∧ gI h j ≤ (gBt s.baths j).heat.hi) ∧ ∀ i, i < (gBt s.baths j).reads.length → OkR s o h j i) ∧ ∃ u : Nat → Value, a = ⟨List.toArray (u 0 :: .slice A1 s.offs.length c1 :: .slice A2 s.baths.length c2 :: .pointer (some ⟨w.heap.size, 0, none⟩) :: u 4 :: u 5 :: .bool false :: u 7 :: .int .i64 (b : Int) :: u 9 :: u 10 :: u 11 :: u 12 :: u 13 :: u 14 :: u 15 :: u 16 :: u 17 :: u 18 :: u 19 :: u 20 :: u 21 :: u 22 :: u 23 :: u 24 :: u 25 :: u 26 :: u 27 :: u 28 :: u 29 :: u 30 :: u 31 :: u 32 :: u 33 :: u 34 :: u 35 :: u 36 :: u 37 :: u 38 :: u 39 :: u 40 :: u 41 :: u 42 :: u 43 :: u 44 :: u 45 :: u 46 :: u 47 :: u 48 :: u 49 :: u 50 :: u 51 :: u 52 :: u 53 :: u 54 :: u 55 :: u 56 :: u 57 :: u 58 :: u 59 :: u 60 :: u 61 :: u 62 :: u 63 :: u 64 :: u 65 :: u 66 :: u 67 :: u 68 :: u 69 :: u 70 :: u 71 :: u 72 :: u 73 :: u 74 :: u 75 :: u 76 :: u 77 :: u 78 :: u 79 :: u 80 :: u 81 :: u 82 :: u 83 :: u 84 :: u 85 :: u 86 :: u 87 :: u 88 :: u 89 :: u 90 :: u 91 :: u 92 :: u 93 :: u 94 :: u 95 :: u 96 :: u 97 :: u 98 :: u 99 :: u 100 :: u 101 :: u 102 :: u 103 :: u 104 :: u 105 :: u 106 :: u 107 :: u 108 :: []), []⟩) a W)
    (fun a _ => s.baths.length - (intOf (a.tmps.getD 8 undef)).toNat) ⟨⟨0, by omega, hbw, Lib.hid (fun j hj => by omega), exFrame (by kernel_rfl)⟩⟩ ?_
  clear hbw B_W
  rintro a W ⟨⟨b, hk, hbw, HIN, u, rfl⟩⟩
  have B_W := ex_trans B_V hbw
  have p1 := q0.below hbw q0.lt
  have p1_0 : W.cell? ⟨w.heap.size, 0, none⟩ = some (.slice Ao s.offs.length co) := p1.cell 0
  have p1_1 : W.cell? ⟨w.heap.size, 1, none⟩ = some (.int .i64 s.err) := p1.cell 1
  have p1_2 : W.cell? ⟨w.heap.size, 2, none⟩ = some (.slice Ab s.baths.length cb) := p1.cell 2
  have p1_l := p1.lt
  by_cases hlt : b < s.baths.length
  rotate_left
  · obtain rfl : b = s.baths.length := by omega
    have HF : Hid (truB (TruI s o h) = true) := Lib.hid (truB_iff.2 ⟨HE1.out, HE2.out, Tru.of_reads HO.out (fun b hb => (HIN.out b hb).1) (fun b hb i hi => (HIN.out b hb).2 i hi)⟩)
    go_wp2
    go_ret
    first | exact ⟨ret_bool HF.out.symm, B_W⟩ | exact ⟨by rw [HF.out], B_W⟩
  obtain ⟨bb, ob, eB, hbb, g0, g1, g2⟩ := IsBts.at_ (hs.baths.below B_W) hlt
  obtain ⟨bh, oh, eH, hbh, h0⟩ := IsInts.at_ (hA2.below B_W) hlt
  subst eB eH
  have lbb : bb < W.heap.size := by have := B_W.size; omega
  have lbh : bh < W.heap.size := by have := B_W.size; omega
  have hrd := hs.reads b hlt
  have hrl := ht.nr b hlt
  have hin := HOK.out.inst b hlt
  have hvl := HOK.out.val b hlt
  have hht := HOK.out.heats b hlt
  obtain ⟨hv, ehv⟩ : ∃ v, gI h b = v := ⟨_, rfl⟩
  obtain ⟨lo, hlo⟩ : ∃ lo, (gBt s.baths b).heat.lo = lo := ⟨_, rfl⟩
  obtain ⟨hi, hhi⟩ : ∃ hi, (gBt s.baths b).heat.hi = hi := ⟨_, rfl⟩
  obtain ⟨rd, erd⟩ : ∃ rd, (gBt s.baths b).reads = rd := ⟨_, rfl⟩
  have HV : Hid (gI h b = hv ∧ (gBt s.baths b).heat.lo = lo ∧ (gBt s.baths b).heat.hi = hi ∧ (gBt s.baths b).reads = rd) := Lib.hid ⟨ehv, hlo, hhi, erd⟩
  rw [ehv] at h0
  rw [hlo] at g0 hht
  rw [hhi] at g1 hht
  rw [erd] at g2 hrd hin hvl hrl
  clear ehv hlo hhi erd
  obtain ⟨Ar, hAr⟩ : ∃ A, rA b = A := ⟨_, rfl⟩
  obtain ⟨cr, hcr⟩ : ∃ c, rc b = c := ⟨_, rfl⟩
  rw [hAr] at g2 hrd
  rw [hcr] at g2
  clear hAr hcr
  have HI := Lib.hid hin
  have HVL := Lib.hid hvl
  clear hin hvl
  have hal := ex_alloc (Below.refl W.heap.size W) (.cells #[.int .i64 lo, .int .i64 hi, .slice Ar rd.length cr] 82)
  have qx : Blk (W.alloc (.cells #[.int .i64 lo, .int .i64 hi, .slice Ar rd.length cr] 82)) W.heap.size 82 #[.int .i64 lo, .int .i64 hi, .slice Ar rd.length cr] := Blk.new _ _ _
  have q2 := p1.alloc (.cells #[.int .i64 lo, .int .i64 hi, .slice Ar rd.length cr] 82)
  go_wp2_with fail
  clear p1_0 p1_1 p1_2 p1_l
  have hbW1 := ex_trans hbw hal
  have hW1s := hal.size
  obtain ⟨px, hpx⟩ : ∃ px, W.heap.size = px := ⟨_, rfl⟩
  have hpx0 : w.heap.size < px := by have := p1.lt; omega
  rw [hpx] at qx ⊢
  generalize W.alloc (.cells #[.int .i64 lo, .int .i64 hi, .slice Ar rd.length cr] 82) = W1 at *
  clear p1 h0 g0 g1 g2 hpx
  have B_W1 := ex_trans B_V hbW1
  have p2 := q0.below hbW1 q0.lt
  obtain ⟨bh', oh', eH, _, h0⟩ := IsInts.at_ (hA2.below B_W1) hlt
  injection eH with eH
  injection eH with eH1 eH2 eH3
  subst eH1 eH2
  clear eH3
  rw [HV.out.1] at h0
  have lbh2 : bh < W1.heap.size := by have := B_W1.size; omega
  have p2_0 : W1.cell? ⟨w.heap.size, 0, none⟩ = some (.slice Ao s.offs.length co) := p2.cell 0
  have p2_1 : W1.cell? ⟨w.heap.size, 1, none⟩ = some (.int .i64 s.err) := p2.cell 1
  have p2_2 : W1.cell? ⟨w.heap.size, 2, none⟩ = some (.slice (some ⟨bb, ob, none⟩) s.baths.length cb) := p2.cell 2
  have p2_l := p2.lt
  have qx_0 : W1.cell? ⟨px, 0, none⟩ = some (.int .i64 lo) := qx.cell 0
  have qx_1 : W1.cell? ⟨px, 1, none⟩ = some (.int .i64 hi) := qx.cell 1
  have qx_2 : W1.cell? ⟨px, 2, none⟩ = some (.slice Ar rd.length cr) := qx.cell 2
  have qx_l := qx.lt
  clear q2
  go_wp2_with fail
  refine wp_region_ext_mix 11 [(false, 0), (false, 1), (false, 2), (false, 3), (false, 4), (false, 5), (false, 6), (false, 7), (false, 8), (false, 9), (true, 10)] (by kernel_rfl) (by kernel_rfl) (by intro d _ _ _ _ h; cases d <;> exact h) ?_
  have X_D := (Below.refl W1.heap.size W1).drew
  repeat (refine mix_quiet rfl ?_; go_big_quiet_step (fail); refine wpQuiet_nil ?_)
  refine mix_loud rfl ?_
  go_wp2_with fail
  refine (In_any hv lo hi W1.drew).mono ?_
  rintro e w' ⟨rfl, rfl⟩
  obtain ⟨z, hz⟩ : ∃ z, inB hv lo hi = z := ⟨_, rfl⟩
  rw [hz]
  have HZ := Lib.hid hz
  clear hz
  go_wp2_with fail
  refine ⟨inEx X_D, ?_⟩
  repeat (refine mix_quiet rfl ?_; go_big_quiet_step (fail); refine wpQuiet_nil ?_)
  refine mix_nil rfl ?_
  have B9 := ex_trans B_W1 X_D
  cases z
  · have HF : Hid (truB (TruI s o h) = false) := Lib.hid (truB_false (fun ht => inB_false HZ.out (by have := ht.2.2.heats b hlt; obtain ⟨a1, a2, a3, _⟩ := HV.out; rw [a2, a3] at this; rw [← a1]; exact this)))
    go_wp2
    go_ret
    first | exact ⟨ret_bool HF.out.symm, B9⟩ | exact ⟨by rw [HF.out], B9⟩
  have hvb : lo ≤ hv ∧ hv ≤ hi := inB_iff.1 HZ.out
  have HHT : Hid ((gBt s.baths b).heat.lo ≤ gI h b ∧ gI h b ≤ (gBt s.baths b).heat.hi) := Lib.hid (by obtain ⟨a1, a2, a3, _⟩ := HV.out; rw [a1, a2, a3]; exact inB_iff.1 HZ.out)
  clear HZ
  go_wp2_with fail
  clear p2_0 p2_1 p2_2 p2_l qx_0 qx_1 qx_2 qx_l
  have hbD := ex_trans hbW1 X_D
  have qd := qx.below X_D qx.lt
  clear p2 h0 lbh2 qx B9 B_W1
  refine wp_loop (fun a Y => Rel (fun a Y => ∃ i : Nat, i ≤ rd.length ∧ Below V.heap.size V Y ∧ Blk Y px 82 #[.int .i64 lo, .int .i64 hi, .slice Ar rd.length cr] ∧ Hid (∀ j, j < i → OkR s o h b j) ∧ ∃ u : Nat → Value, a = ⟨List.toArray (u 0 :: .slice A1 s.offs.length c1 :: .slice (some ⟨bh, oh, none⟩) s.baths.length c2 :: .pointer (some ⟨w.heap.size, 0, none⟩) :: u 4 :: u 5 :: .bool false :: u 7 :: .int .i64 (b : Int) :: .pointer (some ⟨px, 0, none⟩) :: .int .i64 (i : Int) :: u 11 :: u 12 :: u 13 :: u 14 :: u 15 :: u 16 :: u 17 :: u 18 :: u 19 :: u 20 :: u 21 :: u 22 :: u 23 :: u 24 :: u 25 :: u 26 :: u 27 :: u 28 :: u 29 :: u 30 :: u 31 :: u 32 :: u 33 :: u 34 :: u 35 :: u 36 :: u 37 :: u 38 :: u 39 :: u 40 :: u 41 :: u 42 :: u 43 :: u 44 :: u 45 :: u 46 :: u 47 :: u 48 :: u 49 :: u 50 :: u 51 :: u 52 :: u 53 :: u 54 :: u 55 :: u 56 :: u 57 :: u 58 :: u 59 :: u 60 :: u 61 :: u 62 :: u 63 :: u 64 :: u 65 :: u 66 :: u 67 :: u 68 :: u 69 :: u 70 :: u 71 :: u 72 :: u 73 :: u 74 :: u 75 :: u 76 :: u 77 :: u 78 :: u 79 :: u 80 :: u 81 :: u 82 :: u 83 :: u 84 :: u 85 :: u 86 :: u 87 :: u 88 :: u 89 :: u 90 :: u 91 :: u 92 :: u 93 :: u 94 :: u 95 :: u 96 :: u 97 :: u 98 :: u 99 :: u 100 :: u 101 :: u 102 :: u 103 :: u 104 :: u 105 :: u 106 :: u 107 :: u 108 :: []), []⟩) a Y)
    (fun a _ => rd.length - (intOf (a.tmps.getD 10 undef)).toNat) ⟨⟨0, by omega, hbD, qd, Lib.hid (fun j hj => by omega), exFrame (by kernel_rfl)⟩⟩ ?_
  clear hbD qd hbw B_W hbW1 X_D hal hW1s lbb lbh
  rintro a Y ⟨⟨i, hi', hbY, qx, HR, u, rfl⟩⟩
  have B_Y := ex_trans B_V hbY
  have p3 := q0.below hbY q0.lt
  obtain ⟨bh', oh', eH, _, h0⟩ := IsInts.at_ (hA2.below B_Y) hlt
  injection eH with eH
  injection eH with eH1 eH2 eH3
  subst eH1 eH2
  clear eH3
  rw [HV.out.1] at h0
  have lbh2 : bh < Y.heap.size := by have := B_Y.size; omega
  have p3_0 : Y.cell? ⟨w.heap.size, 0, none⟩ = some (.slice Ao s.offs.length co) := p3.cell 0
  have p3_1 : Y.cell? ⟨w.heap.size, 1, none⟩ = some (.int .i64 s.err) := p3.cell 1
  have p3_2 : Y.cell? ⟨w.heap.size, 2, none⟩ = some (.slice (some ⟨bb, ob, none⟩) s.baths.length cb) := p3.cell 2
  have p3_l := p3.lt
  have qx_0 : Y.cell? ⟨px, 0, none⟩ = some (.int .i64 lo) := qx.cell 0
  have qx_1 : Y.cell? ⟨px, 1, none⟩ = some (.int .i64 hi) := qx.cell 1
  have qx_2 : Y.cell? ⟨px, 2, none⟩ = some (.slice Ar rd.length cr) := qx.cell 2
  have qx_l := qx.lt
  by_cases hli : i < rd.length
  rotate_left
  · obtain rfl : i = rd.length := by omega
    have HN : Hid (∀ j, j < b + 1 → ((gBt s.baths j).heat.lo ≤ gI h j ∧ gI h j ≤ (gBt s.baths j).heat.hi) ∧ ∀ i, i < (gBt s.baths j).reads.length → OkR s o h j i) := Lib.hid (fun j hj => by
      rcases Nat.lt_succ_iff_lt_or_eq.1 hj with h4 | h4
      · exact HIN.out j h4
      · subst h4; exact ⟨HHT.out, fun i hi => HR.out i (by rw [HV.out.2.2.2] at hi; exact hi)⟩)
    go_wp2_with fail
    refine ⟨⟨b + 1, by omega, hbY, HN, exFrame (by kernel_rfl)⟩, ?_⟩
    show s.baths.length - (intOf (.int .i64 ((b : Int) + 1))).toNat < s.baths.length - (intOf (.int .i64 (b : Int))).toNat
    simp [intOf]
    omega
  obtain ⟨br, orr, eR, hbr, r0, r1⟩ := IsRds.at_ (hrd.below B_Y) hli
  subst eR
  have lbr : br < Y.heap.size := by have := B_Y.size; omega
  obtain ⟨hi0, hi1⟩ := HI.out i hli
  have hvv := HVL.out i hli
  obtain ⟨iv, hiv⟩ : ∃ v, (gRd rd i).inst = v := ⟨_, rfl⟩
  obtain ⟨vv, hvv'⟩ : ∃ v, (gRd rd i).val = v := ⟨_, rfl⟩
  rw [hiv] at hi0 hi1 r0
  rw [hvv'] at hvv r1
  obtain ⟨n, rfl⟩ : ∃ n : Nat, iv = (n : Int) := ⟨iv.toNat, by omega⟩
  have hn : n < s.offs.length := by omega
  obtain ⟨bo, oo, eO, hbo, o0⟩ := IsInts.at_ (hA1.below B_Y) hn
  subst eO
  have lbo : bo < Y.heap.size := by have := B_Y.size; omega
  obtain ⟨ov, hov⟩ : ∃ v, gI o n = v := ⟨_, rfl⟩
  have hob := HO.out n hn
  have hoo := HOK.out.offs n hn
  rw [hov] at o0 hob
  have HX : Hid ((gRd (gBt s.baths b).reads i).inst = (n : Int) ∧ (gRd (gBt s.baths b).reads i).val = vv ∧ gI h b = hv ∧ gI o n = ov) := Lib.hid (by rw [HV.out.2.2.2]; exact ⟨hiv, hvv', HV.out.1, hov⟩)
  have hob2 : -100 ≤ ov ∧ ov ≤ 100 := by omega
  clear hiv hvv' hov hob hoo hi0 hi1
  have k1 : IntKind.i64.wrap (vv - hv) = vv - hv := IntWalk.i64_in _ (by omega)
  have k2 : IntKind.i64.wrap (vv - hv - ov) = vv - hv - ov := IntWalk.i64_in _ (by omega)
  have k3 : IntKind.i64.wrap (-s.err) = -s.err := IntWalk.i64_in _ (by omega)
  go_wp2_with fail
  refine wp_region_ext_mix 21 [(false, 0), (false, 1), (false, 2), (false, 3), (false, 4), (false, 5), (false, 6), (false, 7), (false, 8), (false, 9), (false, 10), (false, 11), (false, 12), (false, 13), (false, 14), (false, 15), (false, 16), (false, 17), (false, 18), (false, 19), (false, 20)] (by kernel_rfl) (by kernel_rfl) (by intro d _ _ _ _ h; cases d <;> exact h) ?_
  have X_D := (Below.refl Y.heap.size Y).drew
  repeat (refine mix_quiet rfl ?_; go_big_quiet_step (fail); refine wpQuiet_nil ?_)
  refine mix_nil rfl ?_
  go_wp2_with fail
  refine (In_any (vv - hv - ov) (-s.err) s.err Y.drew).mono ?_
  rintro e w' ⟨rfl, rfl⟩
  obtain ⟨z, hz⟩ : ∃ z, inB (vv - hv - ov) (-s.err) s.err = z := ⟨_, rfl⟩
  rw [hz]
  have HZ := Lib.hid hz
  have B9 := ex_trans B_Y X_D
  clear hz
  cases z
  · have HF : Hid (truB (TruI s o h) = false) := Lib.hid (truB_false (fun ht => inB_false HZ.out (by have h9 := ht.2.2.read (fun _ => rfl) (b := b) (i := i) hlt (by rw [HV.out.2.2.2]; exact hli); obtain ⟨a1, a2, a3, a4⟩ := HX.out; rw [a1, a2, Int.toNat_natCast] at h9; simp only [a3, a4] at h9; omega)))
    go_wp2
    go_ret
    first | exact ⟨ret_bool HF.out.symm, B9⟩ | exact ⟨by rw [HF.out], B9⟩
  have HN : Hid (∀ j, j < i + 1 → OkR s o h b j) := Lib.hid (fun j hj => by
    rcases Nat.lt_succ_iff_lt_or_eq.1 hj with h4 | h4
    · exact HR.out j h4
    · subst h4; obtain ⟨a1, a2, a3, a4⟩ := HX.out; have h9 := inB_iff.1 HZ.out; unfold OkR; rw [a1, a2, Int.toNat_natCast, a3, a4]; omega)
  have hbD := ex_trans hbY X_D
  have qd := qx.below X_D qx.lt
  go_wp2_with fail
  refine ⟨⟨i + 1, by omega, hbD, qd, HN, exFrame (by kernel_rfl)⟩, ?_⟩
  show rd.length - (intOf (.int .i64 ((i : Int) + 1))).toNat < rd.length - (intOf (.int .i64 (i : Int))).toNat
  simp [intOf]
  omega
end Go.Proofs.Ytnplefhigbkbbaa
end

section
namespace Go.Proofs.Ytnplefhigbkbbaa
open Go.RowKit Go.Shelf
attribute [local go_sem] Oper.semAt_some Ex.cell? Ex.frozen? Gx.cell?

theorem results_cell_one {P : Program} {fn : Func} {p : Tmp} {ty : TypeId} (h : fn.results = #[.cell p ty]) (tmps : Array Value) (w : World) (g : Nat) (v : Value) (d : TypeDesc)
    (hp : tmps.getD p undef = .pointer (some ⟨g, 0, none⟩)) (hc : w.cell? ⟨g, 0, none⟩ = some v) (hu : P.underlying ty = some d) (hd : (match d with | .struct _ | .array _ _ => true | _ => false) = false) :
    (results fn tmps).run P w = .ok v w := by
  have hp' : tmps[p]?.getD undef = .pointer (some ⟨g, 0, none⟩) := by simpa using hp
  have hagg : (isAgg ty).run P w = .ok false w := by
    unfold isAgg
    rw [Sem.run_bind, run_underlying hu w]
    cases d <;> simp_all
  simp [results, h, hp', asAddr, loadVar, Sem.run_bind, hagg, go_sem, hc]
/-- a truth of a valid series. -/
def TruC (s : Se) (o h : List Int) : Prop := ckSe s = 0 ∧ TruI s o h

theorem within_ext (n lo hi : Int) (w : World) : Calls Try.prog 96 #[.int .i64 n, .int .i64 lo, .int .i64 hi] w fun e w' => e = .returned (.bool (inB n lo hi)) ∧ Below w.heap.size w w' :=
  (within_any n lo hi w).mono fun _ _ ⟨h1, h2⟩ => ⟨h1, h2 ▸ Below.refl _ _⟩
set_option maxRecDepth 100000 in
set_option maxHeartbeats 25600000 in
theorem proveTruth_any (s : Se) (Ao Ab : Option Addr) (co cb : Nat) (rA : Nat → Option Addr) (rc : Nat → Nat) (w : World) (hs : SeIn w w.heap.size s Ao Ab rA rc) (hol : s.offs.length ≤ 1000000) (hbl : s.baths.length ≤ 1000000) (hrl : ∀ k, k < s.baths.length → (gBt s.baths k).reads.length ≤ 1000000) (A1 A2 : Option Addr) (c1 c2 : Nat) (o h : List Int) (hA1 : SlAt w w.heap.size 1 A1 o.length (fI o)) (hA2 : SlAt w w.heap.size 1 A2 h.length (fI h)) :
    Calls Try.prog 62 #[.agg #[.slice Ao s.offs.length co, .int .i64 s.err, .slice Ab s.baths.length cb], .slice A1 o.length c1, .slice A2 h.length c2] w fun e w' => e = .returned (.bool (truB (TruC s o h))) ∧ Below w.heap.size w w' := by
  have B_V := ex_alloc (ex_alloc (ex_alloc (ex_alloc (Below.refl w.heap.size w) (.cells #[.slice Ao s.offs.length co, .int .i64 s.err, .slice Ab s.baths.length cb] 34)) (.cells #[.slice A1 o.length c1] 52)) (.cells #[.slice A2 h.length c2] 52)) (.cells #[.bool false] 4)
  have q0 : Blk ((((w.alloc (.cells #[.slice Ao s.offs.length co, .int .i64 s.err, .slice Ab s.baths.length cb] 34)).alloc (.cells #[.slice A1 o.length c1] 52)).alloc (.cells #[.slice A2 h.length c2] 52)).alloc (.cells #[.bool false] 4)) w.heap.size 34 #[.slice Ao s.offs.length co, .int .i64 s.err, .slice Ab s.baths.length cb] := (((Blk.new _ _ _).alloc _).alloc _).alloc _
  have q1 : Blk ((((w.alloc (.cells #[.slice Ao s.offs.length co, .int .i64 s.err, .slice Ab s.baths.length cb] 34)).alloc (.cells #[.slice A1 o.length c1] 52)).alloc (.cells #[.slice A2 h.length c2] 52)).alloc (.cells #[.bool false] 4)) (w.heap.size + 1) 52 #[.slice A1 o.length c1] := ((Blk.new' _ _ _ (by simp)).alloc _).alloc _
  have q2 : Blk ((((w.alloc (.cells #[.slice Ao s.offs.length co, .int .i64 s.err, .slice Ab s.baths.length cb] 34)).alloc (.cells #[.slice A1 o.length c1] 52)).alloc (.cells #[.slice A2 h.length c2] 52)).alloc (.cells #[.bool false] 4)) (w.heap.size + 1 + 1) 52 #[.slice A2 h.length c2] := (Blk.new' _ _ _ (by simp)).alloc _
  have q3 : Blk ((((w.alloc (.cells #[.slice Ao s.offs.length co, .int .i64 s.err, .slice Ab s.baths.length cb] 34)).alloc (.cells #[.slice A1 o.length c1] 52)).alloc (.cells #[.slice A2 h.length c2] 52)).alloc (.cells #[.bool false] 4)) (w.heap.size + 1 + 1 + 1) 4 #[.bool false] := Blk.new' _ _ _ (by simp)
  refine calls_of_marks (n := 5) Try.func62 rfl ?_
  simp only [Try.ntmps62, List.size_toArray, List.length_cons, List.length_nil, Nat.reduceAdd, Nat.reduceSub, Array.replicate_succ, Array.replicate_zero, List.push_toArray, List.append_toArray, List.nil_append, List.cons_append]
  go_wp2_with fail
  generalize ((((w.alloc (.cells #[.slice Ao s.offs.length co, .int .i64 s.err, .slice Ab s.baths.length cb] 34)).alloc (.cells #[.slice A1 o.length c1] 52)).alloc (.cells #[.slice A2 h.length c2] 52)).alloc (.cells #[.bool false] 4)) = V at *
  refine (check_any s Ao Ab co cb rA rc V (hs.go B_V) hrl hbl hol).mono ?_
  rintro e W1 ⟨rfl, hW1⟩
  have B_W1 := ex_trans B_V hW1
  replace q0 := q0.below hW1 q0.lt
  replace q1 := q1.below hW1 q1.lt
  replace q2 := q2.below hW1 q2.lt
  replace q3 := q3.below hW1 q3.lt
  have q0_0 : W1.cell? ⟨w.heap.size, 0, none⟩ = some (.slice Ao s.offs.length co) := q0.cell 0
  have q0_1 : W1.cell? ⟨w.heap.size, 1, none⟩ = some (.int .i64 s.err) := q0.cell 1
  have q0_2 : W1.cell? ⟨w.heap.size, 2, none⟩ = some (.slice Ab s.baths.length cb) := q0.cell 2
  have q0_l := q0.lt
  have q1_0 : W1.cell? ⟨w.heap.size + 1, 0, none⟩ = some (.slice A1 o.length c1) := q1.cell 0
  have q1_l := q1.lt
  have q2_0 : W1.cell? ⟨w.heap.size + 1 + 1, 0, none⟩ = some (.slice A2 h.length c2) := q2.cell 0
  have q2_l := q2.lt
  have q3_0 : W1.cell? ⟨w.heap.size + 1 + 1 + 1, 0, none⟩ = some (.bool false) := q3.cell 0
  have q3_l := q3.lt
  by_cases e0 : ckSe s = 0
  rotate_left
  · have HF : Hid (truB (TruC s o h) = false) := Lib.hid (truB_false (fun ht => e0 ht.1))
    have e1 : (ckSe s == 0) = false := by simp [e0]
    have e2 : (ckSe s != 0) = true := by simp [e0]
    generalize ckSe s = ck at *
    have zf := q3.frozen0
    have qr := q3.set_ 0 (.bool false)
    simp only [List.setIfInBounds_toArray, List.set_cons_zero] at qr
    have B9 := ex_set B_W1 (p := ⟨w.heap.size + 1 + 1 + 1, 0, none⟩) (by show w.heap.size ≤ w.heap.size + 1 + 1 + 1; omega) (.bool false)
    go_wp2
    show LeavesInM _ _ _ _ _ _ _ _ _
    refine leaves_marks w.heap.size _ _ trivial (fun d hd => by cases hd) (fun W' hW' => ⟨_, results_cell_one rfl _ _ (w.heap.size + 1 + 1 + 1) (.bool false) _ rfl (Blk.cell (hW'.same _ _ qr (fun x e => by cases e)) 0) rfl rfl, by rw [HF.out], hW'.below B9⟩)
  have HC := Lib.hid e0
  have hok := seOk_iff.1 e0
  have HOK := Lib.hid hok
  have her := hok.err
  rw [e0]
  clear hok e0
  by_cases e1 : o.length = s.offs.length
  rotate_left
  · have HF : Hid (truB (TruC s o h) = false) := Lib.hid (truB_false (fun ht => e1 ht.2.1))
    have zf := q3.frozen0
    have qr := q3.set_ 0 (.bool false)
    simp only [List.setIfInBounds_toArray, List.set_cons_zero] at qr
    have B9 := ex_set B_W1 (p := ⟨w.heap.size + 1 + 1 + 1, 0, none⟩) (by show w.heap.size ≤ w.heap.size + 1 + 1 + 1; omega) (.bool false)
    go_wp2
    show LeavesInM _ _ _ _ _ _ _ _ _
    refine leaves_marks w.heap.size _ _ trivial (fun d hd => by cases hd) (fun W' hW' => ⟨_, results_cell_one rfl _ _ (w.heap.size + 1 + 1 + 1) (.bool false) _ rfl (Blk.cell (hW'.same _ _ qr (fun x e => by cases e)) 0) rfl rfl, by rw [HF.out], hW'.below B9⟩)
  by_cases e2 : h.length = s.baths.length
  rotate_left
  · have HF : Hid (truB (TruC s o h) = false) := Lib.hid (truB_false (fun ht => e2 ht.2.2.1))
    have zf := q3.frozen0
    have qr := q3.set_ 0 (.bool false)
    simp only [List.setIfInBounds_toArray, List.set_cons_zero] at qr
    have B9 := ex_set B_W1 (p := ⟨w.heap.size + 1 + 1 + 1, 0, none⟩) (by show w.heap.size ≤ w.heap.size + 1 + 1 + 1; omega) (.bool false)
    go_wp2
    show LeavesInM _ _ _ _ _ _ _ _ _
    refine leaves_marks w.heap.size _ _ trivial (fun d hd => by cases hd) (fun W' hW' => ⟨_, results_cell_one rfl _ _ (w.heap.size + 1 + 1 + 1) (.bool false) _ rfl (Blk.cell (hW'.same _ _ qr (fun x e => by cases e)) 0) rfl rfl, by rw [HF.out], hW'.below B9⟩)
  have HE1 := Lib.hid e1
  have HE2 := Lib.hid e2
  rw [e1] at hA1 q1 q1_0
  rw [e2] at hA2 q2 q2_0
  clear e1 e2
  go_wp2_with fail
  clear q0_0 q0_1 q0_2 q0_l q1_0 q1_l q2_0 q2_l q3_0 q3_l
  refine wp_loop (fun a W => Rel (fun a W => ∃ k : Nat, k ≤ s.offs.length ∧ Below W1.heap.size W1 W ∧ Hid (∀ j, j < k → (gR s.offs j).lo ≤ gI o j ∧ gI o j ≤ (gR s.offs j).hi) ∧ ∃ u : Nat → Value, a = ⟨List.toArray (u 0 :: u 1 :: u 2 :: .pointer (some ⟨w.heap.size, 0, none⟩) :: .pointer (some ⟨w.heap.size + 1, 0, none⟩) :: .pointer (some ⟨w.heap.size + 1 + 1, 0, none⟩) :: .pointer (some ⟨w.heap.size + 1 + 1 + 1, 0, none⟩) :: u 7 :: u 8 :: u 9 :: u 10 :: u 11 :: u 12 :: u 13 :: u 14 :: u 15 :: u 16 :: u 17 :: u 18 :: u 19 :: u 20 :: u 21 :: u 22 :: u 23 :: u 24 :: u 25 :: u 26 :: u 27 :: u 28 :: u 29 :: u 30 :: u 31 :: u 32 :: .slice Ao s.offs.length co :: .int .i64 (s.offs.length : Int) :: .int .i64 (k : Int) :: u 36 :: u 37 :: u 38 :: u 39 :: u 40 :: u 41 :: u 42 :: u 43 :: u 44 :: u 45 :: u 46 :: u 47 :: u 48 :: u 49 :: u 50 :: u 51 :: u 52 :: u 53 :: u 54 :: u 55 :: u 56 :: u 57 :: u 58 :: u 59 :: u 60 :: u 61 :: u 62 :: u 63 :: u 64 :: u 65 :: u 66 :: u 67 :: u 68 :: u 69 :: u 70 :: u 71 :: u 72 :: u 73 :: u 74 :: u 75 :: u 76 :: u 77 :: u 78 :: u 79 :: u 80 :: u 81 :: u 82 :: u 83 :: u 84 :: u 85 :: u 86 :: u 87 :: u 88 :: u 89 :: []), []⟩) a W)
    (fun a _ => s.offs.length - (intOf (a.tmps.getD 35 undef)).toNat) ⟨⟨0, by omega, Below.refl _ _, Lib.hid (fun j hj => by omega), exFrame (by kernel_rfl)⟩⟩ ?_
  rintro a W ⟨⟨k, hk, hbw, HIN, u, rfl⟩⟩
  have B_W := ex_trans B_W1 hbw
  have p0 := q0.below hbw q0.lt
  have p1 := q1.below hbw q1.lt
  have p2 := q2.below hbw q2.lt
  have p3 := q3.below hbw q3.lt
  have p0_0 : W.cell? ⟨w.heap.size, 0, none⟩ = some (.slice Ao s.offs.length co) := p0.cell 0
  have p0_1 : W.cell? ⟨w.heap.size, 1, none⟩ = some (.int .i64 s.err) := p0.cell 1
  have p0_2 : W.cell? ⟨w.heap.size, 2, none⟩ = some (.slice Ab s.baths.length cb) := p0.cell 2
  have p0_l := p0.lt
  have p1_0 : W.cell? ⟨w.heap.size + 1, 0, none⟩ = some (.slice A1 s.offs.length c1) := p1.cell 0
  have p1_l := p1.lt
  have p2_0 : W.cell? ⟨w.heap.size + 1 + 1, 0, none⟩ = some (.slice A2 s.baths.length c2) := p2.cell 0
  have p2_l := p2.lt
  have p3_0 : W.cell? ⟨w.heap.size + 1 + 1 + 1, 0, none⟩ = some (.bool false) := p3.cell 0
  have p3_l := p3.lt
  by_cases hlt : k < s.offs.length
  · obtain ⟨br, orr, eA, hbr, r0, r1⟩ := IsRgs.at_ (hs.offs.below B_W) hlt
    obtain ⟨bo, oo, eO, hbo, o0⟩ := IsInts.at_ (hA1.below B_W) hlt
    subst eA eO
    have lbr : br < W.heap.size := by have := B_W.size; omega
    have lbo : bo < W.heap.size := by have := B_W.size; omega
    obtain ⟨v, hv⟩ : ∃ v, gI o k = v := ⟨_, rfl⟩
    obtain ⟨lo, hlo⟩ : ∃ lo, (gR s.offs k).lo = lo := ⟨_, rfl⟩
    obtain ⟨hi, hhi⟩ : ∃ hi, (gR s.offs k).hi = hi := ⟨_, rfl⟩
    have HV : Hid (gI o k = v ∧ (gR s.offs k).lo = lo ∧ (gR s.offs k).hi = hi) := Lib.hid ⟨hv, hlo, hhi⟩
    rw [hv] at o0
    rw [hlo] at r0
    rw [hhi] at r1
    clear hv hlo hhi
    have hal := ex_alloc (Below.refl W.heap.size W) (.cells #[.int .i64 lo, .int .i64 hi] 41)
    have qx : Blk (W.alloc (.cells #[.int .i64 lo, .int .i64 hi] 41)) W.heap.size 41 #[.int .i64 lo, .int .i64 hi] := Blk.new _ _ _
    have o0' := (hal.cell (p := ⟨bo, oo + k, none⟩) lbo).trans o0
    go_wp2_with fail
    clear p0_0 p0_1 p0_2 p0_l p1_0 p1_l p2_0 p2_l p3_0 p3_l
    have hbX := ex_trans hbw hal
    have hWs := hal.size
    obtain ⟨px, hpx⟩ : ∃ px, W.heap.size = px := ⟨_, rfl⟩
    rw [hpx] at qx ⊢
    generalize W.alloc (.cells #[.int .i64 lo, .int .i64 hi] 41) = X at *
    have lbo' : bo < X.heap.size := by omega
    clear p0 p1 p2 p3 o0 r0 r1 hpx
    have B_X := ex_trans B_W1 hbX
    have p0 := q0.below hbX q0.lt
    have p1 := q1.below hbX q1.lt
    have p2 := q2.below hbX q2.lt
    have p3 := q3.below hbX q3.lt
    have p0_0 : X.cell? ⟨w.heap.size, 0, none⟩ = some (.slice (some ⟨br, orr, none⟩) s.offs.length co) := p0.cell 0
    have p0_1 : X.cell? ⟨w.heap.size, 1, none⟩ = some (.int .i64 s.err) := p0.cell 1
    have p0_2 : X.cell? ⟨w.heap.size, 2, none⟩ = some (.slice Ab s.baths.length cb) := p0.cell 2
    have p0_l := p0.lt
    have p1_0 : X.cell? ⟨w.heap.size + 1, 0, none⟩ = some (.slice (some ⟨bo, oo, none⟩) s.offs.length c1) := p1.cell 0
    have p1_l := p1.lt
    have p2_0 : X.cell? ⟨w.heap.size + 1 + 1, 0, none⟩ = some (.slice A2 s.baths.length c2) := p2.cell 0
    have p2_l := p2.lt
    have p3_0 : X.cell? ⟨w.heap.size + 1 + 1 + 1, 0, none⟩ = some (.bool false) := p3.cell 0
    have p3_l := p3.lt
    have qx_0 : X.cell? ⟨px, 0, none⟩ = some (.int .i64 lo) := qx.cell 0
    have qx_1 : X.cell? ⟨px, 1, none⟩ = some (.int .i64 hi) := qx.cell 1
    have qx_l := qx.lt
    go_wp2_with fail
    refine wp_region_ext (by kernel_rfl) (by kernel_rfl) ?_
    repeat (any_goals (first | go_big_quiet_step ((go_at_call 101; exact Calls.ext_of (has_any _ _ _ _)))))
    refine wpQuiet_nil ?_; intro _ hw'; obtain ⟨E2, rfl⟩ := hw'
    obtain ⟨X2, hX2, X_X2⟩ : ∃ X2, E2.W = X2 ∧ Below X.heap.size X X2 := ⟨_, rfl, E2.h⟩
    rw [hX2]
    clear hX2
    obtain ⟨z, hz⟩ : ∃ z, inB v lo hi = z := ⟨_, rfl⟩
    rw [hz]
    have HZ := Lib.hid hz
    clear hz
    clear p0_0 p0_1 p0_2 p0_l p1_0 p1_l p2_0 p2_l p3_0 p3_l qx_0 qx_1 qx_l
    have B_X2 := ex_trans B_X X_X2
    have p9 := p3.below X_X2 p3.lt
    have p9_0 : X2.cell? ⟨w.heap.size + 1 + 1 + 1, 0, none⟩ = some (.bool false) := p9.cell 0
    have p9_l := p9.lt
    cases z
    · have HF : Hid (truB (TruC s o h) = false) := Lib.hid (truB_false (fun ht => inB_false HZ.out (by have := ht.2.2.2.offs k hlt; obtain ⟨a1, a2, a3⟩ := HV.out; rw [a1, a2, a3] at this; exact this)))
      have zf := p9.frozen0
      have qr := p9.set_ 0 (.bool false)
      simp only [List.setIfInBounds_toArray, List.set_cons_zero] at qr
      have B9 := ex_set B_X2 (p := ⟨w.heap.size + 1 + 1 + 1, 0, none⟩) (by show w.heap.size ≤ w.heap.size + 1 + 1 + 1; omega) (.bool false)
      go_wp2
      show LeavesInM _ _ _ _ _ _ _ _ _
      refine leaves_marks w.heap.size _ _ trivial (fun d hd => by cases hd) (fun W' hW' => ⟨_, results_cell_one rfl _ _ (w.heap.size + 1 + 1 + 1) (.bool false) _ rfl (Blk.cell (hW'.same _ _ qr (fun x e => by cases e)) 0) rfl rfl, by rw [HF.out], hW'.below B9⟩)
    have HN : Hid (∀ j, j < k + 1 → (gR s.offs j).lo ≤ gI o j ∧ gI o j ≤ (gR s.offs j).hi) := Lib.hid (fun j hj => by
      rcases Nat.lt_succ_iff_lt_or_eq.1 hj with h4 | h4
      · exact HIN.out j h4
      · subst h4; obtain ⟨a1, a2, a3⟩ := HV.out; rw [a1, a2, a3]; exact inB_iff.1 HZ.out)
    go_wp2_with fail
    refine ⟨⟨k + 1, by omega, ex_trans hbX X_X2, HN, exFrame (by kernel_rfl)⟩, ?_⟩
    show s.offs.length - (intOf (.int .i64 ((k : Int) + 1))).toNat < s.offs.length - (intOf (.int .i64 (k : Int))).toNat
    simp [intOf]
    omega
  obtain rfl : k = s.offs.length := by omega
  have HO := HIN
  clear HIN hlt hk
  go_wp2_with fail
  clear p0_0 p0_1 p0_2 p0_l p1_0 p1_l p2_0 p2_l p3_0 p3_l
  clear p0 p1 p2 p3
  refine wp_loop (fun a W => Rel (fun a W => ∃ b : Nat, b ≤ s.baths.length ∧ Below W1.heap.size W1 W ∧ Hid (∀ j, j < b → (gBt s.baths j).heat.lo ≤ gI h j ∧ gI h j ≤ (gBt s.baths j).heat.hi) ∧ ∃ u : Nat → Value, a = ⟨List.toArray (u 0 :: u 1 :: u 2 :: .pointer (some ⟨w.heap.size, 0, none⟩) :: .pointer (some ⟨w.heap.size + 1, 0, none⟩) :: .pointer (some ⟨w.heap.size + 1 + 1, 0, none⟩) :: .pointer (some ⟨w.heap.size + 1 + 1 + 1, 0, none⟩) :: u 7 :: u 8 :: u 9 :: u 10 :: u 11 :: u 12 :: u 13 :: u 14 :: u 15 :: u 16 :: u 17 :: u 18 :: u 19 :: u 20 :: u 21 :: u 22 :: u 23 :: u 24 :: u 25 :: u 26 :: u 27 :: u 28 :: u 29 :: u 30 :: u 31 :: u 32 :: u 33 :: u 34 :: u 35 :: u 36 :: u 37 :: u 38 :: u 39 :: u 40 :: u 41 :: u 42 :: u 43 :: u 44 :: u 45 :: u 46 :: u 47 :: u 48 :: .slice Ab s.baths.length cb :: .int .i64 (s.baths.length : Int) :: .int .i64 (b : Int) :: u 52 :: u 53 :: u 54 :: u 55 :: u 56 :: u 57 :: u 58 :: u 59 :: u 60 :: u 61 :: u 62 :: u 63 :: u 64 :: u 65 :: u 66 :: u 67 :: u 68 :: u 69 :: u 70 :: u 71 :: u 72 :: u 73 :: u 74 :: u 75 :: u 76 :: u 77 :: u 78 :: u 79 :: u 80 :: u 81 :: u 82 :: u 83 :: u 84 :: u 85 :: u 86 :: u 87 :: u 88 :: u 89 :: []), []⟩) a W)
    (fun a _ => s.baths.length - (intOf (a.tmps.getD 51 undef)).toNat) ⟨⟨0, by omega, hbw, Lib.hid (fun j hj => by omega), exFrame (by kernel_rfl)⟩⟩ ?_
  clear hbw B_W
  rintro a W ⟨⟨b, hk, hbw, HIN, u, rfl⟩⟩
  have B_W := ex_trans B_W1 hbw
  have p0 := q0.below hbw q0.lt
  have p1 := q1.below hbw q1.lt
  have p2 := q2.below hbw q2.lt
  have p3 := q3.below hbw q3.lt
  have p0_0 : W.cell? ⟨w.heap.size, 0, none⟩ = some (.slice Ao s.offs.length co) := p0.cell 0
  have p0_1 : W.cell? ⟨w.heap.size, 1, none⟩ = some (.int .i64 s.err) := p0.cell 1
  have p0_2 : W.cell? ⟨w.heap.size, 2, none⟩ = some (.slice Ab s.baths.length cb) := p0.cell 2
  have p0_l := p0.lt
  have p1_0 : W.cell? ⟨w.heap.size + 1, 0, none⟩ = some (.slice A1 s.offs.length c1) := p1.cell 0
  have p1_l := p1.lt
  have p2_0 : W.cell? ⟨w.heap.size + 1 + 1, 0, none⟩ = some (.slice A2 s.baths.length c2) := p2.cell 0
  have p2_l := p2.lt
  have p3_0 : W.cell? ⟨w.heap.size + 1 + 1 + 1, 0, none⟩ = some (.bool false) := p3.cell 0
  have p3_l := p3.lt
  by_cases hlt : b < s.baths.length
  · obtain ⟨bb, ob, eB, hbb, g0, g1, g2⟩ := IsBts.at_ (hs.baths.below B_W) hlt
    obtain ⟨bh, oh, eH, hbh, h0⟩ := IsInts.at_ (hA2.below B_W) hlt
    subst eB eH
    have lbb : bb < W.heap.size := by have := B_W.size; omega
    have lbh : bh < W.heap.size := by have := B_W.size; omega
    obtain ⟨hv, ehv⟩ : ∃ v, gI h b = v := ⟨_, rfl⟩
    obtain ⟨lo, hlo⟩ : ∃ lo, (gBt s.baths b).heat.lo = lo := ⟨_, rfl⟩
    obtain ⟨hi, hhi⟩ : ∃ hi, (gBt s.baths b).heat.hi = hi := ⟨_, rfl⟩
    have HV : Hid (gI h b = hv ∧ (gBt s.baths b).heat.lo = lo ∧ (gBt s.baths b).heat.hi = hi) := Lib.hid ⟨ehv, hlo, hhi⟩
    rw [ehv] at h0
    rw [hlo] at g0
    rw [hhi] at g1
    clear ehv hlo hhi
    generalize (gBt s.baths b).reads.length = rn at g2
    generalize rA b = Ar at g2
    generalize rc b = cr at g2
    have hal := ex_alloc (Below.refl W.heap.size W) (.cells #[.int .i64 lo, .int .i64 hi, .slice Ar rn cr] 116)
    have qx : Blk (W.alloc (.cells #[.int .i64 lo, .int .i64 hi, .slice Ar rn cr] 116)) W.heap.size 116 #[.int .i64 lo, .int .i64 hi, .slice Ar rn cr] := Blk.new _ _ _
    have h0' := (hal.cell (p := ⟨bh, oh + b, none⟩) lbh).trans h0
    go_wp2_with fail
    clear p0_0 p0_1 p0_2 p0_l p1_0 p1_l p2_0 p2_l p3_0 p3_l
    have hbX := ex_trans hbw hal
    have hWs := hal.size
    obtain ⟨px, hpx⟩ : ∃ px, W.heap.size = px := ⟨_, rfl⟩
    rw [hpx] at qx ⊢
    generalize W.alloc (.cells #[.int .i64 lo, .int .i64 hi, .slice Ar rn cr] 116) = X at *
    have lbh' : bh < X.heap.size := by omega
    clear p0 p1 p2 p3 h0 g0 g1 g2 hpx
    have B_X := ex_trans B_W1 hbX
    have p0 := q0.below hbX q0.lt
    have p1 := q1.below hbX q1.lt
    have p2 := q2.below hbX q2.lt
    have p3 := q3.below hbX q3.lt
    have p0_0 : X.cell? ⟨w.heap.size, 0, none⟩ = some (.slice Ao s.offs.length co) := p0.cell 0
    have p0_1 : X.cell? ⟨w.heap.size, 1, none⟩ = some (.int .i64 s.err) := p0.cell 1
    have p0_2 : X.cell? ⟨w.heap.size, 2, none⟩ = some (.slice (some ⟨bb, ob, none⟩) s.baths.length cb) := p0.cell 2
    have p0_l := p0.lt
    have p1_0 : X.cell? ⟨w.heap.size + 1, 0, none⟩ = some (.slice A1 s.offs.length c1) := p1.cell 0
    have p1_l := p1.lt
    have p2_0 : X.cell? ⟨w.heap.size + 1 + 1, 0, none⟩ = some (.slice (some ⟨bh, oh, none⟩) s.baths.length c2) := p2.cell 0
    have p2_l := p2.lt
    have p3_0 : X.cell? ⟨w.heap.size + 1 + 1 + 1, 0, none⟩ = some (.bool false) := p3.cell 0
    have p3_l := p3.lt
    have qx_0 : X.cell? ⟨px, 0, none⟩ = some (.int .i64 lo) := qx.cell 0
    have qx_1 : X.cell? ⟨px, 1, none⟩ = some (.int .i64 hi) := qx.cell 1
    have qx_l := qx.lt
    go_wp2_with fail
    refine wp_region_ext (by kernel_rfl) (by kernel_rfl) ?_
    repeat (any_goals (first | go_big_quiet_step ((go_at_call 101; exact Calls.ext_of (has_any _ _ _ _)))))
    refine wpQuiet_nil ?_; intro _ hw'; obtain ⟨E2, rfl⟩ := hw'
    obtain ⟨X2, hX2, X_X2⟩ : ∃ X2, E2.W = X2 ∧ Below X.heap.size X X2 := ⟨_, rfl, E2.h⟩
    rw [hX2]
    clear hX2
    obtain ⟨z, hz⟩ : ∃ z, inB hv lo hi = z := ⟨_, rfl⟩
    rw [hz]
    have HZ := Lib.hid hz
    clear hz
    clear p0_0 p0_1 p0_2 p0_l p1_0 p1_l p2_0 p2_l p3_0 p3_l qx_0 qx_1 qx_l
    have B_X2 := ex_trans B_X X_X2
    have p9 := p3.below X_X2 p3.lt
    have p9_0 : X2.cell? ⟨w.heap.size + 1 + 1 + 1, 0, none⟩ = some (.bool false) := p9.cell 0
    have p9_l := p9.lt
    cases z
    · have HF : Hid (truB (TruC s o h) = false) := Lib.hid (truB_false (fun ht => inB_false HZ.out (by have := ht.2.2.2.heats b hlt; obtain ⟨a1, a2, a3⟩ := HV.out; rw [a2, a3] at this; rw [← a1]; exact this)))
      have zf := p9.frozen0
      have qr := p9.set_ 0 (.bool false)
      simp only [List.setIfInBounds_toArray, List.set_cons_zero] at qr
      have B9 := ex_set B_X2 (p := ⟨w.heap.size + 1 + 1 + 1, 0, none⟩) (by show w.heap.size ≤ w.heap.size + 1 + 1 + 1; omega) (.bool false)
      go_wp2
      show LeavesInM _ _ _ _ _ _ _ _ _
      refine leaves_marks w.heap.size _ _ trivial (fun d hd => by cases hd) (fun W' hW' => ⟨_, results_cell_one rfl _ _ (w.heap.size + 1 + 1 + 1) (.bool false) _ rfl (Blk.cell (hW'.same _ _ qr (fun x e => by cases e)) 0) rfl rfl, by rw [HF.out], hW'.below B9⟩)
    have HN : Hid (∀ j, j < b + 1 → (gBt s.baths j).heat.lo ≤ gI h j ∧ gI h j ≤ (gBt s.baths j).heat.hi) := Lib.hid (fun j hj => by
      rcases Nat.lt_succ_iff_lt_or_eq.1 hj with h4 | h4
      · exact HIN.out j h4
      · subst h4; obtain ⟨a1, a2, a3⟩ := HV.out; rw [a1, a2, a3]; exact inB_iff.1 HZ.out)
    go_wp2_with fail
    refine ⟨⟨b + 1, by omega, ex_trans hbX X_X2, HN, exFrame (by kernel_rfl)⟩, ?_⟩
    show s.baths.length - (intOf (.int .i64 ((b : Int) + 1))).toNat < s.baths.length - (intOf (.int .i64 (b : Int))).toNat
    simp [intOf]
    omega
  obtain rfl : b = s.baths.length := by omega
  have HH := HIN
  clear HIN hlt hk
  go_wp2_with fail
  refine (reads_any s Ao Ab co cb rA rc W ((hs.below B_W).up B_W.size)).mono ?_
  rintro e w5 ⟨rfl, rfl⟩
  go_wp2_with fail
  clear p0_0 p0_1 p0_2 p0_l p1_0 p1_l p2_0 p2_l p3_0 p3_l
  have hal := ex_alloc (Below.refl W.heap.size W) (.cells #[.slice Ao s.offs.length co, .int .i64 s.err, .slice Ab s.baths.length cb] 34)
  have B5 := ex_trans B_W hal
  have qb : Blk (W.alloc (.cells #[.slice Ao s.offs.length co, .int .i64 s.err, .slice Ab s.baths.length cb] 34)) W.heap.size 34 #[.slice Ao s.offs.length co, .int .i64 s.err, .slice Ab s.baths.length cb] := Blk.new _ _ _
  have s0 := p0.alloc (.cells #[.slice Ao s.offs.length co, .int .i64 s.err, .slice Ab s.baths.length cb] 34)
  have s1 := p1.alloc (.cells #[.slice Ao s.offs.length co, .int .i64 s.err, .slice Ab s.baths.length cb] 34)
  have s2 := p2.alloc (.cells #[.slice Ao s.offs.length co, .int .i64 s.err, .slice Ab s.baths.length cb] 34)
  have s3 := p3.alloc (.cells #[.slice Ao s.offs.length co, .int .i64 s.err, .slice Ab s.baths.length cb] 34)
  obtain ⟨pb, hpb⟩ : ∃ pb, W.heap.size = pb := ⟨_, rfl⟩
  rw [hpb] at qb ⊢
  generalize W.alloc (.cells #[.slice Ao s.offs.length co, .int .i64 s.err, .slice Ab s.baths.length cb] 34) = W5 at *
  clear p0 p1 p2 p3 hpb hal
  have hIown : OwnFrom W5.heap.size (fun (pre : List (PlX s)) W => W5.grownBy W none ∧ ∀ x ∈ pre, OkR s o h x.1.1 x.1.2) := by
    rintro pre A B row ⟨h1, h2⟩ hgr hr
    exact ⟨h1.andThen hgr (fun j hj => .inl (hr j hj).1), h2⟩
  have ls3 := s3.lt
  have hXown : ∀ c : Code, OwnFrom W5.heap.size (fun (pre : List (PlX s)) W => c = .ret ∧ W5.grownBy W (some (w.heap.size + 1 + 1 + 1)) ∧ Blk W (w.heap.size + 1 + 1 + 1) 4 #[.bool false] ∧ ∃ x, x ∈ placeL s ∧ ¬ OkR s o h x.1 x.2) := by
    rintro c pre A B row ⟨h1, h2, h3, h4⟩ hgr hr
    exact ⟨h1, h2.andThen hgr (fun j hj => .inl (hr j hj).1), h3.grown hgr (fun e => by have := (hr _ e.symm).1; omega), h4⟩
  refine (wpIn_wide (n := 5)).1 (wpIn_rangeFunc_ownH (F := Fence.wide) (n := 5) rfl (by omega) (gf := 121) (lb := #[.pointer (some ⟨pb, 0, none⟩)]) rfl trivial (enters_of Try.func121 (by kernel_rfl) rfl)
    (encs := fun x : PlX s => encP s x.1) (Kp := KeepsLow w.heap.size) (S := fun xs => xs.map (·.1) = placeL s) (Sp := fun _ => True) (N := (placeL s).length) (w0 := W5)
    (fun l J Jx W hW hJ hJx hY h0 => (reads1_in 4 s Ao Ab co cb rA rc hbl hrl l _ J Jx W w.heap.size (by have := hW.size; have := B5.size; omega) (hs.below (ex_trans B5 hW)) hJ hJx (qb.below hW qb.lt) hY h0).mono
      (fun e W' hp => ⟨hp.1, hp.2.imp id (fun ⟨pre, hpre⟩ => ⟨pre, trivial, hpre⟩)⟩))
    (fun h k => h.trans k) (fun W l o o' hl ho _ _ => ⟨by simp, fun k hk => World.putObj_heap_other (by have := B5.size; omega)⟩) (Below.refl _ _) (fun _ => rfl)
    (fun (pre : List (PlX s)) W => W5.grownBy W none ∧ ∀ x ∈ pre, OkR s o h x.1.1 x.1.2)
    (fun c _ W => c = .ret ∧ W5.grownBy W (some (w.heap.size + 1 + 1 + 1)) ∧ Blk W (w.heap.size + 1 + 1 + 1) 4 #[.bool false] ∧ ∃ x, x ∈ placeL s ∧ ¬ OkR s o h x.1 x.2) hIown hXown ⟨World.grownBy.refl W5 _, fun x hx => nomatch hx⟩
    (fun (x : PlX s) a' W => ∃ (Bx : Nat), W5.heap.size ≤ Bx ∧ Blk W Bx 137 #[.int .i64 (x.1.1 : Int), .int .i64 (x.1.2 : Int)] ∧ Blk W (Bx + 1) 118 #[.int .i64 (rdAt s x.1).inst, .int .i64 (rdAt s x.1).val] ∧ ∃ u : Nat → Value, a' = ⟨List.toArray (u 0 :: u 1 :: u 2 :: .pointer (some ⟨w.heap.size, 0, none⟩) :: .pointer (some ⟨w.heap.size + 1, 0, none⟩) :: .pointer (some ⟨w.heap.size + 1 + 1, 0, none⟩) :: .pointer (some ⟨w.heap.size + 1 + 1 + 1, 0, none⟩) :: u 7 :: u 8 :: u 9 :: u 10 :: .pointer (some ⟨Bx, 0, none⟩) :: .pointer (some ⟨Bx + 1, 0, none⟩) :: u 13 :: u 14 :: u 15 :: u 16 :: u 17 :: u 18 :: u 19 :: u 20 :: u 21 :: u 22 :: u 23 :: u 24 :: u 25 :: u 26 :: u 27 :: u 28 :: u 29 :: u 30 :: u 31 :: u 32 :: u 33 :: u 34 :: u 35 :: u 36 :: u 37 :: u 38 :: u 39 :: u 40 :: u 41 :: u 42 :: u 43 :: u 44 :: u 45 :: u 46 :: u 47 :: u 48 :: u 49 :: u 50 :: u 51 :: u 52 :: u 53 :: u 54 :: u 55 :: u 56 :: u 57 :: u 58 :: u 59 :: u 60 :: u 61 :: u 62 :: u 63 :: u 64 :: u 65 :: u 66 :: u 67 :: u 68 :: u 69 :: u 70 :: u 71 :: u 72 :: u 73 :: u 74 :: u 75 :: u 76 :: u 77 :: u 78 :: u 79 :: u 80 :: u 81 :: u 82 :: u 83 :: u 84 :: u 85 :: u 86 :: u 87 :: u 88 :: u 89 :: []), []⟩)
    ?hAx ?assign ?body ?done ?stop)
  case hAx =>
    rintro x a' _ A C row ⟨Bx, h1, h2, h3, h4⟩ hgr hr
    exact ⟨Bx, h1, h2.grown hgr (fun e => by obtain ⟨_, o, ho, hc⟩ := hr _ e.symm; rw [h2] at ho; cases ho; cases hc), h3.grown hgr (fun e => by obtain ⟨_, o, ho, hc⟩ := hr _ e.symm; rw [h3] at ho; cases ho; cases hc), h4⟩
  case assign =>
    rintro l pre x W K hi hK
    unfold encP
    gi_wp2
    have hks : w.heap.size ≤ W.heap.size := by have := hi.1.size; have := B5.size; omega
    exact hK _ _ (((KeepsOthers.alloc W _).from _).trans ((KeepsOthers.alloc _ _).from _)) ((KeepsLow.alloc W _ hks).trans (KeepsLow.alloc _ _ (by simp; omega))) (hIown.alloc _ (hIown.alloc _ hi)) ⟨W.heap.size, hi.1.size, (Blk.new W _ _).alloc _, Blk.new' _ _ _ (by simp), exFrame (by kernel_rfl)⟩
  case done =>
    rintro D xs W hD hxs ⟨hgr, hno⟩ hDd
    have HF : Hid (truB (TruC s o h) = true) := Lib.hid (truB_iff.2 ⟨HC.out, HE1.out, HE2.out, Tru.of_reads HO.out HH.out (fun b hb i hi => by
      have hm : (b, i) ∈ placeL s := mem_placeL.2 ⟨hb, hi⟩
      rw [← hxs] at hm
      obtain ⟨y, hy, hyb⟩ := List.mem_map.1 hm
      have := hno y hy
      rw [hyb] at this
      exact this)⟩)
    have hbW : Below W5.heap.size W5 W := ⟨hgr.os, hgr.tape, hgr.output, hgr.size, fun k hk => hgr.block k hk (by simp)⟩
    have BW := ex_trans B5 hbW
    have g3 := s3.grown hgr (by simp)
    have g3c : W.cell? ⟨w.heap.size + 1 + 1 + 1, 0, none⟩ = some (.bool false) := g3.cell 0
    have g3l := g3.lt
    have hDn : D ≠ w.heap.size + 1 + 1 + 1 := by omega
    have zf := g3.frozen0
    have qr := g3.set_ 0 (.bool true)
    simp only [List.setIfInBounds_toArray, List.set_cons_zero] at qr
    have B9 := ex_set BW (p := ⟨w.heap.size + 1 + 1 + 1, 0, none⟩) (by show w.heap.size ≤ w.heap.size + 1 + 1 + 1; omega) (.bool true)
    have hDe : (W.setCell ⟨w.heap.size + 1 + 1 + 1, 0, none⟩ (.bool true)).heap[D]? = some (.deferred (some [])) := (Below.heap_setCell _ _ _ D hDn).trans hDd
    go_wp2
    show LeavesInM _ _ _ _ _ _ _ _ _
    refine leaves_marks w.heap.size _ _ ⟨D, rfl, hDe, by simp, trivial⟩ (fun d hd D' hD' => ?_) (fun W' hW' => ⟨_, results_cell_one rfl _ _ (w.heap.size + 1 + 1 + 1) (.bool true) _ rfl (Blk.cell (hW'.same _ _ qr (fun x e => by cases e)) 0) rfl rfl, by rw [HF.out], hW'.below B9⟩)
    rcases List.mem_singleton.1 hd with rfl
    injection hD' with hD'
    have := B5.size
    omega
  case stop =>
    rintro D c pre W hD _ ⟨rfl, hgr, hq, x, hx, hno⟩ hDd
    have HF : Hid (truB (TruC s o h) = false) := Lib.hid (truB_false (fun ht => hno (by
      obtain ⟨h1, h2⟩ := mem_placeL.1 hx
      exact ht.2.2.2.read (fun _ => rfl) h1 h2)))
    have B9 : Below w.heap.size w W := B5.grown hgr B5.size (fun j hj => by cases hj; omega)
    gi_wp2
    show LeavesInM _ _ _ _ _ _ _ _ _
    refine leaves_marks w.heap.size _ _ ⟨D, rfl, hDd, by simp, trivial⟩ (fun d hd D' hD' => ?_) (fun W' hW' => ⟨_, results_cell_one rfl _ _ (w.heap.size + 1 + 1 + 1) (.bool false) _ rfl (Blk.cell (hW'.same _ _ hq (fun x e => by cases e)) 0) rfl rfl, by rw [HF.out], hW'.below B9⟩)
    rcases List.mem_singleton.1 hd with rfl
    injection hD' with hD'
    have := B5.size
    omega
  case body =>
    rintro l' pre x a' W hl' ⟨r', hr'⟩ ⟨hgr, hno⟩ ⟨Bx, hBx, bX, bR, u3, rfl⟩ hlen
    clear hr' hIown hXown
    obtain ⟨⟨b, i⟩, hmem⟩ := x
    obtain ⟨hb, hi⟩ := mem_placeL.1 hmem
    have hbW : Below W5.heap.size W5 W := ⟨hgr.os, hgr.tape, hgr.output, hgr.size, fun k hk => hgr.block k hk (by simp)⟩
    have BW := ex_trans B5 hbW
    have hin := HOK.out.inst b hb i hi
    have hvl := HOK.out.val b hb i hi
    have hhb := HH.out b hb
    have hht := HOK.out.heats b hb
    change Blk W (Bx + 1) 118 #[.int .i64 (gRd (gBt s.baths b).reads i).inst, .int .i64 (gRd (gBt s.baths b).reads i).val] at bR
    obtain ⟨iv, hiv⟩ : ∃ v, (gRd (gBt s.baths b).reads i).inst = v := ⟨_, rfl⟩
    obtain ⟨vv, hvv⟩ : ∃ v, (gRd (gBt s.baths b).reads i).val = v := ⟨_, rfl⟩
    rw [hiv] at hin bR
    rw [hvv] at hvl bR
    obtain ⟨n, rfl⟩ : ∃ n : Nat, iv = (n : Int) := ⟨iv.toNat, by omega⟩
    have hn : n < s.offs.length := by omega
    have hob := HO.out n hn
    have hoo := HOK.out.offs n hn
    obtain ⟨bo, oo, eO, hbo, o0⟩ := IsInts.at_ (hA1.below BW) hn
    obtain ⟨bh, oh, eH, hbh, h0⟩ := IsInts.at_ (hA2.below BW) hb
    subst eO eH
    have lbo : bo < W.heap.size := by have := BW.size; omega
    have lbh : bh < W.heap.size := by have := BW.size; omega
    obtain ⟨ov, hov⟩ : ∃ v, gI o n = v := ⟨_, rfl⟩
    obtain ⟨hv, hhv⟩ : ∃ v, gI h b = v := ⟨_, rfl⟩
    rw [hov] at o0 hob
    rw [hhv] at h0 hhb
    have HX : Hid (OkR s o h b i ↔ vv - s.err ≤ hv + ov ∧ hv + ov ≤ vv + s.err) := Lib.hid (by unfold OkR; rw [hiv, hvv, Int.toNat_natCast, hov, hhv])
    have hbd : -100 ≤ ov ∧ ov ≤ 100 ∧ 0 ≤ hv ∧ hv ≤ 1000 := by omega
    clear hiv hvv hov hhv hob hoo hhb hht
    have g0 := s0.grown hgr (by simp)
    have g1 := s1.grown hgr (by simp)
    have g2 := s2.grown hgr (by simp)
    have g3 := s3.grown hgr (by simp)
    have c01 : W.cell? ⟨w.heap.size, 1, none⟩ = some (.int .i64 s.err) := g0.cell 1
    have c1 : W.cell? ⟨w.heap.size + 1, 0, none⟩ = some (.slice (some ⟨bo, oo, none⟩) s.offs.length c1) := g1.cell 0
    have c2 : W.cell? ⟨w.heap.size + 1 + 1, 0, none⟩ = some (.slice (some ⟨bh, oh, none⟩) s.baths.length c2) := g2.cell 0
    have x0 : W.cell? ⟨Bx, 0, none⟩ = some (.int .i64 (b : Int)) := bX.cell 0
    have x1 : W.cell? ⟨Bx, 1, none⟩ = some (.int .i64 (i : Int)) := bX.cell 1
    have y0 : W.cell? ⟨Bx + 1, 0, none⟩ = some (.int .i64 (n : Int)) := bR.cell 0
    have y1 : W.cell? ⟨Bx + 1, 1, none⟩ = some (.int .i64 vv) := bR.cell 1
    have l0 := g0.lt
    have l1 := g1.lt
    have l2 := g2.lt
    have l3 := g3.lt
    have lX := bX.lt
    have lR := bR.lt
    have k1 : IntKind.i64.wrap (vv - hv) = vv - hv := IntWalk.i64_in _ (by omega)
    have k2 : IntKind.i64.wrap (vv - hv - ov) = vv - hv - ov := IntWalk.i64_in _ (by omega)
    have k3 : IntKind.i64.wrap (-s.err) = -s.err := IntWalk.i64_in _ (by omega)
    gi_wp2_with fail
    refine wpIn_region_ext (by kernel_rfl) (by kernel_rfl) (by kernel_rfl) (by rintro ⟨_, _, hf⟩; exact hf) ?_
    repeat (any_goals (first | go_big_quiet_step ((go_at_call 96; exact Calls.ext_of (within_ext _ _ _ _)))))
    refine wpQuiet_nil ?_; intro _ hw'; obtain ⟨E2, rfl⟩ := hw'
    obtain ⟨X2, hX2, X_X2⟩ : ∃ X2, E2.W = X2 ∧ Below W.heap.size W X2 := ⟨_, rfl, E2.h⟩
    rw [hX2]
    clear hX2
    obtain ⟨z, hz⟩ : ∃ z, inB (vv - hv - ov) (-s.err) s.err = z := ⟨_, rfl⟩
    rw [hz]
    have HZ := Lib.hid hz
    clear hz
    have kk1 : KeepsFrom W5.heap.size W X2 := ⟨X_X2.size, fun j oo _ hj _ => (X_X2.block j (Array.getElem?_eq_some_iff.1 hj).1).trans hj⟩
    have kk2 : KeepsLow w.heap.size W X2 := KeepsLow.below X_X2 (by omega)
    have kk3 : W5.grownBy X2 none := hgr.andThen (grown_of_below X_X2) (fun j hj => by cases hj)
    clear c01 c1 c2 x0 x1 y0 y1 o0 h0
    cases z
    · have HN : Hid (¬ OkR s o h b i) := Lib.hid (fun hk => inB_false HZ.out (by have := HX.out.1 hk; omega))
      have g9 := g3.below X_X2 l3
      have g9c : X2.cell? ⟨w.heap.size + 1 + 1 + 1, 0, none⟩ = some (.bool false) := g9.cell 0
      have g9l := g9.lt
      have zf := g9.frozen0
      have hpu := grownBy_setCell' X2 (w.heap.size + 1 + 1 + 1) (.bool false)
      have qr := g9.set_ 0 (.bool false)
      simp only [List.setIfInBounds_toArray, List.set_cons_zero] at qr
      gi_wp2
      exact ⟨kk1.trans (KeepsFrom.of_grownBy hpu (fun j e => by cases e; omega)), rfl, (grown_some kk3).andThen hpu (fun j hj => .inr hj), qr, (b, i), hmem, HN.out⟩
    · have HN : Hid (OkR s o h b i) := Lib.hid (HX.out.2 (by have := inB_iff.1 HZ.out; omega))
      gi_wp2
      exact ⟨kk1, kk2, kk3, fun y hy => by
        rcases List.mem_append.1 hy with hy | hy
        · exact hno y hy
        · rw [List.mem_singleton.1 hy]; exact HN.out⟩
end Go.Proofs.Ytnplefhigbkbbaa
end
