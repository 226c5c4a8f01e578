/- The law GlassFalse (walk). · The row GlassFalse: ices that are read wrong need not be believed, and Fewest has no more. -/
import Derived.WalkKit
import Derived.ProofKit
import Derived.OpenShut
import Derived.Test.YtlgmeofpkfliaaaGj
import Derived.Test.YtlgmeofpkfliaaaGk
import Derived.Test.YtlgmeofpkfliaaaRows
import Derived.Test.YtlgmeofpkfliaaaGi
set_option linter.unusedVariables false
set_option linter.unusedSimpArgs false
set_option linter.unusedSectionVars false
section
namespace Go.Proofs.Ytlgmeofpkfliaaa
open Go.RowKit
attribute [local go_sem] Ex.cell? Ex.frozen? Gx.cell?

theorem mask_all : ∀ n : Fin 5, ∀ m : Fin 256, bits BinOp.and IntKind.i64 ((m.val : Nat) : Int) (wrap64 (wrap64 (2 ^ n.val) - 1)) = ((m.val : Nat) : Int) % 2 ^ n.val ∧ ((m.val : Nat) : Int) % 2 ^ n.val ≤ 1000 ∧ 0 ≤ ((m.val : Nat) : Int) % 2 ^ n.val := by decide +kernel
theorem mask_eq {n : Nat} {m : Int} (hn : n ≤ 4) (h0 : 0 ≤ m) (h1 : m ≤ 255) : bits BinOp.and IntKind.i64 m (wrap64 (wrap64 (2 ^ n) - 1)) = m % 2 ^ n ∧ m % 2 ^ n ≤ 1000 ∧ 0 ≤ m % 2 ^ n := by
  have := mask_all ⟨n, by omega⟩ ⟨m.toNat, by omega⟩
  simp only [Int.toNat_of_nonneg h0] at this
  exact this

theorem Ices_take (A : Option Addr) (c : Nat) (l : List Ic) (k : Nat) (w : World) (hk : k ≤ l.length) (h8 : l.length ≤ 8) (hA : SlAt w w.heap.size 3 A l.length (fC l)) :
    Calls Try.prog 22 #[.slice A k c] w fun e w' => (∃ A' c' X, Hid (X = l.take k) ∧ e = .returned (.slice A' (X : List Ic).length c') ∧ SlAt w' w'.heap.size 3 A' X.length (fC X)) ∧ Below w.heap.size w w' := by
  have e : (l.take k).length = k := by rw [List.length_take]; omega
  have := Ices_any A c (l.take k) w (by rw [e]; omega) (hA.take hk)
  rw [show Value.slice A (l.take k).length c = Value.slice A k c from by rw [e]] at this
  refine this.mono ?_
  rintro e w' ⟨⟨A', c', rfl, _, _, h3⟩, hb⟩
  exact ⟨⟨A', c', _, Lib.hid rfl, rfl, h3⟩, hb⟩

set_option maxRecDepth 100000 in
set_option maxHeartbeats 6400000 in
theorem FalseLaw_any (g : Gl) (Ab Ad Ah Aw : Option Addr) (cb cd ch cw : Nat) (h : List Rg) (ws : List Int) (w : World) (hg : GlIn w w.heap.size g Ab Ad) (hh : SlAt w w.heap.size 2 Ah h.length (fR h)) (hw : SlAt w w.heap.size 1 Aw ws.length (fU ws))
    (hwb : ∀ k, k < ws.length → 0 ≤ gI ws k ∧ gI ws k ≤ 65535) (hwl : ws.length ≤ maxLen) (m3 m4 : Int) (hm3 : 0 ≤ m3 ∧ m3 ≤ 255) (hm4 : 0 ≤ m4 ∧ m4 ≤ 255) :
    Calls Try.prog 10 #[.agg #[.int .i64 g.base, .slice Ab g.bands.length cb, .slice Ad g.depths.length cd, .int .i64 g.blo, .int .i64 g.bhi], .slice Ah h.length ch, .slice Aw ws.length cw, .int .u8 m3, .int .u8 m4] w fun e w' => e = .returned (.bool true) ∧ Below w.heap.size w w' := by
  obtain ⟨i0, hi0, hz0', hz1', hz2'⟩ := info_parts icR_info
  have HI := Lib.hid hi0
  clear hi0
  have hb1 := ex_alloc (Below.refl w.heap.size w) (.cells #[.int .i64 g.base, .slice Ab g.bands.length cb, .slice Ad g.depths.length cd, .int .i64 g.blo, .int .i64 g.bhi] 27)
  have q1 : Blk (w.alloc (.cells #[.int .i64 g.base, .slice Ab g.bands.length cb, .slice Ad g.depths.length cd, .int .i64 g.blo, .int .i64 g.bhi] 27)) w.heap.size 27 #[.int .i64 g.base, .slice Ab g.bands.length cb, .slice Ad g.depths.length cd, .int .i64 g.blo, .int .i64 g.bhi] := Blk.new _ _ _
  cases hr : readyB g h
  · have HR := Lib.hid hr
    clear hr
    go_enter Try.func10, Try.ntmps10
    go_wp2_with fail
    refine (ready_any g _ _ _ _ _ _ h _ ((hg.below hb1).up hb1.size) ((hh.below hb1).up hb1.size)).mono ?_
    rintro e w2 ⟨rfl, hb2⟩
    rw [HR.out]
    go_wp2_with fail
    refine (awake_any _).mono ?_
    rintro e w3 ⟨rfl, hb3⟩
    go_wp2
    go_ret
    exact ⟨rfl, ex_trans (ex_trans hb1 hb2) hb3⟩
  have HR := Lib.hid hr
  unfold readyB at hr
  simp only [Bool.and_eq_true, decide_eq_true_eq] at hr
  obtain ⟨hth, hlv⟩ := hr
  obtain ⟨hnb, hnd, hnh, _⟩ := thinB_iff.1 hth
  have hok := ok_of_lived hlv
  have hpos := hok.nh.1
  have HK := Lib.hid hok
  have HLV := Lib.hid hlv
  clear hth hlv hok
  go_enter Try.func10, Try.ntmps10
  go_wp2_with fail
  refine (ready_any g _ _ _ _ _ _ h _ ((hg.below hb1).up hb1.size) ((hh.below hb1).up hb1.size)).mono ?_
  rintro e w2 ⟨rfl, hb2⟩
  have hB2 := ex_trans hb1 hb2
  rw [HR.out]
  have p1 := q1.below hb2 q1.lt
  clear q1
  have a0 : w2.cell? ⟨w.heap.size, 0, none⟩ = some (.int .i64 g.base) := p1.cell 0
  have a1 : w2.cell? ⟨w.heap.size, 1, none⟩ = some (.slice Ab g.bands.length cb) := p1.cell 1
  have a2 : w2.cell? ⟨w.heap.size, 2, none⟩ = some (.slice Ad g.depths.length cd) := p1.cell 2
  have a3 : w2.cell? ⟨w.heap.size, 3, none⟩ = some (.int .i64 g.blo) := p1.cell 3
  have a4 : w2.cell? ⟨w.heap.size, 4, none⟩ = some (.int .i64 g.bhi) := p1.cell 4
  have l1 := p1.lt
  go_wp2_with fail
  refine wp_region_ext_mix 9 [(false, 0), (false, 1), (false, 2), (false, 3), (false, 5), (false, 6), (false, 7), (true, 4), (true, 8)] (by kernel_rfl) (by kernel_rfl) (by intro d _ _ _ _ h; cases d <;> exact h) ?_
  have hW0 := (Below.refl w2.heap.size w2).drew
  repeat (refine mix_quiet rfl ?_; go_big_quiet_step (fail); refine wpQuiet_nil ?_)
  refine mix_loud rfl ?_
  go_wp2_with fail
  refine (Picked_any g _ _ _ _ _ _ _ _ h ws w2.drew ((hg.below (ex_trans hB2 hW0)).up (ex_trans hB2 hW0).size) ((hh.below (ex_trans hB2 hW0)).up (ex_trans hB2 hW0).size) ((hw.below (ex_trans hB2 hW0)).up (ex_trans hB2 hW0).size) hwb hwl HK.out).mono ?_
  rintro e w3 ⟨⟨A1, A2, A3, c1, c2, c3, t1, t2, t3, rfl, ht, k1, k2, k3⟩, hb3⟩
  have hW3 := ex_trans hW0 hb3
  have hB3 := ex_trans hB2 hW3
  have HT := Lib.hid ht
  clear ht
  go_wp2_with fail
  refine ⟨inEx hW3, ?_⟩
  refine mix_loud rfl ?_
  go_wp2_with fail
  refine (Read_any g _ _ _ _ _ _ h ws m3 m4 w3 ((hg.below hB3).up hB3.size) _ _ _ _ _ _ t1 t2 t3 k1 k2 k3 ((hw.below hB3).up hB3.size) hwb hwl HK.out HT.out hm3.1 hm3.2 (by omega) (by omega)).mono ?_
  rintro e w5 ⟨⟨Ai, ci, l, rfl, hl4, hci1, hci2, hR, hi⟩, hb5⟩
  have hW5 := ex_trans hW3 hb5
  have hB5 := ex_trans hB2 hW5
  go_wp2_with fail
  refine ⟨inEx hW5, ?_⟩
  refine mix_nil rfl ?_
  replace p1 := p1.below hW5 l1
  clear a0 a1 a2 a3 a4 l1 k1 k2 k3
  go_wp2_with fail
  refine (IcesFault_any _ _ _ _ h.length l _ (by omega) hi).mono ?_
  rintro e w6 ⟨rfl, hb6⟩
  have hB6 := ex_trans hB5 hb6
  by_cases hic : icsF h.length l ≠ 0
  · have e1 : (icsF h.length l != 0) = true := by simp [hic]
    clear hic
    go_wp2_with fail
    refine (awake_any _).mono ?_
    rintro e w7 ⟨rfl, hb7⟩
    go_wp2
    go_ret
    exact ⟨rfl, ex_trans hB6 hb7⟩
  have e0 : icsF h.length l = 0 := by simpa using hic
  have HIC := Lib.hid (iced_of HLV.out e0)
  have E0 := Lib.hid e0
  rw [e0]
  clear hic e0
  have HA := Lib.hid (hR.agree HK.out HT.out)
  have HN := Lib.hid (fun o => nil_agree HK.out HT.out o)
  clear hR
  replace p1 := p1.below hb6 p1.lt
  go_wp2_with fail
  obtain ⟨hmk, hmk1, hmk2⟩ := mask_eq hl4 hm4.1 hm4.2
  rw [hmk]
  refine (Of_any l.length _ _ (by omega) hmk2 (by omega)).mono ?_
  rintro e w7 ⟨⟨v, rfl, hv⟩, hb7⟩
  obtain ⟨Ao, co, rfl, _, _⟩ := own_sl hv
  obtain ⟨no, hno⟩ : ∃ no, (ofL (m4 % 2 ^ l.length) l.length).length = no := ⟨_, rfl⟩
  rw [hno]
  have HNO : Hid (no = cnt (wrongO m4) 0 l.length) := Lib.hid (by rw [cnt_of, ← hno, ofL_mask hm4.1 (Nat.le_refl _)])
  have hnol : no ≤ 4 := by rw [← hno]; have := ofL_len (b := m4 % 2 ^ l.length) (n := l.length); omega
  clear hv hno hmk hmk1 hmk2
  have hB7 := ex_trans hB6 hb7
  have hI7 := ex_trans hb6 hb7
  replace p1 := p1.below hb7 p1.lt
  have a0 : w7.cell? ⟨w.heap.size, 0, none⟩ = some (.int .i64 g.base) := p1.cell 0
  have a1 : w7.cell? ⟨w.heap.size, 1, none⟩ = some (.slice Ab g.bands.length cb) := p1.cell 1
  have a2 : w7.cell? ⟨w.heap.size, 2, none⟩ = some (.slice Ad g.depths.length cd) := p1.cell 2
  have a3 : w7.cell? ⟨w.heap.size, 3, none⟩ = some (.int .i64 g.blo) := p1.cell 3
  have a4 : w7.cell? ⟨w.heap.size, 4, none⟩ = some (.int .i64 g.bhi) := p1.cell 4
  have l1 := p1.lt
  go_wp2_with fail
  refine (Glass_any g _ _ _ _ w7 ((hg.below hB7).up hB7.size) (by omega) (by omega)).mono ?_
  rintro e ya1 ⟨⟨Ab_ya1, Ad_ya1, cb_ya1, cd_ya1, rfl, hg_ya1⟩, hya1⟩
  have B_ya1 := ex_trans hB7 hya1
  go_wp2_with fail
  refine (History_any _ _ h ya1 (by omega) ((hh.below B_ya1).up B_ya1.size)).mono ?_
  rintro e ya2 ⟨⟨Ah_ya2, ch_ya2, rfl, _, _, hh_ya2⟩, hya2⟩
  have B_ya2 := ex_trans B_ya1 hya2
  have I_ya2 := ex_trans hI7 (ex_trans hya1 hya2)
  go_wp2_with fail
  refine (Ices_any _ _ l ya2 (by omega) ((hi.below I_ya2).up I_ya2.size)).mono ?_
  rintro e ya3 ⟨⟨Ai_ya3, ci_ya3, rfl, hc1_ya3, hc2_ya3, hi_ya3⟩, hya3⟩
  have B_ya3 := ex_trans B_ya2 hya3
  have I_ya3 := ex_trans I_ya2 hya3
  go_wp2_with fail
  refine (Fewest_v g _ _ _ _ _ _ _ _ h l _ ((hg_ya1.below (ex_trans hya2 hya3)).up (ex_trans hya2 hya3).size) ((hh_ya2.below hya3).up hya3.size) hi_ya3 HIC.out).mono ?_
  rintro e ya4 ⟨⟨Af1, cf1, fr1, rfl, HF1, sf1⟩, hya4⟩
  have B_ya := ex_trans B_ya3 hya4
  have I_ya := ex_trans I_ya3 hya4
  have X_ya := ex_trans (ex_trans (ex_trans hya1 hya2) hya3) hya4
  clear hg_ya1 hh_ya2 hi_ya3
  replace p1 := p1.below X_ya l1
  clear a0 a1 a2 a3 a4 l1
  have a0 : ya4.cell? ⟨w.heap.size, 0, none⟩ = some (.int .i64 g.base) := p1.cell 0
  have a1 : ya4.cell? ⟨w.heap.size, 1, none⟩ = some (.slice Ab g.bands.length cb) := p1.cell 1
  have a2 : ya4.cell? ⟨w.heap.size, 2, none⟩ = some (.slice Ad g.depths.length cd) := p1.cell 2
  have a3 : ya4.cell? ⟨w.heap.size, 3, none⟩ = some (.int .i64 g.blo) := p1.cell 3
  have a4 : ya4.cell? ⟨w.heap.size, 4, none⟩ = some (.int .i64 g.bhi) := p1.cell 4
  have l1 := p1.lt
  go_wp2_with fail
  refine (Glass_any g _ _ _ _ ya4 ((hg.below B_ya).up B_ya.size) (by omega) (by omega)).mono ?_
  rintro e yb1 ⟨⟨Ab_yb1, Ad_yb1, cb_yb1, cd_yb1, rfl, hg_yb1⟩, hyb1⟩
  have B_yb1 := ex_trans B_ya hyb1
  go_wp2_with fail
  refine (History_any _ _ h yb1 (by omega) ((hh.below B_yb1).up B_yb1.size)).mono ?_
  rintro e yb2 ⟨⟨Ah_yb2, ch_yb2, rfl, _, _, hh_yb2⟩, hyb2⟩
  have B_yb2 := ex_trans B_yb1 hyb2
  have I_yb2 := ex_trans I_ya (ex_trans hyb1 hyb2)
  go_wp2_with fail
  refine (Ices_any _ _ l yb2 (by omega) ((hi.below I_yb2).up I_yb2.size)).mono ?_
  rintro e yb3 ⟨⟨Ai_yb3, ci_yb3, rfl, hc1_yb3, hc2_yb3, hi_yb3⟩, hyb3⟩
  have B_yb3 := ex_trans B_yb2 hyb3
  have I_yb3 := ex_trans I_yb2 hyb3
  go_wp2_with fail
  refine (Blame_v g _ _ _ _ _ _ _ _ h l _ ((hg_yb1.below (ex_trans hyb2 hyb3)).up (ex_trans hyb2 hyb3).size) ((hh_yb2.below hyb3).up hyb3.size) hi_yb3 HIC.out).mono ?_
  rintro e yb4 ⟨⟨kb, bv, rfl, HB1⟩, hyb4⟩
  have B_yb := ex_trans B_yb3 hyb4
  have I_yb := ex_trans I_yb3 hyb4
  have X_yb := ex_trans (ex_trans (ex_trans hyb1 hyb2) hyb3) hyb4
  clear hg_yb1 hh_yb2 hi_yb3
  replace p1 := p1.below X_yb l1
  clear a0 a1 a2 a3 a4 l1
  have hfl := few_len' HF1.out
  have hfo : fr1.length ≤ no := by rw [HNO.out]; exact few_le HK.out HA.out HF1.out
  have d1 : decide (no < fr1.length) = false := decide_eq_false (by omega)
  have d2 : decide ((no : Int) < (fr1.length : Int)) = false := decide_eq_false (by omega)
  have S1 : SlAt yb4 yb4.heap.size 1 Af1 fr1.length (fI fr1) := (sf1.below X_yb).up X_yb.size
  clear sf1
  go_wp2_with fail
  refine wp_loop (fun a W => ∃ (k : Nat) (v : Value), k ≤ l.length ∧ Below yb4.heap.size yb4 W ∧ W.ownsRow yb4.heap.size 62 3 v (leftL l fr1 k).length ((leftL l fr1 k).flatMap cC) ∧ ∃ u : Nat → Value, a = ⟨List.toArray (u 0 :: .slice Ah h.length ch :: u 2 :: u 3 :: u 4 :: .pointer (some ⟨w.heap.size, 0, none⟩) :: u 6 :: u 7 :: u 8 :: u 9 :: u 10 :: .slice Ai l.length ci :: u 12 :: .slice Af1 fr1.length cf1 :: u 14 :: .int .i64 kb :: .int .i64 bv :: v :: .int .i64 (k : Int) :: u 19 :: u 20 :: u 21 :: u 22 :: u 23 :: u 24 :: u 25 :: u 26 :: u 27 :: u 28 :: u 29 :: u 30 :: u 31 :: u 32 :: u 33 :: u 34 :: u 35 :: u 36 :: u 37 :: u 38 :: u 39 :: u 40 :: u 41 :: u 42 :: u 43 :: u 44 :: u 45 :: u 46 :: u 47 :: u 48 :: u 49 :: u 50 :: u 51 :: u 52 :: u 53 :: u 54 :: u 55 :: u 56 :: u 57 :: u 58 :: u 59 :: u 60 :: u 61 :: u 62 :: u 63 :: u 64 :: u 65 :: u 66 :: u 67 :: u 68 :: u 69 :: u 70 :: u 71 :: u 72 :: u 73 :: u 74 :: u 75 :: u 76 :: u 77 :: u 78 :: u 79 :: u 80 :: u 81 :: u 82 :: u 83 :: u 84 :: u 85 :: u 86 :: u 87 :: u 88 :: u 89 :: u 90 :: u 91 :: u 92 :: u 93 :: u 94 :: u 95 :: u 96 :: u 97 :: u 98 :: u 99 :: u 100 :: u 101 :: u 102 :: u 103 :: u 104 :: u 105 :: u 106 :: u 107 :: u 108 :: u 109 :: u 110 :: u 111 :: u 112 :: u 113 :: u 114 :: u 115 :: u 116 :: u 117 :: u 118 :: u 119 :: u 120 :: u 121 :: u 122 :: u 123 :: u 124 :: u 125 :: u 126 :: u 127 :: u 128 :: u 129 :: u 130 :: u 131 :: u 132 :: u 133 :: u 134 :: u 135 :: u 136 :: u 137 :: u 138 :: u 139 :: u 140 :: u 141 :: u 142 :: u 143 :: u 144 :: u 145 :: u 146 :: u 147 :: u 148 :: u 149 :: u 150 :: u 151 :: u 152 :: u 153 :: u 154 :: u 155 :: u 156 :: u 157 :: u 158 :: u 159 :: u 160 :: u 161 :: u 162 :: u 163 :: u 164 :: u 165 :: u 166 :: u 167 :: u 168 :: u 169 :: u 170 :: u 171 :: u 172 :: u 173 :: u 174 :: u 175 :: u 176 :: u 177 :: u 178 :: u 179 :: u 180 :: u 181 :: u 182 :: u 183 :: u 184 :: u 185 :: u 186 :: u 187 :: u 188 :: u 189 :: u 190 :: u 191 :: u 192 :: u 193 :: u 194 :: u 195 :: u 196 :: u 197 :: u 198 :: u 199 :: u 200 :: u 201 :: u 202 :: u 203 :: u 204 :: u 205 :: u 206 :: u 207 :: u 208 :: u 209 :: u 210 :: []), []⟩)
    (fun a _ => l.length - (intOf (a.tmps.getD 18 undef)).toNat) ⟨0, _, by omega, Below.refl _ _, ⟨rfl, .inl ⟨rfl, rfl⟩⟩, exFrame (by kernel_rfl)⟩ ?_
  rintro a wr ⟨k, v, hk, hbl, hown, u, rfl⟩
  have hwr := ex_trans B_yb hbl
  by_cases hlt : k < l.length
  · cases hH : hasB fr1 (k : Int)
    · have HHB := Lib.hid hH
      clear hH
      obtain ⟨Al, cl, rfl, _, _, _⟩ := own_C hown
      obtain ⟨LL, hLL⟩ : ∃ LL, LL = leftL l fr1 k := ⟨_, rfl⟩
      have HLL := Lib.hid hLL
      have hLk : LL.length ≤ k := by rw [hLL]; exact leftL_len
      rw [← hLL] at hown
      rw [← hLL]
      clear hLL
      go_wp2_with fail
      refine (Has_any Af1 cf1 fr1 (k : Int) _ (by omega) ((S1.below hbl).up hbl.size)).mono ?_
      rintro e wh ⟨rfl, hwh⟩
      rw [HHB.out]
      have hbl2 := ex_trans hbl hwh
      obtain ⟨bi, oi, rfl, hbi, g0, g1, g2⟩ := IsIcs.at_ (((hi.below (ex_trans hI7 (ex_trans (ex_trans X_ya X_yb) hbl2))).up (ex_trans hI7 (ex_trans (ex_trans X_ya X_yb) hbl2)).size)) hlt
      have hE := ex_alloc hbl2 (.cells #[.int .i64 (gC l k).day, .int .i64 (gC l k).zero, .int .i64 (gC l k).err] 62)
      have ho2 := own_below (own_below hown hwh) ((Below.refl _ _).alloc (Nat.le_refl _) (.cells #[.int .i64 (gC l k).day, .int .i64 (gC l k).zero, .int .i64 (gC l k).err] 62))
      go_wp2_with (at_builtin; refine wpList_append_list (f := cC) (F := fC) (sz := 3) cC_len cC_at cC_one rfl _ _ _ rfl yb4.heap.size 62 i0 _ 24 Try.underlying29 HI.out hz0' hz1' hz2' rfl (by omega) Al cl LL rfl ho2 (some ⟨wh.heap.size, 0, none⟩) 1 [gC l k] rfl (one_at (Blk.new _ _ _) (ice_row (gC l k).day (gC l k).zero (gC l k).err)) (by simp; unfold maxLen; omega) (by simp; omega) hE.size (wh.heap.size + 1) (by simp) ?_; intro X Bx kx v2 HX ox gx nx)
      have hbl3 : Below yb4.heap.size yb4 v2 := hE.grown gx hE.size (fun j hj => own_ge ho2 hj)
      have hown3 : v2.ownsRow yb4.heap.size 62 3 (.slice Bx X.length kx) (leftL l fr1 (k + 1)).length ((leftL l fr1 (k + 1)).flatMap cC) := by
        have e : X = leftL l fr1 (k + 1) := by rw [HX.out, HLL.out, leftL, HHB.out]; rfl
        rw [← e]; exact ox
      refine ⟨⟨k + 1, _, by omega, hbl3, hown3, exFrame (by kernel_rfl)⟩, ?_⟩
      show l.length - (intOf (.int .i64 ((k : Int) + 1))).toNat < l.length - (intOf (.int .i64 (k : Int))).toNat
      simp [intOf]
      omega
    · have HHB := Lib.hid hH
      clear hH
      go_wp2_with fail
      refine (Has_any Af1 cf1 fr1 (k : Int) _ (by omega) ((S1.below hbl).up hbl.size)).mono ?_
      rintro e wh ⟨rfl, hwh⟩
      rw [HHB.out]
      have hown3 : wh.ownsRow yb4.heap.size 62 3 v (leftL l fr1 (k + 1)).length ((leftL l fr1 (k + 1)).flatMap cC) := by
        have e : leftL l fr1 (k + 1) = leftL l fr1 k := by rw [leftL, HHB.out]; rfl
        rw [e]; exact own_below hown hwh
      go_wp2_with fail
      refine ⟨⟨k + 1, _, by omega, ex_trans hbl hwh, hown3, exFrame (by kernel_rfl)⟩, ?_⟩
      show l.length - (intOf (.int .i64 ((k : Int) + 1))).toNat < l.length - (intOf (.int .i64 (k : Int))).toNat
      simp [intOf]
      omega
  have hkl : k = l.length := by omega
  subst hkl
  obtain ⟨Al, cl, rfl, _, _, hsl⟩ := own_C hown
  obtain ⟨LL, hLL⟩ : ∃ LL, LL = leftL l fr1 l.length := ⟨_, rfl⟩
  rw [← hLL] at hsl
  rw [← hLL]
  have hXl : LL.length ≤ 4 := by rw [hLL]; have := leftL_len (l := l) (r := fr1) (k := l.length); omega
  have HLA := Lib.hid (show agreeB g h LL off0 = true by rw [hLL]; exact left_agree HK.out (HN.out off0) HF1.out)
  have HIL := Lib.hid (iced_of (l := LL) HLV.out (by rw [hLL]; exact left_ics E0.out))
  clear hLL hown
  have I_w := ex_trans hI7 (ex_trans (ex_trans X_ya X_yb) hbl)
  have L_w := Below.refl wr.heap.size wr
  replace p1 := p1.below hbl p1.lt
  have a0 : wr.cell? ⟨w.heap.size, 0, none⟩ = some (.int .i64 g.base) := p1.cell 0
  have a1 : wr.cell? ⟨w.heap.size, 1, none⟩ = some (.slice Ab g.bands.length cb) := p1.cell 1
  have a2 : wr.cell? ⟨w.heap.size, 2, none⟩ = some (.slice Ad g.depths.length cd) := p1.cell 2
  have a3 : wr.cell? ⟨w.heap.size, 3, none⟩ = some (.int .i64 g.blo) := p1.cell 3
  have a4 : wr.cell? ⟨w.heap.size, 4, none⟩ = some (.int .i64 g.bhi) := p1.cell 4
  have l1 := p1.lt
  go_wp2_with fail
  refine (Glass_any g _ _ _ _ wr ((hg.below hwr).up hwr.size) (by omega) (by omega)).mono ?_
  rintro e yc1 ⟨⟨Ab_yc1, Ad_yc1, cb_yc1, cd_yc1, rfl, hg_yc1⟩, hyc1⟩
  have B_yc1 := ex_trans hwr hyc1
  go_wp2_with fail
  refine (History_any _ _ h yc1 (by omega) ((hh.below B_yc1).up B_yc1.size)).mono ?_
  rintro e yc2 ⟨⟨Ah_yc2, ch_yc2, rfl, _, _, hh_yc2⟩, hyc2⟩
  have B_yc2 := ex_trans B_yc1 hyc2
  have I_yc2 := ex_trans L_w (ex_trans hyc1 hyc2)
  go_wp2_with fail
  refine (Ices_any _ _ LL yc2 (by omega) ((hsl.below I_yc2).up I_yc2.size)).mono ?_
  rintro e yc3 ⟨⟨Ai_yc3, ci_yc3, rfl, hc1_yc3, hc2_yc3, hi_yc3⟩, hyc3⟩
  have B_yc3 := ex_trans B_yc2 hyc3
  have I_yc3 := ex_trans I_yc2 hyc3
  go_wp2_with fail
  refine (Zeros_v g _ _ _ _ _ _ _ _ h LL _ ((hg_yc1.below (ex_trans hyc2 hyc3)).up (ex_trans hyc2 hyc3).size) ((hh_yc2.below hyc3).up hyc3.size) hi_yc3 HIL.out).mono ?_
  rintro e yc4 ⟨⟨Az3, n3, ev3, zs3, rfl, HZ3, sz3⟩, hyc4⟩
  have B_yc := ex_trans B_yc3 hyc4
  have I_yc := ex_trans I_yc3 hyc4
  have X_yc := ex_trans (ex_trans (ex_trans hyc1 hyc2) hyc3) hyc4
  clear hg_yc1 hh_yc2 hi_yc3
  replace p1 := p1.below X_yc l1
  clear a0 a1 a2 a3 a4 l1
  have Kyc_l := ex_trans I_w X_yc
  have hev : ev3 = 0 := by
    rcases HZ3.out with ⟨h1, _⟩ | ⟨_, h1, _⟩
    · rw [HLA.out] at h1; cases h1
    · exact h1
  subst hev
  clear HZ3 sz3
  have HBL := Lib.hid (blame_all HK.out HN.out HF1.out HB1.out)
  have S2 : SlAt yc4 yc4.heap.size 1 Af1 fr1.length (fI fr1) := (S1.below (ex_trans hbl X_yc)).up (ex_trans hbl X_yc).size
  clear HB1 S1 d1 d2
  rcases HBL.out with ⟨rfl, hr1⟩ | ⟨rfl, hr1⟩
  · have hn1 : fr1.length = 1 := by rw [hr1]; rfl
    have hgk : gI fr1 0 = kb := by rw [hr1]; rfl
    obtain ⟨bf, of_, rfl, hbf, gf0⟩ := IsInts.at_ S2 (show 0 < fr1.length by omega)
    rw [hgk] at gf0
    simp only [Nat.add_zero] at gf0
    have HN1 := Lib.hid hn1
    have x1 : (fr1.length : Int) = 1 := by omega
    clear hr1 hgk S2 HBL
    have a0 : yc4.cell? ⟨w.heap.size, 0, none⟩ = some (.int .i64 g.base) := p1.cell 0
    have a1 : yc4.cell? ⟨w.heap.size, 1, none⟩ = some (.slice Ab g.bands.length cb) := p1.cell 1
    have a2 : yc4.cell? ⟨w.heap.size, 2, none⟩ = some (.slice Ad g.depths.length cd) := p1.cell 2
    have a3 : yc4.cell? ⟨w.heap.size, 3, none⟩ = some (.int .i64 g.blo) := p1.cell 3
    have a4 : yc4.cell? ⟨w.heap.size, 4, none⟩ = some (.int .i64 g.bhi) := p1.cell 4
    have l1 := p1.lt
    go_wp2_with fail
    refine (Glass_any g _ _ _ _ yc4 ((hg.below B_yc).up B_yc.size) (by omega) (by omega)).mono ?_
    rintro e yd1 ⟨⟨Ab_yd1, Ad_yd1, cb_yd1, cd_yd1, rfl, hg_yd1⟩, hyd1⟩
    have B_yd1 := ex_trans B_yc hyd1
    go_wp2_with fail
    refine (History_any _ _ h yd1 (by omega) ((hh.below B_yd1).up B_yd1.size)).mono ?_
    rintro e yd2 ⟨⟨Ah_yd2, ch_yd2, rfl, _, _, hh_yd2⟩, hyd2⟩
    have B_yd2 := ex_trans B_yd1 hyd2
    have I_yd2 := ex_trans Kyc_l (ex_trans hyd1 hyd2)
    go_wp2_with fail
    refine (Ices_any _ _ l yd2 (by omega) ((hi.below I_yd2).up I_yd2.size)).mono ?_
    rintro e yd3 ⟨⟨Ai_yd3, ci_yd3, rfl, hc1_yd3, hc2_yd3, hi_yd3⟩, hyd3⟩
    have B_yd3 := ex_trans B_yd2 hyd3
    have I_yd3 := ex_trans I_yd2 hyd3
    go_wp2_with fail
    refine (Shows_v g _ _ _ _ _ _ _ _ h l _ ((hg_yd1.below (ex_trans hyd2 hyd3)).up (ex_trans hyd2 hyd3).size) ((hh_yd2.below hyd3).up hyd3.size) hi_yd3 hc1_yd3 hc2_yd3 HIC.out).mono ?_
    rintro e yd4 ⟨⟨ks4, sv4, rfl, HS4⟩, hyd4⟩
    have B_yd := ex_trans B_yd3 hyd4
    have I_yd := ex_trans I_yd3 hyd4
    have X_yd := ex_trans (ex_trans (ex_trans hyd1 hyd2) hyd3) hyd4
    clear hg_yd1 hh_yd2 hi_yd3
    replace p1 := p1.below X_yd l1
    clear a0 a1 a2 a3 a4 l1
    have Kyd_LL := ex_trans I_yc X_yd
    rcases HS4.out with ⟨j, rfl, j1, j2, j3, rfl⟩ | ⟨j1, rfl, rfl⟩
    · have J2 := Lib.hid j2
      have J3 := Lib.hid j3
      clear j2 j3 HS4
      have c1 : decide ((j : Int) < 0) = false := decide_eq_false (by omega)
      have c2 : decide ((l.length : Int) ≤ (j : Int)) = false := decide_eq_false (by omega)
      have c3 : decide (l.length ≤ j) = false := decide_eq_false (by omega)
      have hjc : j ≤ ci := by omega
      have hjc1 : j + 1 ≤ ci := by omega
      have w9 : IntKind.i64.wrap ((j : Int) + 1) = (j : Int) + 1 := IntWalk.i64_in _ (by omega)
      have a0 : yd4.cell? ⟨w.heap.size, 0, none⟩ = some (.int .i64 g.base) := p1.cell 0
      have a1 : yd4.cell? ⟨w.heap.size, 1, none⟩ = some (.slice Ab g.bands.length cb) := p1.cell 1
      have a2 : yd4.cell? ⟨w.heap.size, 2, none⟩ = some (.slice Ad g.depths.length cd) := p1.cell 2
      have a3 : yd4.cell? ⟨w.heap.size, 3, none⟩ = some (.int .i64 g.blo) := p1.cell 3
      have a4 : yd4.cell? ⟨w.heap.size, 4, none⟩ = some (.int .i64 g.bhi) := p1.cell 4
      have l1 := p1.lt
      go_wp2_with fail
      refine wp_region_ext_mix 13 [(false, 0), (false, 2), (false, 4), (false, 5), (false, 6), (true, 1), (true, 3), (true, 7), (true, 8), (false, 9), (false, 10), (false, 11), (false, 12)] (by kernel_rfl) (by kernel_rfl) (by intro d _ _ _ _ h; cases d <;> exact h) ?_
      have hW_ea := (Below.refl yd4.heap.size yd4).drew
      repeat (refine mix_quiet rfl ?_; go_big_quiet_step (fail); refine wpQuiet_nil ?_)
      refine mix_loud rfl ?_
      go_wp2_with fail
      refine (Glass_any g _ _ _ _ yd4.drew ((hg.below (ex_trans B_yd hW_ea)).up (ex_trans B_yd hW_ea).size) (by omega) (by omega)).mono ?_
      rintro e ea1 ⟨⟨Ab_ea, Ad_ea, cb_ea, cd_ea, rfl, hg_ea⟩, hea1⟩
      have E_ea1 := ex_trans hW_ea hea1
      go_wp2_with fail
      refine ⟨inEx E_ea1, ?_⟩
      refine mix_loud rfl ?_
      go_wp2_with fail
      refine (History_any _ _ h ea1 (by omega) ((hh.below (ex_trans B_yd E_ea1)).up (ex_trans B_yd E_ea1).size)).mono ?_
      rintro e ea2 ⟨⟨Ah_ea, ch_ea, rfl, _, _, hh_ea⟩, hea2⟩
      have E_ea2 := ex_trans E_ea1 hea2
      go_wp2_with fail
      refine ⟨inEx E_ea2, ?_⟩
      refine mix_loud rfl ?_
      go_wp2_with fail
      refine (Ices_take _ _ l (j) ea2 (by omega) (by omega) ((hi.below (ex_trans I_yd E_ea2)).up (ex_trans I_yd E_ea2).size)).mono ?_
      rintro e ea3 ⟨⟨Ai_ea, ci_ea, X1, HX1, rfl, hi_ea⟩, hea3⟩
      have E_ea3 := ex_trans E_ea2 hea3
      have HI_ea := Lib.hid (iced_of (l := X1) HLV.out (by rw [HX1.out]; exact take_ics E0.out))
      go_wp2_with fail
      refine ⟨inEx E_ea3, ?_⟩
      refine mix_loud rfl ?_
      go_wp2_with fail
      refine (Zeros_v g _ _ _ _ _ _ _ _ h X1 _ ((hg_ea.below (ex_trans hea2 hea3)).up (ex_trans hea2 hea3).size) ((hh_ea.below hea3).up hea3.size) hi_ea HI_ea.out).mono ?_
      rintro e ea4 ⟨⟨Az_ea, n_ea, ev_ea, zs_ea, rfl, HZ_ea, _⟩, hea4⟩
      have E_ea4 := ex_trans E_ea3 hea4
      have he1 : ev_ea = 0 := by
        have hag : agreeB g h X1 off0 = true := by
          rw [HX1.out]
          rcases Nat.eq_zero_or_pos j with h0 | h0
          · rw [h0, List.take_zero]; exact HN.out off0
          · have := J2.out (j - 1) (by omega)
            rwa [Nat.sub_add_cancel h0] at this
        rcases HZ_ea.out with ⟨h1, _⟩ | ⟨_, h1, _⟩
        · rw [hag] at h1; cases h1
        · exact h1
      subst he1
      clear HZ_ea
      go_wp2_with fail
      refine ⟨inEx E_ea4, ?_⟩
      repeat (refine mix_quiet rfl ?_; go_big_quiet_step (fail); refine wpQuiet_nil ?_)
      refine mix_nil rfl ?_
      have B_ea := ex_trans B_yd E_ea4
      have I_ea := ex_trans I_yd E_ea4
      replace p1 := p1.below E_ea4 p1.lt
      clear a0 a1 a2 a3 a4 l1 hg_ea hh_ea hi_ea
      have a0 : ea4.cell? ⟨w.heap.size, 0, none⟩ = some (.int .i64 g.base) := p1.cell 0
      have a1 : ea4.cell? ⟨w.heap.size, 1, none⟩ = some (.slice Ab g.bands.length cb) := p1.cell 1
      have a2 : ea4.cell? ⟨w.heap.size, 2, none⟩ = some (.slice Ad g.depths.length cd) := p1.cell 2
      have a3 : ea4.cell? ⟨w.heap.size, 3, none⟩ = some (.int .i64 g.blo) := p1.cell 3
      have a4 : ea4.cell? ⟨w.heap.size, 4, none⟩ = some (.int .i64 g.bhi) := p1.cell 4
      have l1 := p1.lt
      go_wp2_with fail
      refine wp_region_ext_mix 14 [(false, 0), (false, 2), (false, 4), (false, 5), (false, 6), (false, 7), (true, 1), (true, 3), (true, 8), (true, 9), (false, 10), (false, 11), (false, 12), (false, 13)] (by kernel_rfl) (by kernel_rfl) (by intro d _ _ _ _ h; cases d <;> exact h) ?_
      have hW_eb := (Below.refl ea4.heap.size ea4).drew
      repeat (refine mix_quiet rfl ?_; go_big_quiet_step (fail); refine wpQuiet_nil ?_)
      refine mix_loud rfl ?_
      go_wp2_with fail
      refine (Glass_any g _ _ _ _ ea4.drew ((hg.below (ex_trans B_ea hW_eb)).up (ex_trans B_ea hW_eb).size) (by omega) (by omega)).mono ?_
      rintro e eb1 ⟨⟨Ab_eb, Ad_eb, cb_eb, cd_eb, rfl, hg_eb⟩, heb1⟩
      have E_eb1 := ex_trans hW_eb heb1
      go_wp2_with fail
      refine ⟨inEx E_eb1, ?_⟩
      refine mix_loud rfl ?_
      go_wp2_with fail
      refine (History_any _ _ h eb1 (by omega) ((hh.below (ex_trans B_ea E_eb1)).up (ex_trans B_ea E_eb1).size)).mono ?_
      rintro e eb2 ⟨⟨Ah_eb, ch_eb, rfl, _, _, hh_eb⟩, heb2⟩
      have E_eb2 := ex_trans E_eb1 heb2
      go_wp2_with fail
      refine ⟨inEx E_eb2, ?_⟩
      refine mix_loud rfl ?_
      go_wp2_with fail
      refine (Ices_take _ _ l (j + 1) eb2 (by omega) (by omega) ((hi.below (ex_trans I_ea E_eb2)).up (ex_trans I_ea E_eb2).size)).mono ?_
      rintro e eb3 ⟨⟨Ai_eb, ci_eb, X2, HX2, rfl, hi_eb⟩, heb3⟩
      have E_eb3 := ex_trans E_eb2 heb3
      have HI_eb := Lib.hid (iced_of (l := X2) HLV.out (by rw [HX2.out]; exact take_ics E0.out))
      go_wp2_with fail
      refine ⟨inEx E_eb3, ?_⟩
      refine mix_loud rfl ?_
      go_wp2_with fail
      refine (Zeros_v g _ _ _ _ _ _ _ _ h X2 _ ((hg_eb.below (ex_trans heb2 heb3)).up (ex_trans heb2 heb3).size) ((hh_eb.below heb3).up heb3.size) hi_eb HI_eb.out).mono ?_
      rintro e eb4 ⟨⟨Az_eb, n_eb, ev_eb, zs_eb, rfl, HZ_eb, _⟩, heb4⟩
      have E_eb4 := ex_trans E_eb3 heb4
      have he2 : ev_eb = 9 := by
        have hag : agreeB g h X2 off0 = false := by rw [HX2.out]; exact J3.out
        rcases HZ_eb.out with ⟨_, h1, _⟩ | ⟨h1, _⟩
        · exact h1
        · rw [hag] at h1; cases h1
      subst he2
      clear HZ_eb
      go_wp2_with fail
      refine ⟨inEx E_eb4, ?_⟩
      repeat (refine mix_quiet rfl ?_; go_big_quiet_step (fail); refine wpQuiet_nil ?_)
      refine mix_nil rfl ?_
      have B_eb := ex_trans B_ea E_eb4
      have I_eb := ex_trans I_ea E_eb4
      replace p1 := p1.below E_eb4 p1.lt
      clear a0 a1 a2 a3 a4 l1 hg_eb hh_eb hi_eb
      go_wp2_with fail
      refine (awake_any _).mono ?_
      rintro e x1 ⟨rfl, hx1⟩
      go_wp2
      go_ret
      exact ⟨rfl, ex_trans B_eb hx1⟩
    · have h0 : fr1.length = 0 := by rw [few_none ((shows_none HK.out (HN.out off0)).1 j1) HF1.out]; rfl
      exact absurd HN1.out (by omega)
  · by_cases hn1 : fr1.length = 1
    · have HN1 := Lib.hid hn1
      have x1 : (fr1.length : Int) = 1 := by omega
      have x2 : (l.length == 1) = false := by rw [beq_eq_false_iff_ne]; omega
      have x3 : ((l.length : Int) == 1) = false := by rw [beq_eq_false_iff_ne]; omega
      clear hr1 S2 HBL
      have a0 : yc4.cell? ⟨w.heap.size, 0, none⟩ = some (.int .i64 g.base) := p1.cell 0
      have a1 : yc4.cell? ⟨w.heap.size, 1, none⟩ = some (.slice Ab g.bands.length cb) := p1.cell 1
      have a2 : yc4.cell? ⟨w.heap.size, 2, none⟩ = some (.slice Ad g.depths.length cd) := p1.cell 2
      have a3 : yc4.cell? ⟨w.heap.size, 3, none⟩ = some (.int .i64 g.blo) := p1.cell 3
      have a4 : yc4.cell? ⟨w.heap.size, 4, none⟩ = some (.int .i64 g.bhi) := p1.cell 4
      have l1 := p1.lt
      go_wp2_with fail
      refine (Glass_any g _ _ _ _ yc4 ((hg.below B_yc).up B_yc.size) (by omega) (by omega)).mono ?_
      rintro e yd1 ⟨⟨Ab_yd1, Ad_yd1, cb_yd1, cd_yd1, rfl, hg_yd1⟩, hyd1⟩
      have B_yd1 := ex_trans B_yc hyd1
      go_wp2_with fail
      refine (History_any _ _ h yd1 (by omega) ((hh.below B_yd1).up B_yd1.size)).mono ?_
      rintro e yd2 ⟨⟨Ah_yd2, ch_yd2, rfl, _, _, hh_yd2⟩, hyd2⟩
      have B_yd2 := ex_trans B_yd1 hyd2
      have I_yd2 := ex_trans Kyc_l (ex_trans hyd1 hyd2)
      go_wp2_with fail
      refine (Ices_any _ _ l yd2 (by omega) ((hi.below I_yd2).up I_yd2.size)).mono ?_
      rintro e yd3 ⟨⟨Ai_yd3, ci_yd3, rfl, hc1_yd3, hc2_yd3, hi_yd3⟩, hyd3⟩
      have B_yd3 := ex_trans B_yd2 hyd3
      have I_yd3 := ex_trans I_yd2 hyd3
      go_wp2_with fail
      refine (Shows_v g _ _ _ _ _ _ _ _ h l _ ((hg_yd1.below (ex_trans hyd2 hyd3)).up (ex_trans hyd2 hyd3).size) ((hh_yd2.below hyd3).up hyd3.size) hi_yd3 hc1_yd3 hc2_yd3 HIC.out).mono ?_
      rintro e yd4 ⟨⟨ks4, sv4, rfl, HS4⟩, hyd4⟩
      have B_yd := ex_trans B_yd3 hyd4
      have I_yd := ex_trans I_yd3 hyd4
      have X_yd := ex_trans (ex_trans (ex_trans hyd1 hyd2) hyd3) hyd4
      clear hg_yd1 hh_yd2 hi_yd3
      replace p1 := p1.below X_yd l1
      clear a0 a1 a2 a3 a4 l1
      have Kyd_LL := ex_trans I_yc X_yd
      rcases HS4.out with ⟨j, rfl, j1, j2, j3, rfl⟩ | ⟨j1, rfl, rfl⟩
      · have J2 := Lib.hid j2
        have J3 := Lib.hid j3
        clear j2 j3 HS4
        have c1 : decide ((j : Int) < 0) = false := decide_eq_false (by omega)
        have c2 : decide ((l.length : Int) ≤ (j : Int)) = false := decide_eq_false (by omega)
        have c3 : decide (l.length ≤ j) = false := decide_eq_false (by omega)
        have hjc : j ≤ ci := by omega
        have hjc1 : j + 1 ≤ ci := by omega
        have w9 : IntKind.i64.wrap ((j : Int) + 1) = (j : Int) + 1 := IntWalk.i64_in _ (by omega)
        have a0 : yd4.cell? ⟨w.heap.size, 0, none⟩ = some (.int .i64 g.base) := p1.cell 0
        have a1 : yd4.cell? ⟨w.heap.size, 1, none⟩ = some (.slice Ab g.bands.length cb) := p1.cell 1
        have a2 : yd4.cell? ⟨w.heap.size, 2, none⟩ = some (.slice Ad g.depths.length cd) := p1.cell 2
        have a3 : yd4.cell? ⟨w.heap.size, 3, none⟩ = some (.int .i64 g.blo) := p1.cell 3
        have a4 : yd4.cell? ⟨w.heap.size, 4, none⟩ = some (.int .i64 g.bhi) := p1.cell 4
        have l1 := p1.lt
        go_wp2_with fail
        refine wp_region_ext_mix 13 [(false, 0), (false, 2), (false, 4), (false, 5), (false, 6), (true, 1), (true, 3), (true, 7), (true, 8), (false, 9), (false, 10), (false, 11), (false, 12)] (by kernel_rfl) (by kernel_rfl) (by intro d _ _ _ _ h; cases d <;> exact h) ?_
        have hW_ea := (Below.refl yd4.heap.size yd4).drew
        repeat (refine mix_quiet rfl ?_; go_big_quiet_step (fail); refine wpQuiet_nil ?_)
        refine mix_loud rfl ?_
        go_wp2_with fail
        refine (Glass_any g _ _ _ _ yd4.drew ((hg.below (ex_trans B_yd hW_ea)).up (ex_trans B_yd hW_ea).size) (by omega) (by omega)).mono ?_
        rintro e ea1 ⟨⟨Ab_ea, Ad_ea, cb_ea, cd_ea, rfl, hg_ea⟩, hea1⟩
        have E_ea1 := ex_trans hW_ea hea1
        go_wp2_with fail
        refine ⟨inEx E_ea1, ?_⟩
        refine mix_loud rfl ?_
        go_wp2_with fail
        refine (History_any _ _ h ea1 (by omega) ((hh.below (ex_trans B_yd E_ea1)).up (ex_trans B_yd E_ea1).size)).mono ?_
        rintro e ea2 ⟨⟨Ah_ea, ch_ea, rfl, _, _, hh_ea⟩, hea2⟩
        have E_ea2 := ex_trans E_ea1 hea2
        go_wp2_with fail
        refine ⟨inEx E_ea2, ?_⟩
        refine mix_loud rfl ?_
        go_wp2_with fail
        refine (Ices_take _ _ l (j) ea2 (by omega) (by omega) ((hi.below (ex_trans I_yd E_ea2)).up (ex_trans I_yd E_ea2).size)).mono ?_
        rintro e ea3 ⟨⟨Ai_ea, ci_ea, X1, HX1, rfl, hi_ea⟩, hea3⟩
        have E_ea3 := ex_trans E_ea2 hea3
        have HI_ea := Lib.hid (iced_of (l := X1) HLV.out (by rw [HX1.out]; exact take_ics E0.out))
        go_wp2_with fail
        refine ⟨inEx E_ea3, ?_⟩
        refine mix_loud rfl ?_
        go_wp2_with fail
        refine (Zeros_v g _ _ _ _ _ _ _ _ h X1 _ ((hg_ea.below (ex_trans hea2 hea3)).up (ex_trans hea2 hea3).size) ((hh_ea.below hea3).up hea3.size) hi_ea HI_ea.out).mono ?_
        rintro e ea4 ⟨⟨Az_ea, n_ea, ev_ea, zs_ea, rfl, HZ_ea, _⟩, hea4⟩
        have E_ea4 := ex_trans E_ea3 hea4
        have he1 : ev_ea = 0 := by
          have hag : agreeB g h X1 off0 = true := by
            rw [HX1.out]
            rcases Nat.eq_zero_or_pos j with h0 | h0
            · rw [h0, List.take_zero]; exact HN.out off0
            · have := J2.out (j - 1) (by omega)
              rwa [Nat.sub_add_cancel h0] at this
          rcases HZ_ea.out with ⟨h1, _⟩ | ⟨_, h1, _⟩
          · rw [hag] at h1; cases h1
          · exact h1
        subst he1
        clear HZ_ea
        go_wp2_with fail
        refine ⟨inEx E_ea4, ?_⟩
        repeat (refine mix_quiet rfl ?_; go_big_quiet_step (fail); refine wpQuiet_nil ?_)
        refine mix_nil rfl ?_
        have B_ea := ex_trans B_yd E_ea4
        have I_ea := ex_trans I_yd E_ea4
        replace p1 := p1.below E_ea4 p1.lt
        clear a0 a1 a2 a3 a4 l1 hg_ea hh_ea hi_ea
        have a0 : ea4.cell? ⟨w.heap.size, 0, none⟩ = some (.int .i64 g.base) := p1.cell 0
        have a1 : ea4.cell? ⟨w.heap.size, 1, none⟩ = some (.slice Ab g.bands.length cb) := p1.cell 1
        have a2 : ea4.cell? ⟨w.heap.size, 2, none⟩ = some (.slice Ad g.depths.length cd) := p1.cell 2
        have a3 : ea4.cell? ⟨w.heap.size, 3, none⟩ = some (.int .i64 g.blo) := p1.cell 3
        have a4 : ea4.cell? ⟨w.heap.size, 4, none⟩ = some (.int .i64 g.bhi) := p1.cell 4
        have l1 := p1.lt
        go_wp2_with fail
        refine wp_region_ext_mix 14 [(false, 0), (false, 2), (false, 4), (false, 5), (false, 6), (false, 7), (true, 1), (true, 3), (true, 8), (true, 9), (false, 10), (false, 11), (false, 12), (false, 13)] (by kernel_rfl) (by kernel_rfl) (by intro d _ _ _ _ h; cases d <;> exact h) ?_
        have hW_eb := (Below.refl ea4.heap.size ea4).drew
        repeat (refine mix_quiet rfl ?_; go_big_quiet_step (fail); refine wpQuiet_nil ?_)
        refine mix_loud rfl ?_
        go_wp2_with fail
        refine (Glass_any g _ _ _ _ ea4.drew ((hg.below (ex_trans B_ea hW_eb)).up (ex_trans B_ea hW_eb).size) (by omega) (by omega)).mono ?_
        rintro e eb1 ⟨⟨Ab_eb, Ad_eb, cb_eb, cd_eb, rfl, hg_eb⟩, heb1⟩
        have E_eb1 := ex_trans hW_eb heb1
        go_wp2_with fail
        refine ⟨inEx E_eb1, ?_⟩
        refine mix_loud rfl ?_
        go_wp2_with fail
        refine (History_any _ _ h eb1 (by omega) ((hh.below (ex_trans B_ea E_eb1)).up (ex_trans B_ea E_eb1).size)).mono ?_
        rintro e eb2 ⟨⟨Ah_eb, ch_eb, rfl, _, _, hh_eb⟩, heb2⟩
        have E_eb2 := ex_trans E_eb1 heb2
        go_wp2_with fail
        refine ⟨inEx E_eb2, ?_⟩
        refine mix_loud rfl ?_
        go_wp2_with fail
        refine (Ices_take _ _ l (j + 1) eb2 (by omega) (by omega) ((hi.below (ex_trans I_ea E_eb2)).up (ex_trans I_ea E_eb2).size)).mono ?_
        rintro e eb3 ⟨⟨Ai_eb, ci_eb, X2, HX2, rfl, hi_eb⟩, heb3⟩
        have E_eb3 := ex_trans E_eb2 heb3
        have HI_eb := Lib.hid (iced_of (l := X2) HLV.out (by rw [HX2.out]; exact take_ics E0.out))
        go_wp2_with fail
        refine ⟨inEx E_eb3, ?_⟩
        refine mix_loud rfl ?_
        go_wp2_with fail
        refine (Zeros_v g _ _ _ _ _ _ _ _ h X2 _ ((hg_eb.below (ex_trans heb2 heb3)).up (ex_trans heb2 heb3).size) ((hh_eb.below heb3).up heb3.size) hi_eb HI_eb.out).mono ?_
        rintro e eb4 ⟨⟨Az_eb, n_eb, ev_eb, zs_eb, rfl, HZ_eb, _⟩, heb4⟩
        have E_eb4 := ex_trans E_eb3 heb4
        have he2 : ev_eb = 9 := by
          have hag : agreeB g h X2 off0 = false := by rw [HX2.out]; exact J3.out
          rcases HZ_eb.out with ⟨_, h1, _⟩ | ⟨h1, _⟩
          · exact h1
          · rw [hag] at h1; cases h1
        subst he2
        clear HZ_eb
        go_wp2_with fail
        refine ⟨inEx E_eb4, ?_⟩
        repeat (refine mix_quiet rfl ?_; go_big_quiet_step (fail); refine wpQuiet_nil ?_)
        refine mix_nil rfl ?_
        have B_eb := ex_trans B_ea E_eb4
        have I_eb := ex_trans I_ea E_eb4
        replace p1 := p1.below E_eb4 p1.lt
        clear a0 a1 a2 a3 a4 l1 hg_eb hh_eb hi_eb
        go_wp2_with fail
        refine (awake_any _).mono ?_
        rintro e x1 ⟨rfl, hx1⟩
        go_wp2
        go_ret
        exact ⟨rfl, ex_trans B_eb hx1⟩
      · have h0 : fr1.length = 0 := by rw [few_none ((shows_none HK.out (HN.out off0)).1 j1) HF1.out]; rfl
        exact absurd HN1.out (by omega)
    · have x2 : (fr1.length == 1) = false := by rw [beq_eq_false_iff_ne]; omega
      have x3 : ((fr1.length : Int) == 1) = false := by rw [beq_eq_false_iff_ne]; omega
      clear hr1 S2 HBL hn1
      have a0 : yc4.cell? ⟨w.heap.size, 0, none⟩ = some (.int .i64 g.base) := p1.cell 0
      have a1 : yc4.cell? ⟨w.heap.size, 1, none⟩ = some (.slice Ab g.bands.length cb) := p1.cell 1
      have a2 : yc4.cell? ⟨w.heap.size, 2, none⟩ = some (.slice Ad g.depths.length cd) := p1.cell 2
      have a3 : yc4.cell? ⟨w.heap.size, 3, none⟩ = some (.int .i64 g.blo) := p1.cell 3
      have a4 : yc4.cell? ⟨w.heap.size, 4, none⟩ = some (.int .i64 g.bhi) := p1.cell 4
      have l1 := p1.lt
      go_wp2_with fail
      refine (Glass_any g _ _ _ _ yc4 ((hg.below B_yc).up B_yc.size) (by omega) (by omega)).mono ?_
      rintro e yd1 ⟨⟨Ab_yd1, Ad_yd1, cb_yd1, cd_yd1, rfl, hg_yd1⟩, hyd1⟩
      have B_yd1 := ex_trans B_yc hyd1
      go_wp2_with fail
      refine (History_any _ _ h yd1 (by omega) ((hh.below B_yd1).up B_yd1.size)).mono ?_
      rintro e yd2 ⟨⟨Ah_yd2, ch_yd2, rfl, _, _, hh_yd2⟩, hyd2⟩
      have B_yd2 := ex_trans B_yd1 hyd2
      have I_yd2 := ex_trans Kyc_l (ex_trans hyd1 hyd2)
      go_wp2_with fail
      refine (Ices_any _ _ l yd2 (by omega) ((hi.below I_yd2).up I_yd2.size)).mono ?_
      rintro e yd3 ⟨⟨Ai_yd3, ci_yd3, rfl, hc1_yd3, hc2_yd3, hi_yd3⟩, hyd3⟩
      have B_yd3 := ex_trans B_yd2 hyd3
      have I_yd3 := ex_trans I_yd2 hyd3
      go_wp2_with fail
      refine (Shows_v g _ _ _ _ _ _ _ _ h l _ ((hg_yd1.below (ex_trans hyd2 hyd3)).up (ex_trans hyd2 hyd3).size) ((hh_yd2.below hyd3).up hyd3.size) hi_yd3 hc1_yd3 hc2_yd3 HIC.out).mono ?_
      rintro e yd4 ⟨⟨ks4, sv4, rfl, HS4⟩, hyd4⟩
      have B_yd := ex_trans B_yd3 hyd4
      have I_yd := ex_trans I_yd3 hyd4
      have X_yd := ex_trans (ex_trans (ex_trans hyd1 hyd2) hyd3) hyd4
      clear hg_yd1 hh_yd2 hi_yd3
      replace p1 := p1.below X_yd l1
      clear a0 a1 a2 a3 a4 l1
      have Kyd_LL := ex_trans I_yc X_yd
      rcases HS4.out with ⟨j, rfl, j1, j2, j3, rfl⟩ | ⟨j1, rfl, rfl⟩
      · have J2 := Lib.hid j2
        have J3 := Lib.hid j3
        clear j2 j3 HS4
        have c1 : decide ((j : Int) < 0) = false := decide_eq_false (by omega)
        have c2 : decide ((l.length : Int) ≤ (j : Int)) = false := decide_eq_false (by omega)
        have c3 : decide (l.length ≤ j) = false := decide_eq_false (by omega)
        have hjc : j ≤ ci := by omega
        have hjc1 : j + 1 ≤ ci := by omega
        have w9 : IntKind.i64.wrap ((j : Int) + 1) = (j : Int) + 1 := IntWalk.i64_in _ (by omega)
        have a0 : yd4.cell? ⟨w.heap.size, 0, none⟩ = some (.int .i64 g.base) := p1.cell 0
        have a1 : yd4.cell? ⟨w.heap.size, 1, none⟩ = some (.slice Ab g.bands.length cb) := p1.cell 1
        have a2 : yd4.cell? ⟨w.heap.size, 2, none⟩ = some (.slice Ad g.depths.length cd) := p1.cell 2
        have a3 : yd4.cell? ⟨w.heap.size, 3, none⟩ = some (.int .i64 g.blo) := p1.cell 3
        have a4 : yd4.cell? ⟨w.heap.size, 4, none⟩ = some (.int .i64 g.bhi) := p1.cell 4
        have l1 := p1.lt
        go_wp2_with fail
        refine wp_region_ext_mix 13 [(false, 0), (false, 2), (false, 4), (false, 5), (false, 6), (true, 1), (true, 3), (true, 7), (true, 8), (false, 9), (false, 10), (false, 11), (false, 12)] (by kernel_rfl) (by kernel_rfl) (by intro d _ _ _ _ h; cases d <;> exact h) ?_
        have hW_ea := (Below.refl yd4.heap.size yd4).drew
        repeat (refine mix_quiet rfl ?_; go_big_quiet_step (fail); refine wpQuiet_nil ?_)
        refine mix_loud rfl ?_
        go_wp2_with fail
        refine (Glass_any g _ _ _ _ yd4.drew ((hg.below (ex_trans B_yd hW_ea)).up (ex_trans B_yd hW_ea).size) (by omega) (by omega)).mono ?_
        rintro e ea1 ⟨⟨Ab_ea, Ad_ea, cb_ea, cd_ea, rfl, hg_ea⟩, hea1⟩
        have E_ea1 := ex_trans hW_ea hea1
        go_wp2_with fail
        refine ⟨inEx E_ea1, ?_⟩
        refine mix_loud rfl ?_
        go_wp2_with fail
        refine (History_any _ _ h ea1 (by omega) ((hh.below (ex_trans B_yd E_ea1)).up (ex_trans B_yd E_ea1).size)).mono ?_
        rintro e ea2 ⟨⟨Ah_ea, ch_ea, rfl, _, _, hh_ea⟩, hea2⟩
        have E_ea2 := ex_trans E_ea1 hea2
        go_wp2_with fail
        refine ⟨inEx E_ea2, ?_⟩
        refine mix_loud rfl ?_
        go_wp2_with fail
        refine (Ices_take _ _ l (j) ea2 (by omega) (by omega) ((hi.below (ex_trans I_yd E_ea2)).up (ex_trans I_yd E_ea2).size)).mono ?_
        rintro e ea3 ⟨⟨Ai_ea, ci_ea, X1, HX1, rfl, hi_ea⟩, hea3⟩
        have E_ea3 := ex_trans E_ea2 hea3
        have HI_ea := Lib.hid (iced_of (l := X1) HLV.out (by rw [HX1.out]; exact take_ics E0.out))
        go_wp2_with fail
        refine ⟨inEx E_ea3, ?_⟩
        refine mix_loud rfl ?_
        go_wp2_with fail
        refine (Zeros_v g _ _ _ _ _ _ _ _ h X1 _ ((hg_ea.below (ex_trans hea2 hea3)).up (ex_trans hea2 hea3).size) ((hh_ea.below hea3).up hea3.size) hi_ea HI_ea.out).mono ?_
        rintro e ea4 ⟨⟨Az_ea, n_ea, ev_ea, zs_ea, rfl, HZ_ea, _⟩, hea4⟩
        have E_ea4 := ex_trans E_ea3 hea4
        have he1 : ev_ea = 0 := by
          have hag : agreeB g h X1 off0 = true := by
            rw [HX1.out]
            rcases Nat.eq_zero_or_pos j with h0 | h0
            · rw [h0, List.take_zero]; exact HN.out off0
            · have := J2.out (j - 1) (by omega)
              rwa [Nat.sub_add_cancel h0] at this
          rcases HZ_ea.out with ⟨h1, _⟩ | ⟨_, h1, _⟩
          · rw [hag] at h1; cases h1
          · exact h1
        subst he1
        clear HZ_ea
        go_wp2_with fail
        refine ⟨inEx E_ea4, ?_⟩
        repeat (refine mix_quiet rfl ?_; go_big_quiet_step (fail); refine wpQuiet_nil ?_)
        refine mix_nil rfl ?_
        have B_ea := ex_trans B_yd E_ea4
        have I_ea := ex_trans I_yd E_ea4
        replace p1 := p1.below E_ea4 p1.lt
        clear a0 a1 a2 a3 a4 l1 hg_ea hh_ea hi_ea
        have a0 : ea4.cell? ⟨w.heap.size, 0, none⟩ = some (.int .i64 g.base) := p1.cell 0
        have a1 : ea4.cell? ⟨w.heap.size, 1, none⟩ = some (.slice Ab g.bands.length cb) := p1.cell 1
        have a2 : ea4.cell? ⟨w.heap.size, 2, none⟩ = some (.slice Ad g.depths.length cd) := p1.cell 2
        have a3 : ea4.cell? ⟨w.heap.size, 3, none⟩ = some (.int .i64 g.blo) := p1.cell 3
        have a4 : ea4.cell? ⟨w.heap.size, 4, none⟩ = some (.int .i64 g.bhi) := p1.cell 4
        have l1 := p1.lt
        go_wp2_with fail
        refine wp_region_ext_mix 14 [(false, 0), (false, 2), (false, 4), (false, 5), (false, 6), (false, 7), (true, 1), (true, 3), (true, 8), (true, 9), (false, 10), (false, 11), (false, 12), (false, 13)] (by kernel_rfl) (by kernel_rfl) (by intro d _ _ _ _ h; cases d <;> exact h) ?_
        have hW_eb := (Below.refl ea4.heap.size ea4).drew
        repeat (refine mix_quiet rfl ?_; go_big_quiet_step (fail); refine wpQuiet_nil ?_)
        refine mix_loud rfl ?_
        go_wp2_with fail
        refine (Glass_any g _ _ _ _ ea4.drew ((hg.below (ex_trans B_ea hW_eb)).up (ex_trans B_ea hW_eb).size) (by omega) (by omega)).mono ?_
        rintro e eb1 ⟨⟨Ab_eb, Ad_eb, cb_eb, cd_eb, rfl, hg_eb⟩, heb1⟩
        have E_eb1 := ex_trans hW_eb heb1
        go_wp2_with fail
        refine ⟨inEx E_eb1, ?_⟩
        refine mix_loud rfl ?_
        go_wp2_with fail
        refine (History_any _ _ h eb1 (by omega) ((hh.below (ex_trans B_ea E_eb1)).up (ex_trans B_ea E_eb1).size)).mono ?_
        rintro e eb2 ⟨⟨Ah_eb, ch_eb, rfl, _, _, hh_eb⟩, heb2⟩
        have E_eb2 := ex_trans E_eb1 heb2
        go_wp2_with fail
        refine ⟨inEx E_eb2, ?_⟩
        refine mix_loud rfl ?_
        go_wp2_with fail
        refine (Ices_take _ _ l (j + 1) eb2 (by omega) (by omega) ((hi.below (ex_trans I_ea E_eb2)).up (ex_trans I_ea E_eb2).size)).mono ?_
        rintro e eb3 ⟨⟨Ai_eb, ci_eb, X2, HX2, rfl, hi_eb⟩, heb3⟩
        have E_eb3 := ex_trans E_eb2 heb3
        have HI_eb := Lib.hid (iced_of (l := X2) HLV.out (by rw [HX2.out]; exact take_ics E0.out))
        go_wp2_with fail
        refine ⟨inEx E_eb3, ?_⟩
        refine mix_loud rfl ?_
        go_wp2_with fail
        refine (Zeros_v g _ _ _ _ _ _ _ _ h X2 _ ((hg_eb.below (ex_trans heb2 heb3)).up (ex_trans heb2 heb3).size) ((hh_eb.below heb3).up heb3.size) hi_eb HI_eb.out).mono ?_
        rintro e eb4 ⟨⟨Az_eb, n_eb, ev_eb, zs_eb, rfl, HZ_eb, _⟩, heb4⟩
        have E_eb4 := ex_trans E_eb3 heb4
        have he2 : ev_eb = 9 := by
          have hag : agreeB g h X2 off0 = false := by rw [HX2.out]; exact J3.out
          rcases HZ_eb.out with ⟨_, h1, _⟩ | ⟨h1, _⟩
          · exact h1
          · rw [hag] at h1; cases h1
        subst he2
        clear HZ_eb
        go_wp2_with fail
        refine ⟨inEx E_eb4, ?_⟩
        repeat (refine mix_quiet rfl ?_; go_big_quiet_step (fail); refine wpQuiet_nil ?_)
        refine mix_nil rfl ?_
        have B_eb := ex_trans B_ea E_eb4
        have I_eb := ex_trans I_ea E_eb4
        replace p1 := p1.below E_eb4 p1.lt
        clear a0 a1 a2 a3 a4 l1 hg_eb hh_eb hi_eb
        go_wp2_with fail
        refine (awake_any _).mono ?_
        rintro e x1 ⟨rfl, hx1⟩
        go_wp2
        go_ret
        exact ⟨rfl, ex_trans B_eb hx1⟩
      · have h0 : fr1.length = 0 := by rw [few_none ((shows_none HK.out (HN.out off0)).1 j1) HF1.out]; rfl
        have h0' : (fr1.length : Int) = 0 := by omega
        clear j1 HS4
        go_wp2_with fail
        refine (awake_any _).mono ?_
        rintro e x1 ⟨rfl, hx1⟩
        go_wp2
        go_ret
        exact ⟨rfl, ex_trans B_yd hx1⟩

end Go.Proofs.Ytlgmeofpkfliaaa
end

section
namespace Go.Proofs.Ytlgmeofpkfliaaa.glassFalse
open Go.ChangeShapes Go.WideShapes Go.ChangeAt Go.RowKit
set_option linter.unusedVariables false

set_option maxRecDepth 100000 in
theorem lifted (os : Os) (started : os.Started) (H : Type) (enc : TypeId × Value → H) :
    ReturnsInHanded {} Try.checked os 10 .any (Rows.glassFalseSpec.pre6 enc Try.prog Try.f10 Rows.glassFalseRow.domain false) (Rows.glassFalseSpec.post enc Try.prog Try.f10 false true false false) := by
  refine returnsInHanded_of_change (C := Try.checked) own started (by kernel_rfl) Try.func10
    (ChangeSpec.witness6 (enc := enc) (C := Try.checked) false ⟨#[], #[.agg #[.int .i64 0, .slice none 0 0, .slice none 0 0, .int .i64 0, .int .i64 0], .slice none 0 0, .slice none 0 0, .int .u8 0, .int .u8 0], []⟩ 8 (by kernel_rfl) (by kernel_rfl) (by kernel_rfl) (by kernel_rfl)) ?_
  intro W base args ds gs before hval0 hW hcnd _
  have hval : ∀ (j : Nat) t v, Try.f10.params[j]? = some t → args[j]? = some v → Value.okWide Try.prog W .any base t v := hval0
  have hW0 := hW
  obtain ⟨p, q, hA0, hV, rfl, hfz, hnd⟩ := hW
  have hA : DataW.TrodAll enc Try.prog W 0 (fun _ => true) true Try.f10.params.toList args.toList ds p := hA0
  rw [Try.params10] at hA hval
  obtain ⟨v0, vs0, d0, ds0, p0, q0, ea0, ed0, ep0, h0, hA0⟩ := trodAll_cons hA
  obtain ⟨v1, vs1, d1, ds1, p1, q1, ea1, ed1, ep1, h1, hA1⟩ := trodAll_cons hA0
  obtain ⟨v2, vs2, d2, ds2, p2, q2, ea2, ed2, ep2, h2, hA2⟩ := trodAll_cons hA1
  obtain ⟨v3, vs3, d3, ds3, p3, q3, ea3, ed3, ep3, h3, hA3⟩ := trodAll_cons hA2
  obtain ⟨v4, vs4, d4, ds4, p4, q4, ea4, ed4, ep4, h4, hA4⟩ := trodAll_cons hA3
  obtain ⟨ea, ed, ep⟩ := trodAll_nil hA4
  have eargs : args = #[v0, v1, v2, v3, v4] := by rw [← Array.toArray_toList (xs := args), ea0, ea1, ea2, ea3, ea4, ea]
  have eds : ds = [d0, d1, d2, d3, d4] := by rw [ed0, ed1, ed2, ed3, ed4, ed]
  subst eargs eds
  obtain ⟨rfl, rfl⟩ := trodVars_none hV
  obtain ⟨g, Ab, Ad, cb, cd, rfl, _, hg⟩ := open_glass (hval 0 _ _ rfl rfl) h0
  obtain ⟨Ah, h, ch, rfl, _, _, hh⟩ := open_rgs (hval 1 _ _ rfl rfl) h1
  obtain ⟨Aw, ws, cw, rfl, hwl, hw, hwb⟩ := open_words (hval 2 _ _ rfl rfl) h2
  obtain ⟨m3, rfl, hm3⟩ := open_int Try.underlying5 (hval 3 _ _ rfl rfl) h3
  obtain ⟨m4, rfl, hm4⟩ := open_int Try.underlying5 (hval 4 _ _ rfl rfl) h4
  refine (FalseLaw_any g Ab Ad Ah Aw cb cd ch cw h ws W hg hh hw hwb hwl m3 m4 (wf_u8 hm3) (wf_u8 hm4)).mono fun e W' he => ?_
  obtain ⟨rfl, hb⟩ := he
  exact ⟨_, rfl, post_law rfl hW0 rfl rfl ⟨⟨by kernel_rfl, of_decide_eq_true (by kernel_rfl)⟩, ⟨by kernel_rfl, of_decide_eq_true (by kernel_rfl)⟩, ⟨by kernel_rfl, of_decide_eq_true (by kernel_rfl)⟩, ⟨by kernel_rfl, of_decide_eq_true (by kernel_rfl)⟩, ⟨by kernel_rfl, of_decide_eq_true (by kernel_rfl)⟩, trivial⟩ hb⟩

theorem over : Rows.glassFalseRow.holds Try.pinned (OpenSpec.ofChange Rows.glassFalseSpec) :=
  OpenClaim.holds_of_wide 10 Try.f10 rfl rfl rfl rfl rfl rfl rfl ⟨rfl, rfl, rfl, rfl, rfl⟩ rfl rfl rfl rfl rfl (by kernel_rfl) Try.func10 (by kernel_rfl)
    (of_decide_eq_true (by kernel_rfl)) (by unfold Func.isWrapper; first | (rw [if_pos (by decide +kernel)]; kernel_rfl) | (rw [if_neg (by decide +kernel)]; exact ⟨rfl, rfl⟩))
    (fun os started H enc _ => lifted os started H enc)

/-- the statement. -/
theorem proved : Rows.GlassFalseSaid :=
  over
#print axioms proved
end Go.Proofs.Ytlgmeofpkfliaaa.glassFalse
end
