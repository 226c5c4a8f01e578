/- Spill's laws: SpillHealth (walk). -/
import Derived.Test.YthihdiilokdidaaV11
set_option linter.unusedVariables false
set_option linter.unusedSimpArgs false
set_option linter.unusedSectionVars false
section
namespace Go.Proofs.Ythihdiilokdidaa
open Go.RowKit
attribute [local go_sem] Ex.cell? Ex.frozen? Fx.cell?

theorem cR2_at (l : List Rg) (k : Nat) (hk : k < l.length) (j : Nat) (hj : j < 2) : (cR2 l[k])[j]? = some (fR l k j) := by
  have hg : gR l k = l[k] := by simp [gR, hk]
  match j, hj with
  | 0, _ => simp [cR2, fR, hg]
  | 1, _ => simp [cR2, fR, hg]
theorem cR2_one (a : Rg) (u : Value) (hu : u ∈ cR2 a) : u.oneCell' = true := by
  simp only [cR2, List.mem_cons, List.not_mem_nil, or_false] at hu
  rcases hu with rfl | rfl <;> rfl
theorem cI1_at (l : List Int) (k : Nat) (hk : k < l.length) (j : Nat) (hj : j < 1) : (cI1 l[k])[j]? = some (fI l k j) := by
  obtain rfl : j = 0 := by omega
  simp [cI1, fI, gI, hk]
theorem cI1_one (a : Int) (u : Value) (hu : u ∈ cI1 a) : u.oneCell' = true := by
  simp only [cI1, List.mem_cons, List.not_mem_nil, or_false] at hu
  subst hu; rfl
theorem lay_Rg {W : World} {B : Nat} {v : Value} {l : List Rg} (T : TypeId) (h : W.ownsRow B T 2 v l.length (l.flatMap cR2)) : ∃ A k, v = .slice A l.length k ∧ l.length ≤ k ∧ k ≤ maxLen ∧ RowAt W B T 2 A l.length (fR l) := own_row (c := cR2) (sz := 2) (fun _ => rfl) (cR2_at l) h
theorem rangeRH_info : (Try.prog.info? 52).map (fun i => (i.zero, i.size, i.bytes)) = some (some (.agg #[.int .i64 0, .int .i64 0]), 2, 16) := by kernel_rfl
theorem mul_le8 {d p h : Int} (hd : 0 ≤ d) (hp : p ≤ h) : d * p ≤ d * h := Int.mul_le_mul_of_nonneg_left hp hd
set_option maxRecDepth 100000 in
set_option maxHeartbeats 12800000 in
theorem HealthLaw_any (t : Tm) (Ar Ah : Option Addr) (cr ch : Nat) (w : World) (htm : TmIn w w.heap.size t Ar Ah) (L : List (List Int)) (AR : Option Addr) (cR : Nat) (rR : Nat → Option Addr) (rcR : Nat → Nat) (hL : LisIn w w.heap.size AR L rR rcR) (AW : Option Addr) (cW : Nat) (ws : List Int) (hwd : SlAt w w.heap.size 1 AW ws.length (fU ws)) (hwb : ∀ k, k < ws.length → 0 ≤ gI ws k ∧ gI ws k ≤ 65535) (hwl : ws.length ≤ maxLen) (m3 m4 : Int) (h3 : 0 ≤ m3 ∧ m3 ≤ 255) (h4 : 0 ≤ m4 ∧ m4 ≤ 255) :
    Calls Try.prog 8 #[.agg #[.slice Ar t.rates.length cr, .slice Ah t.hours.length ch, .int .i64 t.limit, .int .i64 t.most], .slice AR L.length cR, .slice AW ws.length cW, .int .u8 m3, .int .u8 m4] w fun e w' => e = .returned (.bool true) ∧ Below w.heap.size w w' := by
  obtain ⟨i0, hi0, hv0, hv1, hv2⟩ := info_parts rangeRH_info
  obtain ⟨i1, hi1, hw0, hw1, hw2⟩ := info_parts int_info
  have HI0 := Lib.hid hi0
  have HI1 := Lib.hid hi1
  clear hi0 hi1
  have hb1 := ex_alloc (Below.refl w.heap.size w) (.cells #[.slice Ar t.rates.length cr, .slice Ah t.hours.length ch, .int .i64 t.limit, .int .i64 t.most] 55)
  have q0 : Blk (w.alloc (.cells #[.slice Ar t.rates.length cr, .slice Ah t.hours.length ch, .int .i64 t.limit, .int .i64 t.most] 55)) w.heap.size 55 #[.slice Ar t.rates.length cr, .slice Ah t.hours.length ch, .int .i64 t.limit, .int .i64 t.most] := Blk.new _ _ _
  replace htm := htm.go hb1
  replace hL := hL.go hb1
  replace hwd := (hwd.below hb1).up hb1.size
  have HWB := Lib.hid hwb
  clear hwb
  go_enter Try.func8, Try.ntmps8
  go_upto_region 1 with fail
  obtain ⟨pq0, hpq0⟩ : ∃ p, w.heap.size = p := ⟨_, rfl⟩
  rw [hpq0] at q0 ⊢
  clear hpq0
  generalize w.alloc (.cells #[.slice Ar t.rates.length cr, .slice Ah t.hours.length ch, .int .i64 t.limit, .int .i64 t.most] 55) = V at *
  have a0 : V.cell? ⟨pq0, 0, none⟩ = some (.slice Ar t.rates.length cr) := q0.cell 0
  have a1 : V.cell? ⟨pq0, 1, none⟩ = some (.slice Ah t.hours.length ch) := q0.cell 1
  have a2 : V.cell? ⟨pq0, 2, none⟩ = some (.int .i64 t.limit) := q0.cell 2
  have a3 : V.cell? ⟨pq0, 3, none⟩ = some (.int .i64 t.most) := q0.cell 3
  have la := q0.lt
  by_cases g6 : 6 < t.rates.length
  · have g6' : (6 : Int) < (t.rates.length : Int) := by omega
    go_wp2_with fail
    refine (awake_any V).mono ?_
    rintro e Wz ⟨rfl, hz⟩
    go_wp2
    go_ret
    exact ⟨rfl, ex_trans hb1 hz⟩
  have g6' : ¬ (6 : Int) < (t.rates.length : Int) := by omega
  by_cases g9 : 9 < t.hours.length
  · have g9' : (9 : Int) < (t.hours.length : Int) := by omega
    go_wp2_with fail
    refine (awake_any V).mono ?_
    rintro e Wz ⟨rfl, hz⟩
    go_wp2
    go_ret
    exact ⟨rfl, ex_trans hb1 hz⟩
  have g9' : ¬ (9 : Int) < (t.hours.length : Int) := by omega
  go_wp2_with fail
  refine (short_any AR cR L rR rcR V hL).mono ?_
  rintro e V2 ⟨rfl, hV2⟩
  replace htm := htm.go hV2
  replace hL := hL.go hV2
  replace hwd := (hwd.below hV2).up hV2.size
  replace q0 := q0.below hV2 q0.lt
  have B_V2 := ex_trans hb1 hV2
  clear a0 a1 a2 a3 la
  have a0 : V2.cell? ⟨pq0, 0, none⟩ = some (.slice Ar t.rates.length cr) := q0.cell 0
  have a1 : V2.cell? ⟨pq0, 1, none⟩ = some (.slice Ah t.hours.length ch) := q0.cell 1
  have a2 : V2.cell? ⟨pq0, 2, none⟩ = some (.int .i64 t.limit) := q0.cell 2
  have a3 : V2.cell? ⟨pq0, 3, none⟩ = some (.int .i64 t.most) := q0.cell 3
  have la := q0.lt
  cases hsh : shortB L
  · clear hsh
    go_wp2_with fail
    refine (awake_any V2).mono ?_
    rintro e Wz ⟨rfl, hz⟩
    go_wp2
    go_ret
    exact ⟨rfl, ex_trans B_V2 hz⟩
  have HSH := Lib.hid (shortB_iff.1 hsh)
  clear hsh
  have HSM : Hid (t.rates.length ≤ 1000 ∧ t.hours.length ≤ 1000) := Lib.hid (by omega)
  have HSL : Hid (L.length ≤ 1000 ∧ ∀ k, k < L.length → (gL L k).length ≤ 1000) := Lib.hid ⟨by have := HSH.out.1; omega, fun k hk => by have := HSH.out.2 k hk; omega⟩
  go_wp2_with fail
  refine (TeamFault_ref t Ar Ah cr ch V2 htm).mono ?_
  rintro e V3 ⟨rfl, hV3⟩
  replace htm := htm.go hV3
  replace hL := hL.go hV3
  replace hwd := (hwd.below hV3).up hV3.size
  replace q0 := q0.below hV3 q0.lt
  have B_V3 := ex_trans B_V2 hV3
  clear a0 a1 a2 a3 la
  have a0 : V3.cell? ⟨pq0, 0, none⟩ = some (.slice Ar t.rates.length cr) := q0.cell 0
  have a1 : V3.cell? ⟨pq0, 1, none⟩ = some (.slice Ah t.hours.length ch) := q0.cell 1
  have a2 : V3.cell? ⟨pq0, 2, none⟩ = some (.int .i64 t.limit) := q0.cell 2
  have a3 : V3.cell? ⟨pq0, 3, none⟩ = some (.int .i64 t.most) := q0.cell 3
  have la := q0.lt
  by_cases hck : ckTm t = 0
  rotate_left
  · have e0 : (ckTm t == 0) = false := by simp [hck]
    have e1 : (ckTm t != 0) = true := by simp [hck]
    generalize ckTm t = cc at *
    clear hck
    go_wp2_with fail
    refine (awake_any V3).mono ?_
    rintro e Wz ⟨rfl, hz⟩
    go_wp2
    go_ret
    exact ⟨rfl, ex_trans B_V3 hz⟩
  have HT := Lib.hid (ckTm_iff.1 hck)
  rw [hck]
  clear hck
  have hn3 : 1 ≤ t.rates.length ∧ t.rates.length ≤ 3 := ⟨HT.out.len.1, HT.out.len.2.1⟩
  have hnh : t.hours.length ≤ 9 := by omega
  have HHL : Hid (t.hours.length = t.rates.length) := Lib.hid HT.out.len.2.2
  clear g6 g6' g9 g9'
  go_wp2_with fail
  refine (Team_any t Ar Ah cr ch V3 htm HSM.out).mono ?_
  rintro e V4 ⟨⟨⟨Ar1, Ah1, cr1, ch1, rfl, ht1⟩⟩, hV4⟩
  replace htm := htm.go hV4
  replace hL := hL.go hV4
  replace hwd := (hwd.below hV4).up hV4.size
  replace q0 := q0.below hV4 q0.lt
  have B_V4 := ex_trans B_V3 hV4
  clear a0 a1 a2 a3 la
  have a0 : V4.cell? ⟨pq0, 0, none⟩ = some (.slice Ar t.rates.length cr) := q0.cell 0
  have a1 : V4.cell? ⟨pq0, 1, none⟩ = some (.slice Ah t.hours.length ch) := q0.cell 1
  have a2 : V4.cell? ⟨pq0, 2, none⟩ = some (.int .i64 t.limit) := q0.cell 2
  have a3 : V4.cell? ⟨pq0, 3, none⟩ = some (.int .i64 t.most) := q0.cell 3
  have la := q0.lt
  go_wp2_with fail
  refine (Roster_any t Ar1 Ah1 cr1 ch1 V4 ht1 HSM.out).mono ?_
  rintro e V5 ⟨⟨⟨Ax, nx, cx, rfl, hyes, hno⟩⟩, hV5⟩
  replace htm := htm.go hV5
  replace hL := hL.go hV5
  replace hwd := (hwd.below hV5).up hV5.size
  replace q0 := q0.below hV5 q0.lt
  replace ht1 := ht1.go hV5
  have B_V5 := ex_trans B_V4 hV5
  clear ht1
  clear a0 a1 a2 a3 la
  have a0 : V5.cell? ⟨pq0, 0, none⟩ = some (.slice Ar t.rates.length cr) := q0.cell 0
  have a1 : V5.cell? ⟨pq0, 1, none⟩ = some (.slice Ah t.hours.length ch) := q0.cell 1
  have a2 : V5.cell? ⟨pq0, 2, none⟩ = some (.int .i64 t.limit) := q0.cell 2
  have a3 : V5.cell? ⟨pq0, 3, none⟩ = some (.int .i64 t.most) := q0.cell 3
  have la := q0.lt
  obtain ⟨ec, hec⟩ : ∃ x, roE t = x := ⟨_, rfl⟩
  rw [hec]
  have HEC := Lib.hid hec
  rw [hec] at hyes hno
  clear hec
  rcases roE_of HT.out with ⟨h6, hr⟩ | ⟨h6, hr⟩
  · have he : ec = 0 := HEC.out.symm.trans hr
    subst he
    obtain ⟨Ls, rAx, rcx, hn, hn2, hch, hmat⟩ := hyes rfl
    have HLs := Lib.hid hn
    have HN2 := Lib.hid hn2
    have HCH := Lib.hid hch
    have H6 := Lib.hid h6
    have hx6 : nx ≤ 6 := by omega
    clear hyes hno hn hn2 hch hr h6
    clear a0 a1 a2 a3 la
    have a0 : V5.cell? ⟨pq0, 0, none⟩ = some (.slice Ar t.rates.length cr) := q0.cell 0
    have a1 : V5.cell? ⟨pq0, 1, none⟩ = some (.slice Ah t.hours.length ch) := q0.cell 1
    have a2 : V5.cell? ⟨pq0, 2, none⟩ = some (.int .i64 t.limit) := q0.cell 2
    have a3 : V5.cell? ⟨pq0, 3, none⟩ = some (.int .i64 t.most) := q0.cell 3
    have la := q0.lt
    have wn : IntKind.i64.wrap ((nx : Int) - 1) = (nx : Int) - 1 := IntWalk.i64_in _ (by omega)
    clear a0 a1 a2 a3 la
    have a0 : V5.cell? ⟨pq0, 0, none⟩ = some (.slice Ar t.rates.length cr) := q0.cell 0
    have a1 : V5.cell? ⟨pq0, 1, none⟩ = some (.slice Ah t.hours.length ch) := q0.cell 1
    have a2 : V5.cell? ⟨pq0, 2, none⟩ = some (.int .i64 t.limit) := q0.cell 2
    have a3 : V5.cell? ⟨pq0, 3, none⟩ = some (.int .i64 t.most) := q0.cell 3
    have la := q0.lt
    go_wp2_with fail
    refine (Team_any t Ar Ah cr ch V5 htm HSM.out).mono ?_
    rintro e V6 ⟨⟨⟨Ar2, Ah2, cr2, ch2, rfl, ht2⟩⟩, hV6⟩
    replace htm := htm.go hV6
    replace hL := hL.go hV6
    replace hwd := (hwd.below hV6).up hV6.size
    replace q0 := q0.below hV6 q0.lt
    replace hmat := hmat.go hV6
    have B_V6 := ex_trans B_V5 hV6
    go_wp2_with fail
    refine (rows_any AR cR L rR rcR V6 HSL.out.1 HSL.out.2 hL).mono ?_
    rintro e V7 ⟨⟨AX2, cX2, X2, rfl, hio2, hix2⟩, hV7⟩
    replace htm := htm.go hV7
    replace hL := hL.go hV7
    replace hwd := (hwd.below hV7).up hV7.size
    replace q0 := q0.below hV7 q0.lt
    replace hmat := hmat.go hV7
    replace ht2 := ht2.go hV7
    have B_V7 := ex_trans B_V6 hV7
    obtain ⟨A9, c9, rX2, rcX2, e9, hlx2⟩ := IOwn.lis hio2 hix2
    injection e9 with e91 e90 e92
    subst e91 e92
    clear e90 hio2 hix2
    go_wp2_with fail
    refine (ProveR_any t Ar2 Ah2 cr2 ch2 V7 ht2 HSM.out L AX2 cX2 rX2 rcX2 hlx2 HSL.out ((nx : Int) - 1)).mono ?_
    rintro e V8 ⟨rfl, hV8⟩
    replace htm := htm.go hV8
    replace hL := hL.go hV8
    replace hwd := (hwd.below hV8).up hV8.size
    replace q0 := q0.below hV8 q0.lt
    replace hmat := hmat.go hV8
    replace ht2 := ht2.go hV8
    replace hlx2 := hlx2.go hV8
    have B_V8 := ex_trans B_V7 hV8
    clear ht2 hlx2
    clear a0 a1 a2 a3 la
    have a0 : V8.cell? ⟨pq0, 0, none⟩ = some (.slice Ar t.rates.length cr) := q0.cell 0
    have a1 : V8.cell? ⟨pq0, 1, none⟩ = some (.slice Ah t.hours.length ch) := q0.cell 1
    have a2 : V8.cell? ⟨pq0, 2, none⟩ = some (.int .i64 t.limit) := q0.cell 2
    have a3 : V8.cell? ⟨pq0, 3, none⟩ = some (.int .i64 t.most) := q0.cell 3
    have la := q0.lt
    rw [HN2.out, no_fewer, ← HN2.out]
    clear wn
    go_wp2_with fail
    refine wp_loop (fun a W => Rel (fun a W => ∃ i : Nat, i ≤ nx ∧ Below V8.heap.size V8 W ∧ ∃ u : Nat → Value, a = ⟨List.toArray (u 0 :: .slice AR L.length cR :: .slice AW ws.length cW :: .int .u8 m3 :: .int .u8 m4 :: .pointer (some ⟨pq0, 0, none⟩) :: u 6 :: u 7 :: u 8 :: u 9 :: u 10 :: .slice Ax nx cx :: .int .i64 0 :: .int .i64 (i : Int) :: u 14 :: u 15 :: u 16 :: u 17 :: u 18 :: u 19 :: u 20 :: u 21 :: u 22 :: u 23 :: u 24 :: u 25 :: u 26 :: u 27 :: u 28 :: u 29 :: u 30 :: u 31 :: u 32 :: u 33 :: u 34 :: u 35 :: u 36 :: u 37 :: u 38 :: u 39 :: u 40 :: u 41 :: u 42 :: u 43 :: u 44 :: u 45 :: u 46 :: u 47 :: u 48 :: u 49 :: u 50 :: u 51 :: u 52 :: u 53 :: u 54 :: u 55 :: u 56 :: u 57 :: u 58 :: u 59 :: u 60 :: u 61 :: u 62 :: u 63 :: u 64 :: u 65 :: u 66 :: u 67 :: u 68 :: u 69 :: u 70 :: u 71 :: u 72 :: u 73 :: u 74 :: u 75 :: u 76 :: u 77 :: u 78 :: u 79 :: u 80 :: u 81 :: u 82 :: u 83 :: u 84 :: u 85 :: u 86 :: u 87 :: u 88 :: u 89 :: u 90 :: u 91 :: u 92 :: u 93 :: u 94 :: u 95 :: u 96 :: u 97 :: u 98 :: u 99 :: u 100 :: u 101 :: u 102 :: u 103 :: u 104 :: u 105 :: u 106 :: u 107 :: u 108 :: u 109 :: u 110 :: u 111 :: u 112 :: u 113 :: u 114 :: u 115 :: u 116 :: u 117 :: u 118 :: u 119 :: u 120 :: u 121 :: u 122 :: u 123 :: u 124 :: u 125 :: u 126 :: u 127 :: u 128 :: u 129 :: u 130 :: u 131 :: u 132 :: u 133 :: u 134 :: u 135 :: u 136 :: u 137 :: u 138 :: u 139 :: u 140 :: u 141 :: u 142 :: u 143 :: u 144 :: u 145 :: u 146 :: u 147 :: u 148 :: u 149 :: u 150 :: u 151 :: u 152 :: u 153 :: u 154 :: u 155 :: u 156 :: u 157 :: u 158 :: u 159 :: u 160 :: u 161 :: u 162 :: u 163 :: u 164 :: u 165 :: u 166 :: u 167 :: u 168 :: u 169 :: u 170 :: u 171 :: u 172 :: u 173 :: u 174 :: u 175 :: u 176 :: u 177 :: u 178 :: u 179 :: u 180 :: u 181 :: u 182 :: u 183 :: u 184 :: u 185 :: u 186 :: u 187 :: u 188 :: u 189 :: u 190 :: u 191 :: u 192 :: u 193 :: u 194 :: u 195 :: u 196 :: u 197 :: u 198 :: u 199 :: u 200 :: u 201 :: u 202 :: u 203 :: u 204 :: u 205 :: u 206 :: u 207 :: u 208 :: u 209 :: u 210 :: u 211 :: u 212 :: u 213 :: u 214 :: u 215 :: u 216 :: u 217 :: u 218 :: u 219 :: u 220 :: []), []⟩) a W) (fun a _ => nx - (intOf (a.tmps.getD 13 undef)).toNat) ⟨⟨0, by omega, Below.refl _ _, exFrame (by kernel_rfl)⟩⟩ ?_
    clear a0 a1 a2 a3 la
    rintro a W ⟨⟨i, hi, hbw, u, rfl⟩⟩
    replace htm := htm.go hbw
    replace hL := hL.go hbw
    replace hwd := (hwd.below hbw).up hbw.size
    replace q0 := q0.below hbw q0.lt
    replace hmat := hmat.go hbw
    have B_W := ex_trans B_V8 hbw
    have a0 : W.cell? ⟨pq0, 0, none⟩ = some (.slice Ar t.rates.length cr) := q0.cell 0
    have a1 : W.cell? ⟨pq0, 1, none⟩ = some (.slice Ah t.hours.length ch) := q0.cell 1
    have a2 : W.cell? ⟨pq0, 2, none⟩ = some (.int .i64 t.limit) := q0.cell 2
    have a3 : W.cell? ⟨pq0, 3, none⟩ = some (.int .i64 t.most) := q0.cell 3
    have la := q0.lt
    by_cases hli : i < nx
    · have hli' : (i : Int) < (nx : Int) := by omega
      obtain ⟨bS, oS, rfl, hbS, s0⟩ := hmat.out (by omega)
      have s1 : W.cell? ⟨bS, oS + i, none⟩ = some (.slice (rAx i) t.rates.length (rcx i)) := by have := s0 i 0 hli (by omega); rw [show oS + (i * 1 + 0) = oS + i by omega] at this; exact this
      obtain ⟨br, or, hrv, hbr, r0⟩ := hmat.row i hli (by omega)
      rw [hrv] at s1
      obtain ⟨dv, hdv⟩ : ∃ d, Ls.getD i z3 = d := ⟨_, rfl⟩
      obtain ⟨rc, hrc⟩ : ∃ x, rcx i = x := ⟨_, rfl⟩
      rw [hrc] at s1
      have HPT := Lib.hid (chain_part HT.out HCH.out (k := i) (by rw [← HLs.out]; exact hli))
      rw [hdv] at HPT
      have HR0 : Hid (∀ j, j < t.rates.length → W.cell? ⟨br, or + j, none⟩ = some (.int .i64 (dv.get j))) := Lib.hid (fun j hj => by have := r0 j 0 hj (by omega); rw [show or + (j * 1 + 0) = or + j by omega, hdv] at this; exact this)
      clear s0 r0 hrv hrc hdv
      go_upto_region 10 with fail
      have D10 := (Below.refl W.heap.size W).drew
      refine wp_region_ext_mix 8 [(false, 0), (false, 1), (false, 2), (false, 3), (false, 4), (false, 5), (false, 6), (false, 7)] (by kernel_rfl) (by kernel_rfl) (by intro d _ _ _ _ h; cases d <;> exact h) ?_
      repeat (refine mix_quiet rfl ?_; go_big_quiet_step (fail); refine wpQuiet_nil ?_)
      refine mix_nil (r := [_]) rfl ?_
      have s2 : W.drew.cell? ⟨bS, oS + i, none⟩ = some (.slice (some ⟨br, or, none⟩) t.rates.length rc) := s1
      have hbS2 : bS < W.drew.heap.size := hbS
      have hbr2 : br < W.drew.heap.size := hbr
      have HR2 : Hid (∀ j, j < t.rates.length → W.drew.cell? ⟨br, or + j, none⟩ = some (.int .i64 (dv.get j))) := Lib.hid HR0.out
      clear a0 a1 a2 a3 la
      clear s1 hbS hbr HR0
      obtain ⟨Y10, hY⟩ : ∃ Y, W.drew = Y := ⟨_, rfl⟩
      rw [hY] at D10 s2 hbS2 hbr2 HR2 ⊢
      clear hY
      replace htm := htm.go D10
      replace hL := hL.go D10
      replace hwd := (hwd.below D10).up D10.size
      replace q0 := q0.below D10 q0.lt
      replace hmat := hmat.go D10
      have B_Y10 := ex_trans B_W D10
      have a0 : Y10.cell? ⟨pq0, 0, none⟩ = some (.slice Ar t.rates.length cr) := q0.cell 0
      have a1 : Y10.cell? ⟨pq0, 1, none⟩ = some (.slice Ah t.hours.length ch) := q0.cell 1
      have a2 : Y10.cell? ⟨pq0, 2, none⟩ = some (.int .i64 t.limit) := q0.cell 2
      have a3 : Y10.cell? ⟨pq0, 3, none⟩ = some (.int .i64 t.most) := q0.cell 3
      have la := q0.lt
      go_wp2_with fail
      refine wp_loop (fun a W2 => Rel (fun a W2 => ∃ j : Nat, j ≤ t.rates.length ∧ ∃ nn : Int, Hid (0 ≤ nn ∧ nn ≤ brTo t dv j) ∧ Below Y10.heap.size Y10 W2 ∧ ∃ u : Nat → Value, a = ⟨List.toArray (u 0 :: .slice AR L.length cR :: .slice AW ws.length cW :: .int .u8 m3 :: .int .u8 m4 :: .pointer (some ⟨pq0, 0, none⟩) :: u 6 :: u 7 :: u 8 :: u 9 :: u 10 :: .slice (some ⟨bS, oS, none⟩) nx cx :: .int .i64 0 :: .int .i64 (i : Int) :: .int .i64 nn :: .int .i64 (j : Int) :: u 16 :: u 17 :: u 18 :: u 19 :: u 20 :: u 21 :: u 22 :: u 23 :: u 24 :: u 25 :: u 26 :: u 27 :: u 28 :: u 29 :: u 30 :: u 31 :: u 32 :: u 33 :: u 34 :: u 35 :: u 36 :: u 37 :: u 38 :: u 39 :: u 40 :: u 41 :: u 42 :: u 43 :: u 44 :: u 45 :: u 46 :: u 47 :: u 48 :: u 49 :: u 50 :: u 51 :: u 52 :: u 53 :: u 54 :: u 55 :: u 56 :: u 57 :: u 58 :: u 59 :: u 60 :: u 61 :: u 62 :: u 63 :: u 64 :: u 65 :: u 66 :: u 67 :: u 68 :: u 69 :: u 70 :: u 71 :: u 72 :: u 73 :: u 74 :: u 75 :: u 76 :: u 77 :: u 78 :: u 79 :: u 80 :: u 81 :: u 82 :: u 83 :: u 84 :: u 85 :: u 86 :: u 87 :: u 88 :: u 89 :: u 90 :: u 91 :: u 92 :: u 93 :: u 94 :: u 95 :: u 96 :: u 97 :: u 98 :: u 99 :: u 100 :: u 101 :: u 102 :: u 103 :: u 104 :: u 105 :: u 106 :: u 107 :: u 108 :: u 109 :: u 110 :: u 111 :: u 112 :: u 113 :: u 114 :: u 115 :: u 116 :: u 117 :: u 118 :: u 119 :: u 120 :: u 121 :: u 122 :: u 123 :: u 124 :: u 125 :: u 126 :: u 127 :: u 128 :: u 129 :: u 130 :: u 131 :: u 132 :: u 133 :: u 134 :: u 135 :: u 136 :: u 137 :: u 138 :: u 139 :: u 140 :: u 141 :: u 142 :: u 143 :: u 144 :: u 145 :: u 146 :: u 147 :: u 148 :: u 149 :: u 150 :: u 151 :: u 152 :: u 153 :: u 154 :: u 155 :: u 156 :: u 157 :: u 158 :: u 159 :: u 160 :: u 161 :: u 162 :: u 163 :: u 164 :: u 165 :: u 166 :: u 167 :: u 168 :: u 169 :: u 170 :: u 171 :: u 172 :: u 173 :: u 174 :: u 175 :: u 176 :: u 177 :: u 178 :: u 179 :: u 180 :: u 181 :: u 182 :: u 183 :: u 184 :: u 185 :: u 186 :: u 187 :: u 188 :: u 189 :: u 190 :: u 191 :: u 192 :: u 193 :: u 194 :: u 195 :: u 196 :: u 197 :: u 198 :: u 199 :: u 200 :: u 201 :: u 202 :: u 203 :: u 204 :: u 205 :: u 206 :: u 207 :: u 208 :: u 209 :: u 210 :: u 211 :: u 212 :: u 213 :: u 214 :: u 215 :: u 216 :: u 217 :: u 218 :: u 219 :: u 220 :: []), []⟩) a W2) (fun a _ => t.rates.length - (intOf (a.tmps.getD 15 undef)).toNat) ⟨⟨0, by omega, 0, Lib.hid ⟨by omega, by simp [brTo, esum]⟩, Below.refl _ _, exFrame (by kernel_rfl)⟩⟩ ?_
      clear a0 a1 a2 a3 la
      rintro a W2 ⟨⟨j, hj, nn, HNN, hbw2, u2, rfl⟩⟩
      replace htm := htm.go hbw2
      replace hL := hL.go hbw2
      replace hwd := (hwd.below hbw2).up hbw2.size
      replace q0 := q0.below hbw2 q0.lt
      replace hmat := hmat.go hbw2
      have B_W2 := ex_trans B_Y10 hbw2
      have a0 : W2.cell? ⟨pq0, 0, none⟩ = some (.slice Ar t.rates.length cr) := q0.cell 0
      have a1 : W2.cell? ⟨pq0, 1, none⟩ = some (.slice Ah t.hours.length ch) := q0.cell 1
      have a2 : W2.cell? ⟨pq0, 2, none⟩ = some (.int .i64 t.limit) := q0.cell 2
      have a3 : W2.cell? ⟨pq0, 3, none⟩ = some (.int .i64 t.most) := q0.cell 3
      have la := q0.lt
      have s3 : W2.cell? ⟨bS, oS + i, none⟩ = some (.slice (some ⟨br, or, none⟩) t.rates.length rc) := (hbw2.cell (p := ⟨bS, oS + i, none⟩) hbS2).trans s2
      have hbS3 : bS < W2.heap.size := Nat.lt_of_lt_of_le hbS2 hbw2.size
      by_cases hlj : j < t.rates.length
      · have hlj' : (j : Int) < (t.rates.length : Int) := by omega
        obtain ⟨bq, oq, hAr, hbq, q1', q2'⟩ := IsRgs.at_ htm.rates hlj
        have hrt := HT.out.rate j hlj
        obtain ⟨lo, hlo⟩ : ∃ x, (gR t.rates j).lo = x := ⟨_, rfl⟩
        obtain ⟨hh, hhh⟩ : ∃ x, (gR t.rates j).hi = x := ⟨_, rfl⟩
        rw [hlo] at q1' hrt
        rw [hhh] at q2' hrt
        have hbs := brTo_succ t dv j
        rw [hhh] at hbs
        clear hlo hhh
        have y0 : W2.cell? ⟨br, or + j, none⟩ = some (.int .i64 (dv.get j)) := (hbw2.cell (p := ⟨br, or + j, none⟩) hbr2).trans (HR2.out j hlj)
        have hbr3 : br < W2.heap.size := Nat.lt_of_lt_of_le hbr2 hbw2.size
        have hd8 := HPT.out.1 j
        obtain ⟨dd, hdd⟩ : ∃ x, dv.get j = x := ⟨_, rfl⟩
        rw [hdd] at y0 hd8 hbs
        clear hdd
        rw [hAr] at a0
        have HAR := Lib.hid hAr
        clear hAr
        have hbd := HNN.out
        have hb9 : brTo t dv j ≤ 2400 := by
          have h1 : brTo t dv j ≤ 800 * (j : Int) := by
            clear hbs y0 q1' q2'
            have : ∀ q, q ≤ t.rates.length → brTo t dv q ≤ 800 * (q : Int) := fun q => by
              induction q with
              | zero => intro _; simp [brTo, esum]
              | succ q ih =>
                intro hq
                have h1 := ih (by omega)
                have h2 := HT.out.rate q (by omega)
                have h3 := mul_bd8 (HPT.out.1 q) ⟨by omega, h2.2.2⟩
                rw [brTo_succ]
                omega
            exact this j hj
          omega
        go_upto_region 15 with fail
        have D15 := (Below.refl W2.heap.size W2).drew
        refine wp_region_ext_mix 19 [(false, 0), (false, 1), (false, 2), (false, 3), (false, 4), (false, 5), (false, 6), (false, 7), (false, 8), (false, 9), (false, 10), (false, 11), (false, 12), (false, 13), (false, 14), (true, 15), (true, 16), (false, 17), (false, 18)] (by kernel_rfl) (by kernel_rfl) (by intro d _ _ _ _ h; cases d <;> exact h) ?_
        repeat (refine mix_quiet rfl ?_; go_big_quiet_step (fail); refine wpQuiet_nil ?_)
        refine mix_loud rfl ?_
        go_wp2_with fail
        refine (word_any AW cW ws (j : Int) W2.drew ((hwd.below D15).up D15.size) HWB.out (by omega) (by omega) hwl).mono ?_
        rintro e W5 ⟨⟨wv, rfl, hw0', hw1'⟩, h5⟩
        have X5 := ex_trans D15 h5
        go_wp2_with fail
        refine ⟨inEx X5, ?_⟩
        repeat (refine mix_quiet rfl ?_; go_big_quiet_step (fail); refine wpQuiet_nil ?_)
        refine mix_loud rfl ?_
        go_wp2_with fail
        refine (picked_any lo hh wv W5 hw0' hw1' (by omega) (by omega) (by omega)).mono ?_
        rintro e W6 ⟨⟨pv, rfl, hp0, hp1⟩, h6⟩
        have X6 := ex_trans X5 h6
        have hm1 := mul_bd8 hd8 (b := pv) ⟨by omega, by omega⟩
        have hm2 := mul_le8 (p := pv) (h := hh) hd8.1 hp1
        have k1 : IntKind.i64.wrap (dd * pv) = dd * pv := IntWalk.i64_in _ (by omega)
        obtain ⟨pr, hpr⟩ : ∃ x, dd * pv = x := ⟨_, rfl⟩
        rw [hpr] at hm1 hm2 k1
        have HPR := Lib.hid hpr
        have k2 : IntKind.i64.wrap (nn + pr) = nn + pr := IntWalk.i64_in _ (by omega)
        have HN9 : Hid (0 ≤ nn + pr ∧ nn + pr ≤ brTo t dv (j + 1)) := Lib.hid ⟨by omega, by rw [hbs]; generalize dd * hh = z at *; omega⟩
        have k3 : IntKind.i64.wrap (dd * pv) = pr := by rw [HPR.out]; exact k1
        clear hbs hm1 hm2 hpr hbd hb9
        go_wp2_with fail
        refine ⟨inEx X6, ?_⟩
        repeat (refine mix_quiet rfl ?_; go_big_quiet_step (fail); refine wpQuiet_nil ?_)
        refine mix_nil (r := [_]) rfl ?_
        have hbw3 := ex_trans hbw2 X6
        clear a0 a1 a2 a3 la
        clear y0 q1' q2' s3
        skip
        go_wp2_with fail
        skip
        refine ⟨⟨⟨j + 1, by omega, nn + pr, HN9, hbw3, exFrame (by first | kernel_rfl | (rw [HPR.out]; kernel_rfl))⟩⟩, ?_⟩
        show t.rates.length - (intOf (.int .i64 ((j : Int) + 1))).toNat < t.rates.length - (intOf (.int .i64 (j : Int))).toNat
        simp [intOf]
        omega
      · obtain rfl : j = t.rates.length := by omega
        have hle : ¬ t.limit < nn := by have h1 := HNN.out.2; have h2 := HPT.out.2; omega
        have hbw9 := ex_trans (ex_trans hbw D10) hbw2
        go_wp2_with fail
        refine ⟨⟨⟨i + 1, by omega, hbw9, exFrame (by kernel_rfl)⟩⟩, ?_⟩
        show nx - (intOf (.int .i64 ((i : Int) + 1))).toNat < nx - (intOf (.int .i64 (i : Int))).toNat
        simp [intOf]
        omega
    obtain rfl : i = nx := by omega
    generalize W = Wl at *
    have B_Wl := B_W
    have NY := ex_alloc (Below.refl Wl.heap.size Wl) (.cells #[.slice Ar t.rates.length cr, .slice Ah t.hours.length ch, .int .i64 t.limit, .int .i64 t.most] 55)
    have qy : Blk (Wl.alloc (.cells #[.slice Ar t.rates.length cr, .slice Ah t.hours.length ch, .int .i64 t.limit, .int .i64 t.most] 55)) Wl.heap.size 55 #[.slice Ar t.rates.length cr, .slice Ah t.hours.length ch, .int .i64 t.limit, .int .i64 t.most] := Blk.new _ _ _
    have hp0 : pq0 < Wl.heap.size := q0.lt
    have q0z := Lib.hid q0
    have htmz := Lib.hid htm
    have hmatz := Lib.hid hmat
    go_upto_region 19 with fail
    clear a0 a1 a2 a3 la
    obtain ⟨py, hpy⟩ : ∃ p, Wl.heap.size = p := ⟨_, rfl⟩
    rw [hpy] at qy hp0 ⊢
    have hpy0 : Wl.heap.size ≤ py := by omega
    clear hpy
    have q0e := q0.below NY q0.lt
    have htme := htm.go NY
    generalize Wl.alloc (.cells #[.slice Ar t.rates.length cr, .slice Ah t.hours.length ch, .int .i64 t.limit, .int .i64 t.most] 55) = Ve at *
    obtain ⟨B0, hB0⟩ : ∃ b, Ve.heap.size = b := ⟨_, rfl⟩
    have HB0 := Lib.hid hB0
    have hpB : py < B0 := by have := qy.lt; omega
    clear hB0
    rename_i Q' K hK
    have hrest5 : ∀ (W : World) (B1 B2 : Option Addr) (k1 k2 : Nat) (a : Act), Fr (fun b => b = py) Ve W → Blk W py 55 #[.slice B1 t.rates.length k1, .slice B2 t.hours.length k2, .int .i64 t.limit, .int .i64 t.most] → W.ownsRow B0 52 2 (.slice B1 t.rates.length k1) t.rates.length (t.rates.flatMap cR2) → W.ownsRow B0 3 1 (.slice B2 t.hours.length k2) t.hours.length (t.hours.flatMap cI1) → (∃ u : Nat → Value, a = ⟨List.toArray (u 0 :: u 1 :: .slice AW ws.length cW :: .int .u8 m3 :: .int .u8 m4 :: .pointer (some ⟨pq0, 0, none⟩) :: u 6 :: u 7 :: u 8 :: u 9 :: u 10 :: .slice Ax i cx :: .int .i64 0 :: u 13 :: u 14 :: u 15 :: .pointer (some ⟨py, 0, none⟩) :: u 17 :: u 18 :: u 19 :: u 20 :: u 21 :: u 22 :: u 23 :: u 24 :: u 25 :: u 26 :: u 27 :: u 28 :: u 29 :: u 30 :: u 31 :: u 32 :: u 33 :: u 34 :: u 35 :: u 36 :: u 37 :: u 38 :: u 39 :: u 40 :: u 41 :: u 42 :: u 43 :: u 44 :: u 45 :: u 46 :: u 47 :: u 48 :: u 49 :: u 50 :: u 51 :: u 52 :: u 53 :: u 54 :: u 55 :: u 56 :: u 57 :: u 58 :: u 59 :: u 60 :: u 61 :: u 62 :: u 63 :: u 64 :: u 65 :: u 66 :: u 67 :: u 68 :: u 69 :: u 70 :: u 71 :: u 72 :: u 73 :: u 74 :: u 75 :: u 76 :: u 77 :: u 78 :: u 79 :: u 80 :: u 81 :: u 82 :: u 83 :: u 84 :: u 85 :: u 86 :: u 87 :: u 88 :: u 89 :: u 90 :: u 91 :: u 92 :: u 93 :: u 94 :: u 95 :: u 96 :: u 97 :: u 98 :: u 99 :: u 100 :: u 101 :: u 102 :: u 103 :: u 104 :: u 105 :: u 106 :: u 107 :: u 108 :: u 109 :: u 110 :: u 111 :: u 112 :: u 113 :: u 114 :: u 115 :: u 116 :: u 117 :: u 118 :: u 119 :: u 120 :: u 121 :: u 122 :: u 123 :: u 124 :: u 125 :: u 126 :: u 127 :: u 128 :: u 129 :: u 130 :: u 131 :: u 132 :: u 133 :: u 134 :: u 135 :: u 136 :: u 137 :: u 138 :: u 139 :: u 140 :: u 141 :: u 142 :: u 143 :: u 144 :: u 145 :: u 146 :: u 147 :: u 148 :: u 149 :: u 150 :: u 151 :: u 152 :: u 153 :: u 154 :: u 155 :: u 156 :: u 157 :: u 158 :: u 159 :: u 160 :: u 161 :: u 162 :: u 163 :: u 164 :: u 165 :: u 166 :: u 167 :: u 168 :: u 169 :: u 170 :: u 171 :: u 172 :: u 173 :: u 174 :: u 175 :: u 176 :: u 177 :: u 178 :: u 179 :: u 180 :: u 181 :: u 182 :: u 183 :: u 184 :: u 185 :: u 186 :: u 187 :: u 188 :: u 189 :: u 190 :: u 191 :: u 192 :: u 193 :: u 194 :: u 195 :: u 196 :: u 197 :: u 198 :: u 199 :: u 200 :: u 201 :: u 202 :: u 203 :: u 204 :: u 205 :: u 206 :: u 207 :: u 208 :: u 209 :: u 210 :: u 211 :: u 212 :: u 213 :: u 214 :: u 215 :: u 216 :: u 217 :: u 218 :: u 219 :: u 220 :: []), []⟩) → K a W := by
      clear qy
      rintro W B1 B2 k1 k2 a hF qy o1 o2 ⟨u, rfl⟩
      refine hK _ _ ?_
      clear hK
      have N6 := hF.toBelow NY NY.size (fun x hx => by omega)
      have hz6 : B0 ≤ W.heap.size := by have := hF.size; have := HB0.out; omega
      clear q0e htme hF NY
      replace htm := htm.go N6
      replace hL := hL.go N6
      replace hwd := (hwd.below N6).up N6.size
      replace q0 := q0.below N6 q0.lt
      replace hmat := hmat.go N6
      have B_W := ex_trans B_Wl N6
      have a0 : W.cell? ⟨pq0, 0, none⟩ = some (.slice Ar t.rates.length cr) := q0.cell 0
      have a1 : W.cell? ⟨pq0, 1, none⟩ = some (.slice Ah t.hours.length ch) := q0.cell 1
      have a2 : W.cell? ⟨pq0, 2, none⟩ = some (.int .i64 t.limit) := q0.cell 2
      have a3 : W.cell? ⟨pq0, 3, none⟩ = some (.int .i64 t.most) := q0.cell 3
      have la := q0.lt
      have y0 : W.cell? ⟨py, 0, none⟩ = some (.slice B1 t.rates.length k1) := qy.cell 0
      have y1 : W.cell? ⟨py, 1, none⟩ = some (.slice B2 t.hours.length k2) := qy.cell 1
      have y2 : W.cell? ⟨py, 2, none⟩ = some (.int .i64 t.limit) := qy.cell 2
      have y3 : W.cell? ⟨py, 3, none⟩ = some (.int .i64 t.most) := qy.cell 3
      have ly := qy.lt
      have m40 : 0 ≤ m4 ∧ m4 ≤ 255 := h4
      have m30 : 0 ≤ m3 ∧ m3 ≤ 255 := h3
      have kk_0 : 0 ≤ (m4 : Int) % (t.rates.length : Int) := Int.emod_nonneg _ (by omega)
      have kk_1 : (m4 : Int) % (t.rates.length : Int) < (t.rates.length : Int) := Int.emod_lt_of_pos _ (by omega)
      obtain ⟨kk, eq_kk⟩ : ∃ x : Nat, (m4 : Int) % (t.rates.length : Int) = (x : Int) := ⟨((m4 : Int) % (t.rates.length : Int)).toNat, by omega⟩
      have lkk : kk < t.rates.length := by omega
      have hn0 : ¬ (t.rates.length : Int) = 0 := by omega
      have hn0' : ((t.rates.length : Int) == 0) = false := by rw [beq_eq_false_iff_ne]; exact hn0
      have HKK := Lib.hid eq_kk
      clear eq_kk
      go_upto_region 21 with fail
      rw [HKK.out]
      by_cases c0 : m3 % 4 = 0
      · have e0 : (m3 % 4 == 0) = true := by rw [c0]; rfl
        clear c0
        have hlm := HT.out.limit
        have kw1 : IntKind.i64.wrap (t.limit + m4) = t.limit + m4 := IntWalk.i64_in _ (by omega)
        have hq2 := qy.set_ 2 (.int .i64 (min 1000 (t.limit + m4)))
        simp only [List.setIfInBounds_toArray, List.set_cons_zero, List.set_cons_succ] at hq2
        have fy := qy.frozen0
        have o1' := own_far o1 (p := ⟨py, 2, none⟩) (by show py < B0; omega) (.int .i64 (min 1000 (t.limit + m4)))
        have o2' := own_far o2 (p := ⟨py, 2, none⟩) (by show py < B0; omega) (.int .i64 (min 1000 (t.limit + m4)))
        have hN : Below Wl.heap.size Wl (W.setCell ⟨py, 2, none⟩ (.int .i64 (min 1000 (t.limit + m4)))) := ex_set N6 (by show Wl.heap.size ≤ py; omega) _
        go_upto_region 29 with fail
        clear a0 a1 a2 a3 la
        clear y0 y1 y2 y3 ly
        clear fy qy o1 o2
        generalize W.setCell ⟨py, 2, none⟩ (.int .i64 (min 1000 (t.limit + m4))) = Wn at *
        replace q0 := q0z.out.below hN q0z.out.lt
        replace htm := htmz.out.go hN
        replace hmat := hmatz.out.go hN
        have B_Wn := ex_trans B_Wl hN
        obtain ⟨A6', c6', e6, _, _, ro1⟩ := lay_Rg 52 o1'
        injection e6 with e61 e60 e62
        subst e61 e62
        obtain ⟨A7', c7', e7, _, _, ro2⟩ := lay_ints o2'
        injection e7 with e71 e70 e72
        subst e71 e72
        have hxt : TmIn Wn Wn.heap.size (⟨t.rates, t.hours, min 1000 (t.limit + m4), t.most⟩ : Tm) B1 B2 := ⟨ro1.sl, ro2.sl⟩
        clear ro1 ro2 e60 e70
        have a0 : Wn.cell? ⟨pq0, 0, none⟩ = some (.slice Ar t.rates.length cr) := q0.cell 0
        have a1 : Wn.cell? ⟨pq0, 1, none⟩ = some (.slice Ah t.hours.length ch) := q0.cell 1
        have a2 : Wn.cell? ⟨pq0, 2, none⟩ = some (.int .i64 t.limit) := q0.cell 2
        have a3 : Wn.cell? ⟨pq0, 3, none⟩ = some (.int .i64 t.most) := q0.cell 3
        have la := q0.lt
        have y0 : Wn.cell? ⟨py, 0, none⟩ = some (.slice B1 t.rates.length k1) := hq2.cell 0
        have y1 : Wn.cell? ⟨py, 1, none⟩ = some (.slice B2 t.hours.length k2) := hq2.cell 1
        have y2 : Wn.cell? ⟨py, 2, none⟩ = some (.int .i64 (min 1000 (t.limit + m4))) := hq2.cell 2
        have y3 : Wn.cell? ⟨py, 3, none⟩ = some (.int .i64 t.most) := hq2.cell 3
        have ly := hq2.lt
        have HEA : Hid (Easier t (⟨t.rates, t.hours, min 1000 (t.limit + m4), t.most⟩ : Tm)) := Lib.hid (easy_lim HT.out (b := m4) h4.1)
        have HSX : Hid ((⟨t.rates, t.hours, min 1000 (t.limit + m4), t.most⟩ : Tm).rates.length ≤ 1000 ∧ (⟨t.rates, t.hours, min 1000 (t.limit + m4), t.most⟩ : Tm).hours.length ≤ 1000) := Lib.hid (by have h1 := HEA.out.ok.len; omega)
        go_wp2_with fail
        refine (Team_any (⟨t.rates, t.hours, min 1000 (t.limit + m4), t.most⟩ : Tm) B1 B2 k1 k2 Wn hxt HSX.out).mono ?_
        rintro e V9 ⟨⟨⟨Ar7, Ah7, cr7, ch7, rfl, ht7⟩⟩, hV9⟩
        replace q0 := q0.below hV9 q0.lt
        replace htm := htm.go hV9
        replace hmat := hmat.go hV9
        replace hq2 := hq2.below hV9 hq2.lt
        replace hxt := hxt.go hV9
        have B_V9 := ex_trans B_Wn hV9
        clear hxt
        clear a0 a1 a2 a3 la
        have a0 : V9.cell? ⟨pq0, 0, none⟩ = some (.slice Ar t.rates.length cr) := q0.cell 0
        have a1 : V9.cell? ⟨pq0, 1, none⟩ = some (.slice Ah t.hours.length ch) := q0.cell 1
        have a2 : V9.cell? ⟨pq0, 2, none⟩ = some (.int .i64 t.limit) := q0.cell 2
        have a3 : V9.cell? ⟨pq0, 3, none⟩ = some (.int .i64 t.most) := q0.cell 3
        have la := q0.lt
        go_wp2_with fail
        refine (Roster_any (⟨t.rates, t.hours, min 1000 (t.limit + m4), t.most⟩ : Tm) Ar7 Ah7 cr7 ch7 V9 ht7 HSX.out).mono ?_
        rintro e V10 ⟨⟨⟨Am, nm, cm, rfl, hyes2, hno2⟩⟩, hV10⟩
        replace q0 := q0.below hV10 q0.lt
        replace htm := htm.go hV10
        replace hmat := hmat.go hV10
        replace hq2 := hq2.below hV10 hq2.lt
        replace ht7 := ht7.go hV10
        have B_V10 := ex_trans B_V9 hV10
        clear ht7
        clear a0 a1 a2 a3 la
        have a0 : V10.cell? ⟨pq0, 0, none⟩ = some (.slice Ar t.rates.length cr) := q0.cell 0
        have a1 : V10.cell? ⟨pq0, 1, none⟩ = some (.slice Ah t.hours.length ch) := q0.cell 1
        have a2 : V10.cell? ⟨pq0, 2, none⟩ = some (.int .i64 t.limit) := q0.cell 2
        have a3 : V10.cell? ⟨pq0, 3, none⟩ = some (.int .i64 t.most) := q0.cell 3
        have la := q0.lt
        have hf6 := HEA.out.few H6.out
        have hro := roE_ok HEA.out.ok (Nat.le_trans hf6 H6.out)
        obtain ⟨Ls2, rA2, rc2, hn9, hn8, hch2, hmat2⟩ := hyes2 hro
        rw [hro]
        have hnm : nm ≤ i := by rw [hn8, HN2.out]; exact hf6
        clear hyes2 hno2 hn9 hn8 hch2 hmat2 hro hf6
        have hnm' : (nm : Int) ≤ (i : Int) := by omega
        go_wp2_with fail
        refine (Team_any t Ar Ah cr ch V10 htm HSM.out).mono ?_
        rintro e V11 ⟨⟨⟨Ar8, Ah8, cr8, ch8, rfl, ht8⟩⟩, hV11⟩
        replace q0 := q0.below hV11 q0.lt
        replace htm := htm.go hV11
        replace hmat := hmat.go hV11
        replace hq2 := hq2.below hV11 hq2.lt
        have B_V11 := ex_trans B_V10 hV11
        clear a0 a1 a2 a3 la
        have a0 : V11.cell? ⟨pq0, 0, none⟩ = some (.slice Ar t.rates.length cr) := q0.cell 0
        have a1 : V11.cell? ⟨pq0, 1, none⟩ = some (.slice Ah t.hours.length ch) := q0.cell 1
        have a2 : V11.cell? ⟨pq0, 2, none⟩ = some (.int .i64 t.limit) := q0.cell 2
        have a3 : V11.cell? ⟨pq0, 3, none⟩ = some (.int .i64 t.most) := q0.cell 3
        have la := q0.lt
        have hmt := hmat
        rw [HLs.out] at hmt
        have hlis := MatIn.lis HT.out.len.2.1 hmt
        clear hmt
        have HIR := ProveR_any t Ar8 Ah8 cr8 ch8 V11 ht8 HSM.out (rosL t Ls) Ax cx rAx rcx hlis ⟨by rw [rosL_len, ← HLs.out]; omega, rosL_rows HT.out.len.2.1⟩ (i : Int)
        rw [rosL_len, ← HLs.out, chain_prove HT.out HCH.out (by rw [← HLs.out]; exact hx6) (by rw [← HLs.out]; exact Int.le_refl _)] at HIR
        go_wp2_with fail
        refine HIR.mono ?_
        rintro e V12 ⟨rfl, hV12⟩
        clear HIR hlis
        clear ht8
        replace q0 := q0.below hV12 q0.lt
        replace htm := htm.go hV12
        replace hmat := hmat.go hV12
        replace hq2 := hq2.below hV12 hq2.lt
        have B_V12 := ex_trans B_V11 hV12
        go_wp2_with fail
        refine (awake_any V12).mono ?_
        rintro e Wz ⟨rfl, hz⟩
        go_wp2
        go_ret
        exact ⟨rfl, ex_trans B_V12 hz⟩
      have e0 : (m3 % 4 == 0) = false := by rw [beq_eq_false_iff_ne]; exact c0
      by_cases c1 : m3 % 4 = 1
      · have e1 : (m3 % 4 == 1) = true := by rw [c1]; rfl
        clear c1 c0
        have hlm := HT.out.most
        have kw1 : IntKind.i64.wrap (t.most + 1) = t.most + 1 := IntWalk.i64_in _ (by omega)
        have hq2 := qy.set_ 3 (.int .i64 (min 8 (t.most + 1)))
        simp only [List.setIfInBounds_toArray, List.set_cons_zero, List.set_cons_succ] at hq2
        have fy := qy.frozen0
        have o1' := own_far o1 (p := ⟨py, 3, none⟩) (by show py < B0; omega) (.int .i64 (min 8 (t.most + 1)))
        have o2' := own_far o2 (p := ⟨py, 3, none⟩) (by show py < B0; omega) (.int .i64 (min 8 (t.most + 1)))
        have hN : Below Wl.heap.size Wl (W.setCell ⟨py, 3, none⟩ (.int .i64 (min 8 (t.most + 1)))) := ex_set N6 (by show Wl.heap.size ≤ py; omega) _
        go_upto_region 29 with fail
        clear a0 a1 a2 a3 la
        clear y0 y1 y2 y3 ly
        clear fy qy o1 o2
        generalize W.setCell ⟨py, 3, none⟩ (.int .i64 (min 8 (t.most + 1))) = Wn at *
        replace q0 := q0z.out.below hN q0z.out.lt
        replace htm := htmz.out.go hN
        replace hmat := hmatz.out.go hN
        have B_Wn := ex_trans B_Wl hN
        obtain ⟨A6', c6', e6, _, _, ro1⟩ := lay_Rg 52 o1'
        injection e6 with e61 e60 e62
        subst e61 e62
        obtain ⟨A7', c7', e7, _, _, ro2⟩ := lay_ints o2'
        injection e7 with e71 e70 e72
        subst e71 e72
        have hxt : TmIn Wn Wn.heap.size (⟨t.rates, t.hours, t.limit, min 8 (t.most + 1)⟩ : Tm) B1 B2 := ⟨ro1.sl, ro2.sl⟩
        clear ro1 ro2 e60 e70
        have a0 : Wn.cell? ⟨pq0, 0, none⟩ = some (.slice Ar t.rates.length cr) := q0.cell 0
        have a1 : Wn.cell? ⟨pq0, 1, none⟩ = some (.slice Ah t.hours.length ch) := q0.cell 1
        have a2 : Wn.cell? ⟨pq0, 2, none⟩ = some (.int .i64 t.limit) := q0.cell 2
        have a3 : Wn.cell? ⟨pq0, 3, none⟩ = some (.int .i64 t.most) := q0.cell 3
        have la := q0.lt
        have y0 : Wn.cell? ⟨py, 0, none⟩ = some (.slice B1 t.rates.length k1) := hq2.cell 0
        have y1 : Wn.cell? ⟨py, 1, none⟩ = some (.slice B2 t.hours.length k2) := hq2.cell 1
        have y2 : Wn.cell? ⟨py, 2, none⟩ = some (.int .i64 t.limit) := hq2.cell 2
        have y3 : Wn.cell? ⟨py, 3, none⟩ = some (.int .i64 (min 8 (t.most + 1))) := hq2.cell 3
        have ly := hq2.lt
        have HEA : Hid (Easier t (⟨t.rates, t.hours, t.limit, min 8 (t.most + 1)⟩ : Tm)) := Lib.hid (easy_most HT.out)
        have HSX : Hid ((⟨t.rates, t.hours, t.limit, min 8 (t.most + 1)⟩ : Tm).rates.length ≤ 1000 ∧ (⟨t.rates, t.hours, t.limit, min 8 (t.most + 1)⟩ : Tm).hours.length ≤ 1000) := Lib.hid (by have h1 := HEA.out.ok.len; omega)
        go_wp2_with fail
        refine (Team_any (⟨t.rates, t.hours, t.limit, min 8 (t.most + 1)⟩ : Tm) B1 B2 k1 k2 Wn hxt HSX.out).mono ?_
        rintro e V13 ⟨⟨⟨Ar7, Ah7, cr7, ch7, rfl, ht7⟩⟩, hV13⟩
        replace q0 := q0.below hV13 q0.lt
        replace htm := htm.go hV13
        replace hmat := hmat.go hV13
        replace hq2 := hq2.below hV13 hq2.lt
        replace hxt := hxt.go hV13
        have B_V13 := ex_trans B_Wn hV13
        clear hxt
        clear a0 a1 a2 a3 la
        have a0 : V13.cell? ⟨pq0, 0, none⟩ = some (.slice Ar t.rates.length cr) := q0.cell 0
        have a1 : V13.cell? ⟨pq0, 1, none⟩ = some (.slice Ah t.hours.length ch) := q0.cell 1
        have a2 : V13.cell? ⟨pq0, 2, none⟩ = some (.int .i64 t.limit) := q0.cell 2
        have a3 : V13.cell? ⟨pq0, 3, none⟩ = some (.int .i64 t.most) := q0.cell 3
        have la := q0.lt
        go_wp2_with fail
        refine (Roster_any (⟨t.rates, t.hours, t.limit, min 8 (t.most + 1)⟩ : Tm) Ar7 Ah7 cr7 ch7 V13 ht7 HSX.out).mono ?_
        rintro e V14 ⟨⟨⟨Am, nm, cm, rfl, hyes2, hno2⟩⟩, hV14⟩
        replace q0 := q0.below hV14 q0.lt
        replace htm := htm.go hV14
        replace hmat := hmat.go hV14
        replace hq2 := hq2.below hV14 hq2.lt
        replace ht7 := ht7.go hV14
        have B_V14 := ex_trans B_V13 hV14
        clear ht7
        clear a0 a1 a2 a3 la
        have a0 : V14.cell? ⟨pq0, 0, none⟩ = some (.slice Ar t.rates.length cr) := q0.cell 0
        have a1 : V14.cell? ⟨pq0, 1, none⟩ = some (.slice Ah t.hours.length ch) := q0.cell 1
        have a2 : V14.cell? ⟨pq0, 2, none⟩ = some (.int .i64 t.limit) := q0.cell 2
        have a3 : V14.cell? ⟨pq0, 3, none⟩ = some (.int .i64 t.most) := q0.cell 3
        have la := q0.lt
        have hf6 := HEA.out.few H6.out
        have hro := roE_ok HEA.out.ok (Nat.le_trans hf6 H6.out)
        obtain ⟨Ls2, rA2, rc2, hn9, hn8, hch2, hmat2⟩ := hyes2 hro
        rw [hro]
        have hnm : nm ≤ i := by rw [hn8, HN2.out]; exact hf6
        clear hyes2 hno2 hn9 hn8 hch2 hmat2 hro hf6
        have hnm' : (nm : Int) ≤ (i : Int) := by omega
        go_wp2_with fail
        refine (Team_any t Ar Ah cr ch V14 htm HSM.out).mono ?_
        rintro e V15 ⟨⟨⟨Ar8, Ah8, cr8, ch8, rfl, ht8⟩⟩, hV15⟩
        replace q0 := q0.below hV15 q0.lt
        replace htm := htm.go hV15
        replace hmat := hmat.go hV15
        replace hq2 := hq2.below hV15 hq2.lt
        have B_V15 := ex_trans B_V14 hV15
        clear a0 a1 a2 a3 la
        have a0 : V15.cell? ⟨pq0, 0, none⟩ = some (.slice Ar t.rates.length cr) := q0.cell 0
        have a1 : V15.cell? ⟨pq0, 1, none⟩ = some (.slice Ah t.hours.length ch) := q0.cell 1
        have a2 : V15.cell? ⟨pq0, 2, none⟩ = some (.int .i64 t.limit) := q0.cell 2
        have a3 : V15.cell? ⟨pq0, 3, none⟩ = some (.int .i64 t.most) := q0.cell 3
        have la := q0.lt
        have hmt := hmat
        rw [HLs.out] at hmt
        have hlis := MatIn.lis HT.out.len.2.1 hmt
        clear hmt
        have HIR := ProveR_any t Ar8 Ah8 cr8 ch8 V15 ht8 HSM.out (rosL t Ls) Ax cx rAx rcx hlis ⟨by rw [rosL_len, ← HLs.out]; omega, rosL_rows HT.out.len.2.1⟩ (i : Int)
        rw [rosL_len, ← HLs.out, chain_prove HT.out HCH.out (by rw [← HLs.out]; exact hx6) (by rw [← HLs.out]; exact Int.le_refl _)] at HIR
        go_wp2_with fail
        refine HIR.mono ?_
        rintro e V16 ⟨rfl, hV16⟩
        clear HIR hlis
        clear ht8
        replace q0 := q0.below hV16 q0.lt
        replace htm := htm.go hV16
        replace hmat := hmat.go hV16
        replace hq2 := hq2.below hV16 hq2.lt
        have B_V16 := ex_trans B_V15 hV16
        go_wp2_with fail
        refine (awake_any V16).mono ?_
        rintro e Wz ⟨rfl, hz⟩
        go_wp2
        go_ret
        exact ⟨rfl, ex_trans B_V16 hz⟩
      have e1 : (m3 % 4 == 1) = false := by rw [beq_eq_false_iff_ne]; exact c1
      by_cases c2 : m3 % 4 = 2
      · have e2 : (m3 % 4 == 2) = true := by rw [c2]; rfl
        clear c2 c1 c0
        have lkh : kk < t.hours.length := by rw [HHL.out]; exact lkk
        have lkh' : (kk : Int) < (t.hours.length : Int) := by omega
        obtain ⟨g, cap, ev, hgB, hgW, hcl, hfz⟩ := row_at (f := cI1) (sz := 1) (fun _ => rfl) (by omega) o2 lkh
        injection ev with ev1 ev2 ev3
        clear ev2
        subst ev1 ev3
        have c9 : W.cell? ⟨g, kk, none⟩ = some (.int .i64 (gI t.hours kk)) := by have := hcl 0 (by omega); rw [show kk * 1 + 0 = kk by omega] at this; rw [this]; simp [cI1, gI, lkh]
        have f9 := hfz kk
        have hh8 := HT.out.hour kk lkk
        obtain ⟨hv, hhv⟩ : ∃ x, gI t.hours kk = x := ⟨_, rfl⟩
        rw [hhv] at c9 hh8
        have HHV := Lib.hid hhv
        have kw1 : IntKind.i64.wrap (hv - 1) = hv - 1 := IntWalk.i64_in _ (by omega)
        have op := row_put (f := cI1) (sz := 1) (fun _ => rfl) o2 (g := g) rfl lkh (j := 0) (by omega) (u := .int .i64 (max 0 (hv - 1))) (a := max 0 (hv - 1)) rfl
        rw [show kk * 1 + 0 = kk by omega] at op
        clear hcl hfz hhv
        clear y1
        have y1 : W.cell? ⟨py, 1, none⟩ = some (.slice (some ⟨g, 0, none⟩) t.hours.length k2) := qy.cell 1
        have o1' := own_below (own_fr o1 (Fr.set (R := fun x => x = g) W g kk (.int .i64 (max 0 (hv - 1))) rfl) (fun b hb e => own_ownne o1 o2 (by decide) hb (by rw [show b = g from e]; rfl))) (Below.refl _ _).drew
        have o2' := own_below op (Below.refl _ _).drew
        have hqy' := (qy.far (p := ⟨g, kk, none⟩) (by show py ≠ g; omega) (.int .i64 (max 0 (hv - 1)))).below (Below.refl _ _).drew (qy.far (p := ⟨g, kk, none⟩) (by show py ≠ g; omega) (.int .i64 (max 0 (hv - 1)))).lt
        have hN : Below Wl.heap.size Wl (W.setCell ⟨g, kk, none⟩ (.int .i64 (max 0 (hv - 1)))).drew := (ex_set N6 (p := ⟨g, kk, none⟩) (by show Wl.heap.size ≤ g; omega) (.int .i64 (max 0 (hv - 1)))).drew
        go_upto_region 28 with fail
        have D28 := (Below.refl W.heap.size W).drew
        refine wp_region_ext_mix 11 [(false, 0), (false, 1), (false, 2), (false, 3), (false, 4), (false, 5), (false, 6), (false, 7), (false, 8), (true, 9), (false, 10)] (by kernel_rfl) (by kernel_rfl) (by intro d _ _ _ _ h; cases d <;> exact h) ?_
        repeat (refine mix_quiet rfl ?_; go_big_quiet_step (fail); refine wpQuiet_nil ?_)
        refine mix_loud rfl ?_
        go_wp2_with fail
        refine ⟨inEx D28, ?_⟩
        repeat (refine mix_quiet rfl ?_; go_big_quiet_step (fail); refine wpQuiet_nil ?_)
        refine mix_nil (r := [_]) rfl ?_
        go_upto_region 29 with fail
        clear a0 a1 a2 a3 la
        clear y0 y1 y2 y3 ly
        clear c9 f9 qy o1 o2 op D28
        generalize (W.setCell ⟨g, kk, none⟩ (.int .i64 (max 0 (hv - 1)))).drew = Wn at *
        have HH2 : Hid (t.hours.set kk (max 0 (gI t.hours kk - 1)) = t.hours.set kk (max 0 (hv - 1))) := Lib.hid (by rw [HHV.out])
        obtain ⟨H2, hH2⟩ : ∃ H2, t.hours.set kk (max 0 (hv - 1)) = H2 := ⟨_, rfl⟩
        rw [hH2] at o2' HH2
        have hl2 : t.hours.length = H2.length := by rw [← hH2, List.length_set]
        rw [hl2] at hqy'
        have HL2 := Lib.hid hl2
        clear hH2 hl2
        replace q0 := q0z.out.below hN q0z.out.lt
        replace htm := htmz.out.go hN
        replace hmat := hmatz.out.go hN
        have B_Wn := ex_trans B_Wl hN
        obtain ⟨A6', c6', e6, _, _, ro1⟩ := lay_Rg 52 o1'
        injection e6 with e61 e60 e62
        subst e61 e62
        obtain ⟨A7', c7', e7, _, _, ro2⟩ := lay_ints o2'
        injection e7 with e71 e70 e72
        subst e71 e72
        have hxt : TmIn Wn Wn.heap.size (⟨t.rates, H2, t.limit, t.most⟩ : Tm) B1 (some ⟨g, 0, none⟩) := ⟨ro1.sl, ro2.sl⟩
        clear ro1 ro2 e60 e70
        have a0 : Wn.cell? ⟨pq0, 0, none⟩ = some (.slice Ar t.rates.length cr) := q0.cell 0
        have a1 : Wn.cell? ⟨pq0, 1, none⟩ = some (.slice Ah t.hours.length ch) := q0.cell 1
        have a2 : Wn.cell? ⟨pq0, 2, none⟩ = some (.int .i64 t.limit) := q0.cell 2
        have a3 : Wn.cell? ⟨pq0, 3, none⟩ = some (.int .i64 t.most) := q0.cell 3
        have la := q0.lt
        have y0 : Wn.cell? ⟨py, 0, none⟩ = some (.slice B1 t.rates.length k1) := hqy'.cell 0
        have y1 : Wn.cell? ⟨py, 1, none⟩ = some (.slice (some ⟨g, 0, none⟩) H2.length k2) := hqy'.cell 1
        have y2 : Wn.cell? ⟨py, 2, none⟩ = some (.int .i64 t.limit) := hqy'.cell 2
        have y3 : Wn.cell? ⟨py, 3, none⟩ = some (.int .i64 t.most) := hqy'.cell 3
        have ly := hqy'.lt
        have HEA : Hid (Easier t (⟨t.rates, H2, t.limit, t.most⟩ : Tm)) := Lib.hid (by have h := easy_hour HT.out lkk; unfold tHour at h; rw [HH2.out] at h; exact h)
        have HSX : Hid ((⟨t.rates, H2, t.limit, t.most⟩ : Tm).rates.length ≤ 1000 ∧ (⟨t.rates, H2, t.limit, t.most⟩ : Tm).hours.length ≤ 1000) := Lib.hid (by have h1 := HEA.out.ok.len; omega)
        go_wp2_with fail
        refine (Team_any (⟨t.rates, H2, t.limit, t.most⟩ : Tm) B1 (some ⟨g, 0, none⟩) k1 k2 Wn hxt HSX.out).mono ?_
        rintro e V17 ⟨⟨⟨Ar7, Ah7, cr7, ch7, rfl, ht7⟩⟩, hV17⟩
        replace q0 := q0.below hV17 q0.lt
        replace htm := htm.go hV17
        replace hmat := hmat.go hV17
        replace hqy' := hqy'.below hV17 hqy'.lt
        replace hxt := hxt.go hV17
        have B_V17 := ex_trans B_Wn hV17
        clear hxt
        clear a0 a1 a2 a3 la
        have a0 : V17.cell? ⟨pq0, 0, none⟩ = some (.slice Ar t.rates.length cr) := q0.cell 0
        have a1 : V17.cell? ⟨pq0, 1, none⟩ = some (.slice Ah t.hours.length ch) := q0.cell 1
        have a2 : V17.cell? ⟨pq0, 2, none⟩ = some (.int .i64 t.limit) := q0.cell 2
        have a3 : V17.cell? ⟨pq0, 3, none⟩ = some (.int .i64 t.most) := q0.cell 3
        have la := q0.lt
        go_wp2_with fail
        refine (Roster_any (⟨t.rates, H2, t.limit, t.most⟩ : Tm) Ar7 Ah7 cr7 ch7 V17 ht7 HSX.out).mono ?_
        rintro e V18 ⟨⟨⟨Am, nm, cm, rfl, hyes2, hno2⟩⟩, hV18⟩
        replace q0 := q0.below hV18 q0.lt
        replace htm := htm.go hV18
        replace hmat := hmat.go hV18
        replace hqy' := hqy'.below hV18 hqy'.lt
        replace ht7 := ht7.go hV18
        have B_V18 := ex_trans B_V17 hV18
        clear ht7
        clear a0 a1 a2 a3 la
        have a0 : V18.cell? ⟨pq0, 0, none⟩ = some (.slice Ar t.rates.length cr) := q0.cell 0
        have a1 : V18.cell? ⟨pq0, 1, none⟩ = some (.slice Ah t.hours.length ch) := q0.cell 1
        have a2 : V18.cell? ⟨pq0, 2, none⟩ = some (.int .i64 t.limit) := q0.cell 2
        have a3 : V18.cell? ⟨pq0, 3, none⟩ = some (.int .i64 t.most) := q0.cell 3
        have la := q0.lt
        have hf6 := HEA.out.few H6.out
        have hro := roE_ok HEA.out.ok (Nat.le_trans hf6 H6.out)
        obtain ⟨Ls2, rA2, rc2, hn9, hn8, hch2, hmat2⟩ := hyes2 hro
        rw [hro]
        have hnm : nm ≤ i := by rw [hn8, HN2.out]; exact hf6
        clear hyes2 hno2 hn9 hn8 hch2 hmat2 hro hf6
        have hnm' : (nm : Int) ≤ (i : Int) := by omega
        go_wp2_with fail
        refine (Team_any t Ar Ah cr ch V18 htm HSM.out).mono ?_
        rintro e V19 ⟨⟨⟨Ar8, Ah8, cr8, ch8, rfl, ht8⟩⟩, hV19⟩
        replace q0 := q0.below hV19 q0.lt
        replace htm := htm.go hV19
        replace hmat := hmat.go hV19
        replace hqy' := hqy'.below hV19 hqy'.lt
        have B_V19 := ex_trans B_V18 hV19
        clear a0 a1 a2 a3 la
        have a0 : V19.cell? ⟨pq0, 0, none⟩ = some (.slice Ar t.rates.length cr) := q0.cell 0
        have a1 : V19.cell? ⟨pq0, 1, none⟩ = some (.slice Ah t.hours.length ch) := q0.cell 1
        have a2 : V19.cell? ⟨pq0, 2, none⟩ = some (.int .i64 t.limit) := q0.cell 2
        have a3 : V19.cell? ⟨pq0, 3, none⟩ = some (.int .i64 t.most) := q0.cell 3
        have la := q0.lt
        have hmt := hmat
        rw [HLs.out] at hmt
        have hlis := MatIn.lis HT.out.len.2.1 hmt
        clear hmt
        have HIR := ProveR_any t Ar8 Ah8 cr8 ch8 V19 ht8 HSM.out (rosL t Ls) Ax cx rAx rcx hlis ⟨by rw [rosL_len, ← HLs.out]; omega, rosL_rows HT.out.len.2.1⟩ (i : Int)
        rw [rosL_len, ← HLs.out, chain_prove HT.out HCH.out (by rw [← HLs.out]; exact hx6) (by rw [← HLs.out]; exact Int.le_refl _)] at HIR
        go_wp2_with fail
        refine HIR.mono ?_
        rintro e V20 ⟨rfl, hV20⟩
        clear HIR hlis
        clear ht8
        replace q0 := q0.below hV20 q0.lt
        replace htm := htm.go hV20
        replace hmat := hmat.go hV20
        replace hqy' := hqy'.below hV20 hqy'.lt
        have B_V20 := ex_trans B_V19 hV20
        go_wp2_with fail
        refine (awake_any V20).mono ?_
        rintro e Wz ⟨rfl, hz⟩
        go_wp2
        go_ret
        exact ⟨rfl, ex_trans B_V20 hz⟩
      have e2 : (m3 % 4 == 2) = false := by rw [beq_eq_false_iff_ne]; exact c2
      clear c2 c1 c0
      · have lkk' : (kk : Int) < (t.rates.length : Int) := by omega
        obtain ⟨g, cap, ev, hgB, hgW, hcl, hfz⟩ := row_at (f := cR2) (sz := 2) (fun _ => rfl) (by omega) o1 lkk
        injection ev with ev1 ev2 ev3
        clear ev2
        subst ev1 ev3
        have hg : gR t.rates kk = t.rates[kk] := by simp [gR, lkk]
        have c8 : W.cell? ⟨g, kk * 2, none⟩ = some (.int .i64 (gR t.rates kk).lo) := by have := hcl 0 (by omega); rw [Nat.add_zero] at this; rw [this, hg]; rfl
        have c9 : W.cell? ⟨g, kk * 2 + 1, none⟩ = some (.int .i64 (gR t.rates kk).hi) := by have := hcl 1 (by omega); rw [this, hg]; rfl
        have f9 := hfz (kk * 2 + 1)
        have hr8 := HT.out.rate kk lkk
        obtain ⟨lo, hlo⟩ : ∃ x, (gR t.rates kk).lo = x := ⟨_, rfl⟩
        obtain ⟨hh, hhh⟩ : ∃ x, (gR t.rates kk).hi = x := ⟨_, rfl⟩
        rw [hlo] at c8 hr8
        rw [hhh] at c9 hr8
        obtain ⟨qq, hqq⟩ : ∃ x, m4 / 4 = x := ⟨_, rfl⟩
        have hqb : 0 ≤ qq ∧ qq ≤ 63 := by omega
        have HQQ := Lib.hid hqq
        have kw1 : IntKind.i64.wrap (hh - qq) = hh - qq := IntWalk.i64_in _ (by omega)
        have kw2 : IntKind.i64.wrap (hh - m4 / 4) = hh - qq := by rw [hqq]; exact kw1
        have HLH := Lib.hid (And.intro hlo hhh)
        have op := row_put (f := cR2) (sz := 2) (fun _ => rfl) o1 (g := g) rfl lkk (j := 1) (by omega) (u := .int .i64 (max lo (hh - qq))) (a := ⟨lo, max lo (hh - qq)⟩) (by rw [← hg]; show [Value.int .i64 (gR t.rates kk).lo, _] = _; rw [hlo]; rfl)
        clear hcl hfz hlo hhh hqq hg
        clear y0
        have y0 : W.cell? ⟨py, 0, none⟩ = some (.slice (some ⟨g, 0, none⟩) t.rates.length k1) := qy.cell 0
        have o2' := own_below (own_fr o2 (Fr.set (R := fun x => x = g) W g (kk * 2 + 1) (.int .i64 (max lo (hh - qq))) rfl) (fun b hb e => own_ownne o2 o1 (by decide) hb (by rw [show b = g from e]; rfl))) (Below.refl _ _).drew
        have o1' := own_below op (Below.refl _ _).drew
        have hqy' := (qy.far (p := ⟨g, kk * 2 + 1, none⟩) (by show py ≠ g; omega) (.int .i64 (max lo (hh - qq)))).below (Below.refl _ _).drew (qy.far (p := ⟨g, kk * 2 + 1, none⟩) (by show py ≠ g; omega) (.int .i64 (max lo (hh - qq)))).lt
        have hN : Below Wl.heap.size Wl (W.setCell ⟨g, kk * 2 + 1, none⟩ (.int .i64 (max lo (hh - qq)))).drew := (ex_set N6 (p := ⟨g, kk * 2 + 1, none⟩) (by show Wl.heap.size ≤ g; omega) (.int .i64 (max lo (hh - qq)))).drew
        go_upto_region 22 with fail
        have D22 := (Below.refl W.heap.size W).drew
        refine wp_region_ext_mix 22 [(false, 0), (false, 1), (false, 2), (false, 3), (false, 4), (false, 5), (false, 6), (false, 7), (false, 8), (false, 9), (false, 10), (false, 11), (false, 12), (false, 13), (false, 14), (false, 15), (false, 16), (false, 17), (false, 18), (true, 19), (false, 20), (false, 21)] (by kernel_rfl) (by kernel_rfl) (by intro d _ _ _ _ h; cases d <;> exact h) ?_
        repeat (refine mix_quiet rfl ?_; go_big_quiet_step (fail); refine wpQuiet_nil ?_)
        refine mix_loud rfl ?_
        go_wp2_with fail
        refine ⟨inEx D22, ?_⟩
        repeat (refine mix_quiet rfl ?_; go_big_quiet_step (fail); refine wpQuiet_nil ?_)
        refine mix_nil (r := [_]) rfl ?_
        go_upto_region 29 with fail
        clear a0 a1 a2 a3 la
        clear y0 y1 y2 y3 ly
        clear c8 c9 f9 qy o1 o2 op D22
        generalize (W.setCell ⟨g, kk * 2 + 1, none⟩ (.int .i64 (max lo (hh - qq)))).drew = Wn at *
        have HH2 : Hid (t.rates.set kk ⟨(gR t.rates kk).lo, max (gR t.rates kk).lo ((gR t.rates kk).hi - qq)⟩ = t.rates.set kk ⟨lo, max lo (hh - qq)⟩) := Lib.hid (by rw [HLH.out.1, HLH.out.2])
        obtain ⟨H2, hH2⟩ : ∃ H2, t.rates.set kk ⟨lo, max lo (hh - qq)⟩ = H2 := ⟨_, rfl⟩
        rw [hH2] at o1' HH2
        have hl2 : t.rates.length = H2.length := by rw [← hH2, List.length_set]
        rw [hl2] at hqy'
        have HL2 := Lib.hid hl2
        clear hH2 hl2
        replace q0 := q0z.out.below hN q0z.out.lt
        replace htm := htmz.out.go hN
        replace hmat := hmatz.out.go hN
        have B_Wn := ex_trans B_Wl hN
        obtain ⟨A6', c6', e6, _, _, ro1⟩ := lay_Rg 52 o1'
        injection e6 with e61 e60 e62
        subst e61 e62
        obtain ⟨A7', c7', e7, _, _, ro2⟩ := lay_ints o2'
        injection e7 with e71 e70 e72
        subst e71 e72
        have hxt : TmIn Wn Wn.heap.size (⟨H2, t.hours, t.limit, t.most⟩ : Tm) (some ⟨g, 0, none⟩) B2 := ⟨ro1.sl, ro2.sl⟩
        clear ro1 ro2 e60 e70
        have a0 : Wn.cell? ⟨pq0, 0, none⟩ = some (.slice Ar t.rates.length cr) := q0.cell 0
        have a1 : Wn.cell? ⟨pq0, 1, none⟩ = some (.slice Ah t.hours.length ch) := q0.cell 1
        have a2 : Wn.cell? ⟨pq0, 2, none⟩ = some (.int .i64 t.limit) := q0.cell 2
        have a3 : Wn.cell? ⟨pq0, 3, none⟩ = some (.int .i64 t.most) := q0.cell 3
        have la := q0.lt
        have y0 : Wn.cell? ⟨py, 0, none⟩ = some (.slice (some ⟨g, 0, none⟩) H2.length k1) := hqy'.cell 0
        have y1 : Wn.cell? ⟨py, 1, none⟩ = some (.slice B2 t.hours.length k2) := hqy'.cell 1
        have y2 : Wn.cell? ⟨py, 2, none⟩ = some (.int .i64 t.limit) := hqy'.cell 2
        have y3 : Wn.cell? ⟨py, 3, none⟩ = some (.int .i64 t.most) := hqy'.cell 3
        have ly := hqy'.lt
        have HEA : Hid (Easier t (⟨H2, t.hours, t.limit, t.most⟩ : Tm)) := Lib.hid (by have h := easy_rate HT.out lkk (q := qq) hqb.1; unfold tRate at h; rw [HH2.out] at h; exact h)
        have HSX : Hid ((⟨H2, t.hours, t.limit, t.most⟩ : Tm).rates.length ≤ 1000 ∧ (⟨H2, t.hours, t.limit, t.most⟩ : Tm).hours.length ≤ 1000) := Lib.hid (by have h1 := HEA.out.ok.len; omega)
        go_wp2_with fail
        refine (Team_any (⟨H2, t.hours, t.limit, t.most⟩ : Tm) (some ⟨g, 0, none⟩) B2 k1 k2 Wn hxt HSX.out).mono ?_
        rintro e V21 ⟨⟨⟨Ar7, Ah7, cr7, ch7, rfl, ht7⟩⟩, hV21⟩
        replace q0 := q0.below hV21 q0.lt
        replace htm := htm.go hV21
        replace hmat := hmat.go hV21
        replace hqy' := hqy'.below hV21 hqy'.lt
        replace hxt := hxt.go hV21
        have B_V21 := ex_trans B_Wn hV21
        clear hxt
        clear a0 a1 a2 a3 la
        have a0 : V21.cell? ⟨pq0, 0, none⟩ = some (.slice Ar t.rates.length cr) := q0.cell 0
        have a1 : V21.cell? ⟨pq0, 1, none⟩ = some (.slice Ah t.hours.length ch) := q0.cell 1
        have a2 : V21.cell? ⟨pq0, 2, none⟩ = some (.int .i64 t.limit) := q0.cell 2
        have a3 : V21.cell? ⟨pq0, 3, none⟩ = some (.int .i64 t.most) := q0.cell 3
        have la := q0.lt
        go_wp2_with fail
        refine (Roster_any (⟨H2, t.hours, t.limit, t.most⟩ : Tm) Ar7 Ah7 cr7 ch7 V21 ht7 HSX.out).mono ?_
        rintro e V22 ⟨⟨⟨Am, nm, cm, rfl, hyes2, hno2⟩⟩, hV22⟩
        replace q0 := q0.below hV22 q0.lt
        replace htm := htm.go hV22
        replace hmat := hmat.go hV22
        replace hqy' := hqy'.below hV22 hqy'.lt
        replace ht7 := ht7.go hV22
        have B_V22 := ex_trans B_V21 hV22
        clear ht7
        clear a0 a1 a2 a3 la
        have a0 : V22.cell? ⟨pq0, 0, none⟩ = some (.slice Ar t.rates.length cr) := q0.cell 0
        have a1 : V22.cell? ⟨pq0, 1, none⟩ = some (.slice Ah t.hours.length ch) := q0.cell 1
        have a2 : V22.cell? ⟨pq0, 2, none⟩ = some (.int .i64 t.limit) := q0.cell 2
        have a3 : V22.cell? ⟨pq0, 3, none⟩ = some (.int .i64 t.most) := q0.cell 3
        have la := q0.lt
        have hf6 := HEA.out.few H6.out
        have hro := roE_ok HEA.out.ok (Nat.le_trans hf6 H6.out)
        obtain ⟨Ls2, rA2, rc2, hn9, hn8, hch2, hmat2⟩ := hyes2 hro
        rw [hro]
        have hnm : nm ≤ i := by rw [hn8, HN2.out]; exact hf6
        clear hyes2 hno2 hn9 hn8 hch2 hmat2 hro hf6
        have hnm' : (nm : Int) ≤ (i : Int) := by omega
        go_wp2_with fail
        refine (Team_any t Ar Ah cr ch V22 htm HSM.out).mono ?_
        rintro e V23 ⟨⟨⟨Ar8, Ah8, cr8, ch8, rfl, ht8⟩⟩, hV23⟩
        replace q0 := q0.below hV23 q0.lt
        replace htm := htm.go hV23
        replace hmat := hmat.go hV23
        replace hqy' := hqy'.below hV23 hqy'.lt
        have B_V23 := ex_trans B_V22 hV23
        clear a0 a1 a2 a3 la
        have a0 : V23.cell? ⟨pq0, 0, none⟩ = some (.slice Ar t.rates.length cr) := q0.cell 0
        have a1 : V23.cell? ⟨pq0, 1, none⟩ = some (.slice Ah t.hours.length ch) := q0.cell 1
        have a2 : V23.cell? ⟨pq0, 2, none⟩ = some (.int .i64 t.limit) := q0.cell 2
        have a3 : V23.cell? ⟨pq0, 3, none⟩ = some (.int .i64 t.most) := q0.cell 3
        have la := q0.lt
        have hmt := hmat
        rw [HLs.out] at hmt
        have hlis := MatIn.lis HT.out.len.2.1 hmt
        clear hmt
        have HIR := ProveR_any t Ar8 Ah8 cr8 ch8 V23 ht8 HSM.out (rosL t Ls) Ax cx rAx rcx hlis ⟨by rw [rosL_len, ← HLs.out]; omega, rosL_rows HT.out.len.2.1⟩ (i : Int)
        rw [rosL_len, ← HLs.out, chain_prove HT.out HCH.out (by rw [← HLs.out]; exact hx6) (by rw [← HLs.out]; exact Int.le_refl _)] at HIR
        go_wp2_with fail
        refine HIR.mono ?_
        rintro e V24 ⟨rfl, hV24⟩
        clear HIR hlis
        clear ht8
        replace q0 := q0.below hV24 q0.lt
        replace htm := htm.go hV24
        replace hmat := hmat.go hV24
        replace hqy' := hqy'.below hV24 hqy'.lt
        have B_V24 := ex_trans B_V23 hV24
        go_wp2_with fail
        refine (awake_any V24).mono ?_
        rintro e Wz ⟨rfl, hz⟩
        go_wp2
        go_ret
        exact ⟨rfl, ex_trans B_V24 hz⟩
    clear hK
    have y0 : Ve.cell? ⟨py, 0, none⟩ = some (.slice Ar t.rates.length cr) := qy.cell 0
    have y1 : Ve.cell? ⟨py, 1, none⟩ = some (.slice Ah t.hours.length ch) := qy.cell 1
    have ly := qy.lt
    have x0 : Ve.cell? ⟨pq0, 0, none⟩ = some (.slice Ar t.rates.length cr) := q0e.cell 0
    have x1 : Ve.cell? ⟨pq0, 1, none⟩ = some (.slice Ah t.hours.length ch) := q0e.cell 1
    have lx := q0e.lt
    have nx9 : ¬ pq0 = py := by omega
    have D := (Below.refl Ve.heap.size Ve).drew
    refine wp_region_fx_tq (fun b => b = py) 11 (.quiet 1 (.quiet 2 (.quiet 5 (.quiet 6 (.fork 0 (.fork 3 (.quiet 8 (.loud 4 (.loud 7 (.loud 9 (.quiet 10 .done))))) 4 (.loud 3 (.quiet 8 (.loud 7 (.loud 9 (.quiet 10 .done)))))) 4 (.loud 0 (.loud 3 (.quiet 8 (.loud 7 (.loud 9 (.quiet 10 .done))))))))))) (by kernel_rfl) (by kernel_rfl) (by intro d _ _ _ _ h; cases d <;> exact h) ?_
    repeat (refine tq_quiet rfl ?_; go_big_quiet_step (fail); refine wpQuiet_nil ?_)
    obtain ⟨U0, hY⟩ : ∃ Y, Ve.drew = Y := ⟨_, rfl⟩
    rw [hY] at D ⊢
    clear hY y0 y1 ly x0 x1 lx
    have F : Fr (fun b => b = py) Ve U0 := Fr.below D
    replace qy := qy.below D qy.lt
    refine tq_fork rfl rfl ?_ ?_
    · go_wp2_with fail
      have N := ex_alloc (Below.refl U0.heap.size U0) (.cells #[] 52)
      have E1 : Blk (U0.alloc (.cells #[] 52)) U0.heap.size 52 #[] := Blk.new _ _ _
      have he1 : B0 ≤ U0.heap.size := by have := F.size; have := HB0.out; omega
      replace qy := qy.below N qy.lt
      replace F := F.trans (Fr.below N) (fun _ _ h => h)
      obtain ⟨e1, hpp⟩ : ∃ p, U0.heap.size = p := ⟨_, rfl⟩
      rw [hpp] at E1 he1 ⊢
      clear N hpp
      generalize U0.alloc (.cells #[] 52) = U1 at *
      refine ⟨inFx F, ?_⟩
      repeat (refine tq_quiet rfl ?_; go_big_quiet_step (fail); refine wpQuiet_nil ?_)
      refine tq_fork rfl rfl ?_ ?_
      · have hsl' := (htm.rates.below (F.toBelow NY NY.size (fun x hx => by omega))).up (F.toBelow NY NY.size (fun x hx => by omega)).size
        have hbs : B0 ≤ U1.heap.size := by have := F.size; have := HB0.out; omega
        go_wp2_with (at_builtin; refine wpList_append_list (α := Rg) (f := cR2) (F := fR) (sz := 2) (fun _ => rfl) cR2_at cR2_one rfl _ _ _ rfl (B0) 52 i0 _ 16 Try.underlying53 HI0.out hv0 hv1 hv2 rfl (by omega) (some ⟨e1, 0, none⟩) 0 [] rfl (own_empty E1 he1) Ar cr t.rates rfl hsl' (by simp; unfold maxLen; omega) (by simp; omega) hbs (U1.heap.size) rfl ?_; intro LX B1 k1 U2 HLX' o1 g nX)
        have hLX : LX = t.rates := HLX'.out
        subst hLX
        clear HLX' nX hsl' hbs
        have hrow : ∀ x : Nat, some x = (Value.slice (some ⟨e1, 0, none⟩) 0 0).ownBlock → x = e1 := fun x e => by have e' : some x = some e1 := e; injection e'
        have hrow2 : ∀ x : Nat, (Value.slice (some ⟨e1, 0, none⟩) 0 0).ownBlock = some x → x = e1 := fun x e => hrow x e.symm
        replace qy := qy.grown g (fun e => by have := hrow _ e; omega)
        replace F := F.trans (Fr.grown (R := fun b => b = e1) g (fun b e => .inl (hrow2 b e))) (fun x hx h => by have := HB0.out; omega)
        clear hrow hrow2 E1 he1
        clear g
        refine ⟨inFx F, ?_⟩
        repeat (refine tq_quiet rfl ?_; go_big_quiet_step (fail); refine wpQuiet_nil ?_)
        refine tq_loud rfl ?_
        go_wp2_with fail
        have N := ex_alloc (Below.refl U2.heap.size U2) (.cells #[] 3)
        have E2 : Blk (U2.alloc (.cells #[] 3)) U2.heap.size 3 #[] := Blk.new _ _ _
        have he2 : B0 ≤ U2.heap.size := by have := F.size; have := HB0.out; omega
        replace qy := qy.below N qy.lt
        replace o1 := own_below o1 N
        replace F := F.trans (Fr.below N) (fun _ _ h => h)
        obtain ⟨e2, hpp⟩ : ∃ p, U2.heap.size = p := ⟨_, rfl⟩
        rw [hpp] at E2 he2 ⊢
        clear N hpp
        generalize U2.alloc (.cells #[] 3) = U3 at *
        refine ⟨inFx F, ?_⟩
        repeat (refine tq_quiet rfl ?_; go_big_quiet_step (fail); refine wpQuiet_nil ?_)
        refine tq_loud rfl ?_
        have hsl' := (htm.hours.below (F.toBelow NY NY.size (fun x hx => by omega))).up (F.toBelow NY NY.size (fun x hx => by omega)).size
        have hbs : B0 ≤ U3.heap.size := by have := F.size; have := HB0.out; omega
        go_wp2_with (at_builtin; refine wpList_append_list (α := Int) (f := cI1) (F := fI) (sz := 1) (fun _ => rfl) cI1_at cI1_one rfl _ _ _ rfl (B0) 3 i1 _ 8 Try.underlying28 HI1.out hw0 hw1 hw2 rfl (by omega) (some ⟨e2, 0, none⟩) 0 [] rfl (own_empty E2 he2) Ah ch t.hours rfl hsl' (by simp; unfold maxLen; omega) (by simp; omega) hbs (U3.heap.size) rfl ?_; intro LX B2 k2 U4 HLX' o2 g nX)
        have hLX : LX = t.hours := HLX'.out
        subst hLX
        clear HLX' nX hsl' hbs
        have hrow : ∀ x : Nat, some x = (Value.slice (some ⟨e2, 0, none⟩) 0 0).ownBlock → x = e2 := fun x e => by have e' : some x = some e2 := e; injection e'
        have hrow2 : ∀ x : Nat, (Value.slice (some ⟨e2, 0, none⟩) 0 0).ownBlock = some x → x = e2 := fun x e => hrow x e.symm
        replace qy := qy.grown g (fun e => by have := hrow _ e; omega)
        replace o1 := own_grow o1 g (fun b hb e => own_blkne o1 E2 (by decide) (by rw [hb, hrow2 b e]))
        replace F := F.trans (Fr.grown (R := fun b => b = e2) g (fun b e => .inl (hrow2 b e))) (fun x hx h => by have := HB0.out; omega)
        clear hrow hrow2 E2 he2
        clear g
        refine ⟨inFx F, ?_⟩
        repeat (refine tq_quiet rfl ?_; go_big_quiet_step (fail); refine wpQuiet_nil ?_)
        have y0 : U4.cell? ⟨py, 0, none⟩ = some (.slice Ar t.rates.length cr) := qy.cell 0
        have ly := qy.lt
        have fy := qy.frozen0
        have qz := qy.set_ 0 (.slice B1 t.rates.length k1)
        simp only [List.setIfInBounds_toArray, List.set_cons_zero, List.set_cons_succ] at qz
        have Fz := F.andSet (b := py) (i := 0) (v := (.slice B1 t.rates.length k1)) rfl
        have o1z := own_far o1 (p := ⟨py, 0, none⟩) (by show py < B0; omega) (.slice B1 t.rates.length k1)
        have o2z := own_far o2 (p := ⟨py, 0, none⟩) (by show py < B0; omega) (.slice B1 t.rates.length k1)
        refine tq_loud rfl ?_
        go_wp2_with fail
        refine ⟨inFx Fz, ?_⟩
        generalize U4.setCell ⟨py, 0, none⟩ (.slice B1 t.rates.length k1) = U5 at *
        clear y0 ly fy o1 o2 qy F
        repeat (refine tq_quiet rfl ?_; go_big_quiet_step (fail); refine wpQuiet_nil ?_)
        have y1 : U5.cell? ⟨py, 1, none⟩ = some (.slice Ah t.hours.length ch) := qz.cell 1
        have ly := qz.lt
        have fy := qz.frozen0
        have qw := qz.set_ 1 (.slice B2 t.hours.length k2)
        simp only [List.setIfInBounds_toArray, List.set_cons_zero, List.set_cons_succ] at qw
        have Fw := Fz.andSet (b := py) (i := 1) (v := (.slice B2 t.hours.length k2)) rfl
        have o1w := own_far o1z (p := ⟨py, 1, none⟩) (by show py < B0; omega) (.slice B2 t.hours.length k2)
        have o2w := own_far o2z (p := ⟨py, 1, none⟩) (by show py < B0; omega) (.slice B2 t.hours.length k2)
        refine tq_done (r := [_]) rfl ?_
        go_wp2_with fail
        exact hrest5 _ _ _ _ _ _ Fw qw o1w o2w (exFrame (by kernel_rfl))
      · go_wp2_with fail
        have N := ex_alloc (Below.refl U1.heap.size U1) (.cells #[] 3)
        have E2 : Blk (U1.alloc (.cells #[] 3)) U1.heap.size 3 #[] := Blk.new _ _ _
        have he2 : B0 ≤ U1.heap.size := by have := F.size; have := HB0.out; omega
        have nE1_e2 : e1 < U1.heap.size := E1.lt
        replace qy := qy.below N qy.lt
        replace E1 := E1.below N E1.lt
        replace F := F.trans (Fr.below N) (fun _ _ h => h)
        obtain ⟨e2, hpp⟩ : ∃ p, U1.heap.size = p := ⟨_, rfl⟩
        rw [hpp] at E2 he2 nE1_e2 ⊢
        clear N hpp
        generalize U1.alloc (.cells #[] 3) = U6 at *
        refine ⟨inFx F, ?_⟩
        repeat (refine tq_quiet rfl ?_; go_big_quiet_step (fail); refine wpQuiet_nil ?_)
        refine tq_loud rfl ?_
        have hsl' := (htm.rates.below (F.toBelow NY NY.size (fun x hx => by omega))).up (F.toBelow NY NY.size (fun x hx => by omega)).size
        have hbs : B0 ≤ U6.heap.size := by have := F.size; have := HB0.out; omega
        go_wp2_with (at_builtin; refine wpList_append_list (α := Rg) (f := cR2) (F := fR) (sz := 2) (fun _ => rfl) cR2_at cR2_one rfl _ _ _ rfl (B0) 52 i0 _ 16 Try.underlying53 HI0.out hv0 hv1 hv2 rfl (by omega) (some ⟨e1, 0, none⟩) 0 [] rfl (own_empty E1 he1) Ar cr t.rates rfl hsl' (by simp; unfold maxLen; omega) (by simp; omega) hbs (U6.heap.size) rfl ?_; intro LX B1 k1 U7 HLX' o1 g nX)
        have hLX : LX = t.rates := HLX'.out
        subst hLX
        clear HLX' nX hsl' hbs
        have hrow : ∀ x : Nat, some x = (Value.slice (some ⟨e1, 0, none⟩) 0 0).ownBlock → x = e1 := fun x e => by have e' : some x = some e1 := e; injection e'
        have hrow2 : ∀ x : Nat, (Value.slice (some ⟨e1, 0, none⟩) 0 0).ownBlock = some x → x = e1 := fun x e => hrow x e.symm
        replace qy := qy.grown g (fun e => by have := hrow _ e; omega)
        replace E2 := E2.grown g (fun e => blk_ne E2 E1 (by decide) (hrow _ e))
        replace F := F.trans (Fr.grown (R := fun b => b = e1) g (fun b e => .inl (hrow2 b e))) (fun x hx h => by have := HB0.out; omega)
        clear hrow hrow2 E1 he1
        clear g
        refine ⟨inFx F, ?_⟩
        repeat (refine tq_quiet rfl ?_; go_big_quiet_step (fail); refine wpQuiet_nil ?_)
        refine tq_loud rfl ?_
        have hsl' := (htm.hours.below (F.toBelow NY NY.size (fun x hx => by omega))).up (F.toBelow NY NY.size (fun x hx => by omega)).size
        have hbs : B0 ≤ U7.heap.size := by have := F.size; have := HB0.out; omega
        go_wp2_with (at_builtin; refine wpList_append_list (α := Int) (f := cI1) (F := fI) (sz := 1) (fun _ => rfl) cI1_at cI1_one rfl _ _ _ rfl (B0) 3 i1 _ 8 Try.underlying28 HI1.out hw0 hw1 hw2 rfl (by omega) (some ⟨e2, 0, none⟩) 0 [] rfl (own_empty E2 he2) Ah ch t.hours rfl hsl' (by simp; unfold maxLen; omega) (by simp; omega) hbs (U7.heap.size) rfl ?_; intro LX B2 k2 U8 HLX' o2 g nX)
        have hLX : LX = t.hours := HLX'.out
        subst hLX
        clear HLX' nX hsl' hbs
        have hrow : ∀ x : Nat, some x = (Value.slice (some ⟨e2, 0, none⟩) 0 0).ownBlock → x = e2 := fun x e => by have e' : some x = some e2 := e; injection e'
        have hrow2 : ∀ x : Nat, (Value.slice (some ⟨e2, 0, none⟩) 0 0).ownBlock = some x → x = e2 := fun x e => hrow x e.symm
        replace qy := qy.grown g (fun e => by have := hrow _ e; omega)
        replace o1 := own_grow o1 g (fun b hb e => own_blkne o1 E2 (by decide) (by rw [hb, hrow2 b e]))
        replace F := F.trans (Fr.grown (R := fun b => b = e2) g (fun b e => .inl (hrow2 b e))) (fun x hx h => by have := HB0.out; omega)
        clear hrow hrow2 E2 he2
        clear g
        refine ⟨inFx F, ?_⟩
        repeat (refine tq_quiet rfl ?_; go_big_quiet_step (fail); refine wpQuiet_nil ?_)
        have y0 : U8.cell? ⟨py, 0, none⟩ = some (.slice Ar t.rates.length cr) := qy.cell 0
        have ly := qy.lt
        have fy := qy.frozen0
        have qz := qy.set_ 0 (.slice B1 t.rates.length k1)
        simp only [List.setIfInBounds_toArray, List.set_cons_zero, List.set_cons_succ] at qz
        have Fz := F.andSet (b := py) (i := 0) (v := (.slice B1 t.rates.length k1)) rfl
        have o1z := own_far o1 (p := ⟨py, 0, none⟩) (by show py < B0; omega) (.slice B1 t.rates.length k1)
        have o2z := own_far o2 (p := ⟨py, 0, none⟩) (by show py < B0; omega) (.slice B1 t.rates.length k1)
        refine tq_loud rfl ?_
        go_wp2_with fail
        refine ⟨inFx Fz, ?_⟩
        generalize U8.setCell ⟨py, 0, none⟩ (.slice B1 t.rates.length k1) = U9 at *
        clear y0 ly fy o1 o2 qy F
        repeat (refine tq_quiet rfl ?_; go_big_quiet_step (fail); refine wpQuiet_nil ?_)
        have y1 : U9.cell? ⟨py, 1, none⟩ = some (.slice Ah t.hours.length ch) := qz.cell 1
        have ly := qz.lt
        have fy := qz.frozen0
        have qw := qz.set_ 1 (.slice B2 t.hours.length k2)
        simp only [List.setIfInBounds_toArray, List.set_cons_zero, List.set_cons_succ] at qw
        have Fw := Fz.andSet (b := py) (i := 1) (v := (.slice B2 t.hours.length k2)) rfl
        have o1w := own_far o1z (p := ⟨py, 1, none⟩) (by show py < B0; omega) (.slice B2 t.hours.length k2)
        have o2w := own_far o2z (p := ⟨py, 1, none⟩) (by show py < B0; omega) (.slice B2 t.hours.length k2)
        refine tq_done (r := [_]) rfl ?_
        go_wp2_with fail
        exact hrest5 _ _ _ _ _ _ Fw qw o1w o2w (exFrame (by kernel_rfl))
    · go_wp2_with fail
      have N := ex_alloc (Below.refl U0.heap.size U0) (.cells #[] 3)
      have E2 : Blk (U0.alloc (.cells #[] 3)) U0.heap.size 3 #[] := Blk.new _ _ _
      have he2 : B0 ≤ U0.heap.size := by have := F.size; have := HB0.out; omega
      replace qy := qy.below N qy.lt
      replace F := F.trans (Fr.below N) (fun _ _ h => h)
      obtain ⟨e2, hpp⟩ : ∃ p, U0.heap.size = p := ⟨_, rfl⟩
      rw [hpp] at E2 he2 ⊢
      clear N hpp
      generalize U0.alloc (.cells #[] 3) = U10 at *
      refine ⟨inFx F, ?_⟩
      repeat (refine tq_quiet rfl ?_; go_big_quiet_step (fail); refine wpQuiet_nil ?_)
      refine tq_loud rfl ?_
      go_wp2_with fail
      have N := ex_alloc (Below.refl U10.heap.size U10) (.cells #[] 52)
      have E1 : Blk (U10.alloc (.cells #[] 52)) U10.heap.size 52 #[] := Blk.new _ _ _
      have he1 : B0 ≤ U10.heap.size := by have := F.size; have := HB0.out; omega
      have nE2_e1 : e2 < U10.heap.size := E2.lt
      replace qy := qy.below N qy.lt
      replace E2 := E2.below N E2.lt
      replace F := F.trans (Fr.below N) (fun _ _ h => h)
      obtain ⟨e1, hpp⟩ : ∃ p, U10.heap.size = p := ⟨_, rfl⟩
      rw [hpp] at E1 he1 nE2_e1 ⊢
      clear N hpp
      generalize U10.alloc (.cells #[] 52) = U11 at *
      refine ⟨inFx F, ?_⟩
      repeat (refine tq_quiet rfl ?_; go_big_quiet_step (fail); refine wpQuiet_nil ?_)
      refine tq_loud rfl ?_
      have hsl' := (htm.rates.below (F.toBelow NY NY.size (fun x hx => by omega))).up (F.toBelow NY NY.size (fun x hx => by omega)).size
      have hbs : B0 ≤ U11.heap.size := by have := F.size; have := HB0.out; omega
      go_wp2_with (at_builtin; refine wpList_append_list (α := Rg) (f := cR2) (F := fR) (sz := 2) (fun _ => rfl) cR2_at cR2_one rfl _ _ _ rfl (B0) 52 i0 _ 16 Try.underlying53 HI0.out hv0 hv1 hv2 rfl (by omega) (some ⟨e1, 0, none⟩) 0 [] rfl (own_empty E1 he1) Ar cr t.rates rfl hsl' (by simp; unfold maxLen; omega) (by simp; omega) hbs (U11.heap.size) rfl ?_; intro LX B1 k1 U12 HLX' o1 g nX)
      have hLX : LX = t.rates := HLX'.out
      subst hLX
      clear HLX' nX hsl' hbs
      have hrow : ∀ x : Nat, some x = (Value.slice (some ⟨e1, 0, none⟩) 0 0).ownBlock → x = e1 := fun x e => by have e' : some x = some e1 := e; injection e'
      have hrow2 : ∀ x : Nat, (Value.slice (some ⟨e1, 0, none⟩) 0 0).ownBlock = some x → x = e1 := fun x e => hrow x e.symm
      replace qy := qy.grown g (fun e => by have := hrow _ e; omega)
      replace E2 := E2.grown g (fun e => blk_ne E2 E1 (by decide) (hrow _ e))
      replace F := F.trans (Fr.grown (R := fun b => b = e1) g (fun b e => .inl (hrow2 b e))) (fun x hx h => by have := HB0.out; omega)
      clear hrow hrow2 E1 he1
      clear g
      refine ⟨inFx F, ?_⟩
      repeat (refine tq_quiet rfl ?_; go_big_quiet_step (fail); refine wpQuiet_nil ?_)
      refine tq_loud rfl ?_
      have hsl' := (htm.hours.below (F.toBelow NY NY.size (fun x hx => by omega))).up (F.toBelow NY NY.size (fun x hx => by omega)).size
      have hbs : B0 ≤ U12.heap.size := by have := F.size; have := HB0.out; omega
      go_wp2_with (at_builtin; refine wpList_append_list (α := Int) (f := cI1) (F := fI) (sz := 1) (fun _ => rfl) cI1_at cI1_one rfl _ _ _ rfl (B0) 3 i1 _ 8 Try.underlying28 HI1.out hw0 hw1 hw2 rfl (by omega) (some ⟨e2, 0, none⟩) 0 [] rfl (own_empty E2 he2) Ah ch t.hours rfl hsl' (by simp; unfold maxLen; omega) (by simp; omega) hbs (U12.heap.size) rfl ?_; intro LX B2 k2 U13 HLX' o2 g nX)
      have hLX : LX = t.hours := HLX'.out
      subst hLX
      clear HLX' nX hsl' hbs
      have hrow : ∀ x : Nat, some x = (Value.slice (some ⟨e2, 0, none⟩) 0 0).ownBlock → x = e2 := fun x e => by have e' : some x = some e2 := e; injection e'
      have hrow2 : ∀ x : Nat, (Value.slice (some ⟨e2, 0, none⟩) 0 0).ownBlock = some x → x = e2 := fun x e => hrow x e.symm
      replace qy := qy.grown g (fun e => by have := hrow _ e; omega)
      replace o1 := own_grow o1 g (fun b hb e => own_blkne o1 E2 (by decide) (by rw [hb, hrow2 b e]))
      replace F := F.trans (Fr.grown (R := fun b => b = e2) g (fun b e => .inl (hrow2 b e))) (fun x hx h => by have := HB0.out; omega)
      clear hrow hrow2 E2 he2
      clear g
      refine ⟨inFx F, ?_⟩
      repeat (refine tq_quiet rfl ?_; go_big_quiet_step (fail); refine wpQuiet_nil ?_)
      have y0 : U13.cell? ⟨py, 0, none⟩ = some (.slice Ar t.rates.length cr) := qy.cell 0
      have ly := qy.lt
      have fy := qy.frozen0
      have qz := qy.set_ 0 (.slice B1 t.rates.length k1)
      simp only [List.setIfInBounds_toArray, List.set_cons_zero, List.set_cons_succ] at qz
      have Fz := F.andSet (b := py) (i := 0) (v := (.slice B1 t.rates.length k1)) rfl
      have o1z := own_far o1 (p := ⟨py, 0, none⟩) (by show py < B0; omega) (.slice B1 t.rates.length k1)
      have o2z := own_far o2 (p := ⟨py, 0, none⟩) (by show py < B0; omega) (.slice B1 t.rates.length k1)
      refine tq_loud rfl ?_
      go_wp2_with fail
      refine ⟨inFx Fz, ?_⟩
      generalize U13.setCell ⟨py, 0, none⟩ (.slice B1 t.rates.length k1) = U14 at *
      clear y0 ly fy o1 o2 qy F
      repeat (refine tq_quiet rfl ?_; go_big_quiet_step (fail); refine wpQuiet_nil ?_)
      have y1 : U14.cell? ⟨py, 1, none⟩ = some (.slice Ah t.hours.length ch) := qz.cell 1
      have ly := qz.lt
      have fy := qz.frozen0
      have qw := qz.set_ 1 (.slice B2 t.hours.length k2)
      simp only [List.setIfInBounds_toArray, List.set_cons_zero, List.set_cons_succ] at qw
      have Fw := Fz.andSet (b := py) (i := 1) (v := (.slice B2 t.hours.length k2)) rfl
      have o1w := own_far o1z (p := ⟨py, 1, none⟩) (by show py < B0; omega) (.slice B2 t.hours.length k2)
      have o2w := own_far o2z (p := ⟨py, 1, none⟩) (by show py < B0; omega) (.slice B2 t.hours.length k2)
      refine tq_done (r := [_]) rfl ?_
      go_wp2_with fail
      exact hrest5 _ _ _ _ _ _ Fw qw o1w o2w (exFrame (by kernel_rfl))
  · have he : ec = 10 := HEC.out.symm.trans hr
    subst he
    obtain ⟨rfl, rfl⟩ := hno (by decide)
    have H6 := Lib.hid h6
    clear hyes hno hr h6
    clear a0 a1 a2 a3 la
    have a0 : V5.cell? ⟨pq0, 0, none⟩ = some (.slice Ar t.rates.length cr) := q0.cell 0
    have a1 : V5.cell? ⟨pq0, 1, none⟩ = some (.slice Ah t.hours.length ch) := q0.cell 1
    have a2 : V5.cell? ⟨pq0, 2, none⟩ = some (.int .i64 t.limit) := q0.cell 2
    have a3 : V5.cell? ⟨pq0, 3, none⟩ = some (.int .i64 t.most) := q0.cell 3
    have la := q0.lt
    go_wp2_with fail
    refine (Team_any t Ar Ah cr ch V5 htm HSM.out).mono ?_
    rintro e V25 ⟨⟨⟨Ar2, Ah2, cr2, ch2, rfl, ht2⟩⟩, hV25⟩
    replace htm := htm.go hV25
    replace hL := hL.go hV25
    replace hwd := (hwd.below hV25).up hV25.size
    replace q0 := q0.below hV25 q0.lt
    have B_V25 := ex_trans B_V5 hV25
    go_wp2_with fail
    refine (rows_any AR cR L rR rcR V25 HSL.out.1 HSL.out.2 hL).mono ?_
    rintro e V26 ⟨⟨AX2, cX2, X2, rfl, hio2, hix2⟩, hV26⟩
    replace htm := htm.go hV26
    replace hL := hL.go hV26
    replace hwd := (hwd.below hV26).up hV26.size
    replace q0 := q0.below hV26 q0.lt
    replace ht2 := ht2.go hV26
    have B_V26 := ex_trans B_V25 hV26
    obtain ⟨A9, c9, rX2, rcX2, e9, hlx2⟩ := IOwn.lis hio2 hix2
    injection e9 with e91 e90 e92
    subst e91 e92
    clear e90 hio2 hix2
    go_wp2_with fail
    refine (ProveR_any t Ar2 Ah2 cr2 ch2 V26 ht2 HSM.out L AX2 cX2 rX2 rcX2 hlx2 HSL.out (-1)).mono ?_
    rintro e V27 ⟨rfl, hV27⟩
    replace htm := htm.go hV27
    replace hL := hL.go hV27
    replace hwd := (hwd.below hV27).up hV27.size
    replace q0 := q0.below hV27 q0.lt
    replace ht2 := ht2.go hV27
    replace hlx2 := hlx2.go hV27
    have B_V27 := ex_trans B_V26 hV27
    clear ht2 hlx2
    clear a0 a1 a2 a3 la
    have a0 : V27.cell? ⟨pq0, 0, none⟩ = some (.slice Ar t.rates.length cr) := q0.cell 0
    have a1 : V27.cell? ⟨pq0, 1, none⟩ = some (.slice Ah t.hours.length ch) := q0.cell 1
    have a2 : V27.cell? ⟨pq0, 2, none⟩ = some (.int .i64 t.limit) := q0.cell 2
    have a3 : V27.cell? ⟨pq0, 3, none⟩ = some (.int .i64 t.most) := q0.cell 3
    have la := q0.lt
    rw [no_minus]
    go_wp2_with fail
    refine (Team_any t Ar Ah cr ch V27 htm HSM.out).mono ?_
    rintro e V28 ⟨⟨⟨Ar3, Ah3, cr3, ch3, rfl, ht3⟩⟩, hV28⟩
    replace htm := htm.go hV28
    replace hL := hL.go hV28
    replace hwd := (hwd.below hV28).up hV28.size
    replace q0 := q0.below hV28 q0.lt
    have B_V28 := ex_trans B_V27 hV28
    go_wp2_with fail
    refine (rows_any AR cR L rR rcR V28 HSL.out.1 HSL.out.2 hL).mono ?_
    rintro e V29 ⟨⟨AX3, cX3, X3, rfl, hio3, hix3⟩, hV29⟩
    replace htm := htm.go hV29
    replace hL := hL.go hV29
    replace hwd := (hwd.below hV29).up hV29.size
    replace q0 := q0.below hV29 q0.lt
    replace ht3 := ht3.go hV29
    have B_V29 := ex_trans B_V28 hV29
    obtain ⟨A9, c9, rX3, rcX3, e9, hlx3⟩ := IOwn.lis hio3 hix3
    injection e9 with e91 e90 e92
    subst e91 e92
    clear e90 hio3 hix3
    go_wp2_with fail
    refine (ProveR_any t Ar3 Ah3 cr3 ch3 V29 ht3 HSM.out L AX3 cX3 rX3 rcX3 hlx3 HSL.out (99)).mono ?_
    rintro e V30 ⟨rfl, hV30⟩
    replace htm := htm.go hV30
    replace hL := hL.go hV30
    replace hwd := (hwd.below hV30).up hV30.size
    replace q0 := q0.below hV30 q0.lt
    replace ht3 := ht3.go hV30
    replace hlx3 := hlx3.go hV30
    have B_V30 := ex_trans B_V29 hV30
    clear ht3 hlx3
    clear a0 a1 a2 a3 la
    have a0 : V30.cell? ⟨pq0, 0, none⟩ = some (.slice Ar t.rates.length cr) := q0.cell 0
    have a1 : V30.cell? ⟨pq0, 1, none⟩ = some (.slice Ah t.hours.length ch) := q0.cell 1
    have a2 : V30.cell? ⟨pq0, 2, none⟩ = some (.int .i64 t.limit) := q0.cell 2
    have a3 : V30.cell? ⟨pq0, 3, none⟩ = some (.int .i64 t.most) := q0.cell 3
    have la := q0.lt
    rw [no_roster H6.out]
    go_wp2_with fail
    refine wp_loop (fun a W => Rel (fun a W => W = V30 ∧ ∃ u : Nat → Value, a = ⟨List.toArray (u 0 :: .slice AR L.length cR :: .slice AW ws.length cW :: .int .u8 m3 :: .int .u8 m4 :: .pointer (some ⟨pq0, 0, none⟩) :: u 6 :: u 7 :: u 8 :: u 9 :: u 10 :: .slice none 0 cx :: .int .i64 10 :: .int .i64 0 :: u 14 :: u 15 :: u 16 :: u 17 :: u 18 :: u 19 :: u 20 :: u 21 :: u 22 :: u 23 :: u 24 :: u 25 :: u 26 :: u 27 :: u 28 :: u 29 :: u 30 :: u 31 :: u 32 :: u 33 :: u 34 :: u 35 :: u 36 :: u 37 :: u 38 :: u 39 :: u 40 :: u 41 :: u 42 :: u 43 :: u 44 :: u 45 :: u 46 :: u 47 :: u 48 :: u 49 :: u 50 :: u 51 :: u 52 :: u 53 :: u 54 :: u 55 :: u 56 :: u 57 :: u 58 :: u 59 :: u 60 :: u 61 :: u 62 :: u 63 :: u 64 :: u 65 :: u 66 :: u 67 :: u 68 :: u 69 :: u 70 :: u 71 :: u 72 :: u 73 :: u 74 :: u 75 :: u 76 :: u 77 :: u 78 :: u 79 :: u 80 :: u 81 :: u 82 :: u 83 :: u 84 :: u 85 :: u 86 :: u 87 :: u 88 :: u 89 :: u 90 :: u 91 :: u 92 :: u 93 :: u 94 :: u 95 :: u 96 :: u 97 :: u 98 :: u 99 :: u 100 :: u 101 :: u 102 :: u 103 :: u 104 :: u 105 :: u 106 :: u 107 :: u 108 :: u 109 :: u 110 :: u 111 :: u 112 :: u 113 :: u 114 :: u 115 :: u 116 :: u 117 :: u 118 :: u 119 :: u 120 :: u 121 :: u 122 :: u 123 :: u 124 :: u 125 :: u 126 :: u 127 :: u 128 :: u 129 :: u 130 :: u 131 :: u 132 :: u 133 :: u 134 :: u 135 :: u 136 :: u 137 :: u 138 :: u 139 :: u 140 :: u 141 :: u 142 :: u 143 :: u 144 :: u 145 :: u 146 :: u 147 :: u 148 :: u 149 :: u 150 :: u 151 :: u 152 :: u 153 :: u 154 :: u 155 :: u 156 :: u 157 :: u 158 :: u 159 :: u 160 :: u 161 :: u 162 :: u 163 :: u 164 :: u 165 :: u 166 :: u 167 :: u 168 :: u 169 :: u 170 :: u 171 :: u 172 :: u 173 :: u 174 :: u 175 :: u 176 :: u 177 :: u 178 :: u 179 :: u 180 :: u 181 :: u 182 :: u 183 :: u 184 :: u 185 :: u 186 :: u 187 :: u 188 :: u 189 :: u 190 :: u 191 :: u 192 :: u 193 :: u 194 :: u 195 :: u 196 :: u 197 :: u 198 :: u 199 :: u 200 :: u 201 :: u 202 :: u 203 :: u 204 :: u 205 :: u 206 :: u 207 :: u 208 :: u 209 :: u 210 :: u 211 :: u 212 :: u 213 :: u 214 :: u 215 :: u 216 :: u 217 :: u 218 :: u 219 :: u 220 :: []), []⟩) a W) (fun _ _ => 0) ⟨⟨rfl, exFrame (by kernel_rfl)⟩⟩ ?_
    rintro a Wl ⟨⟨hWW, u, rfl⟩⟩
    subst hWW
    have NY := ex_alloc (Below.refl Wl.heap.size Wl) (.cells #[.slice Ar t.rates.length cr, .slice Ah t.hours.length ch, .int .i64 t.limit, .int .i64 t.most] 55)
    have qy : Blk (Wl.alloc (.cells #[.slice Ar t.rates.length cr, .slice Ah t.hours.length ch, .int .i64 t.limit, .int .i64 t.most] 55)) Wl.heap.size 55 #[.slice Ar t.rates.length cr, .slice Ah t.hours.length ch, .int .i64 t.limit, .int .i64 t.most] := Blk.new _ _ _
    have hp0 : pq0 < Wl.heap.size := q0.lt
    have q0z := Lib.hid q0
    have htmz := Lib.hid htm
    go_upto_region 19 with fail
    clear a0 a1 a2 a3 la
    obtain ⟨py, hpy⟩ : ∃ p, Wl.heap.size = p := ⟨_, rfl⟩
    rw [hpy] at qy hp0 ⊢
    have hpy0 : Wl.heap.size ≤ py := by omega
    clear hpy
    have q0e := q0.below NY q0.lt
    have htme := htm.go NY
    generalize Wl.alloc (.cells #[.slice Ar t.rates.length cr, .slice Ah t.hours.length ch, .int .i64 t.limit, .int .i64 t.most] 55) = Ve at *
    obtain ⟨B0, hB0⟩ : ∃ b, Ve.heap.size = b := ⟨_, rfl⟩
    have HB0 := Lib.hid hB0
    have hpB : py < B0 := by have := qy.lt; omega
    clear hB0
    rename_i Q' K hK
    have hrest5 : ∀ (W : World) (B1 B2 : Option Addr) (k1 k2 : Nat) (a : Act), Fr (fun b => b = py) Ve W → Blk W py 55 #[.slice B1 t.rates.length k1, .slice B2 t.hours.length k2, .int .i64 t.limit, .int .i64 t.most] → W.ownsRow B0 52 2 (.slice B1 t.rates.length k1) t.rates.length (t.rates.flatMap cR2) → W.ownsRow B0 3 1 (.slice B2 t.hours.length k2) t.hours.length (t.hours.flatMap cI1) → (∃ u : Nat → Value, a = ⟨List.toArray (u 0 :: u 1 :: .slice AW ws.length cW :: .int .u8 m3 :: .int .u8 m4 :: .pointer (some ⟨pq0, 0, none⟩) :: u 6 :: u 7 :: u 8 :: u 9 :: u 10 :: .slice none 0 cx :: .int .i64 10 :: u 13 :: u 14 :: u 15 :: .pointer (some ⟨py, 0, none⟩) :: u 17 :: u 18 :: u 19 :: u 20 :: u 21 :: u 22 :: u 23 :: u 24 :: u 25 :: u 26 :: u 27 :: u 28 :: u 29 :: u 30 :: u 31 :: u 32 :: u 33 :: u 34 :: u 35 :: u 36 :: u 37 :: u 38 :: u 39 :: u 40 :: u 41 :: u 42 :: u 43 :: u 44 :: u 45 :: u 46 :: u 47 :: u 48 :: u 49 :: u 50 :: u 51 :: u 52 :: u 53 :: u 54 :: u 55 :: u 56 :: u 57 :: u 58 :: u 59 :: u 60 :: u 61 :: u 62 :: u 63 :: u 64 :: u 65 :: u 66 :: u 67 :: u 68 :: u 69 :: u 70 :: u 71 :: u 72 :: u 73 :: u 74 :: u 75 :: u 76 :: u 77 :: u 78 :: u 79 :: u 80 :: u 81 :: u 82 :: u 83 :: u 84 :: u 85 :: u 86 :: u 87 :: u 88 :: u 89 :: u 90 :: u 91 :: u 92 :: u 93 :: u 94 :: u 95 :: u 96 :: u 97 :: u 98 :: u 99 :: u 100 :: u 101 :: u 102 :: u 103 :: u 104 :: u 105 :: u 106 :: u 107 :: u 108 :: u 109 :: u 110 :: u 111 :: u 112 :: u 113 :: u 114 :: u 115 :: u 116 :: u 117 :: u 118 :: u 119 :: u 120 :: u 121 :: u 122 :: u 123 :: u 124 :: u 125 :: u 126 :: u 127 :: u 128 :: u 129 :: u 130 :: u 131 :: u 132 :: u 133 :: u 134 :: u 135 :: u 136 :: u 137 :: u 138 :: u 139 :: u 140 :: u 141 :: u 142 :: u 143 :: u 144 :: u 145 :: u 146 :: u 147 :: u 148 :: u 149 :: u 150 :: u 151 :: u 152 :: u 153 :: u 154 :: u 155 :: u 156 :: u 157 :: u 158 :: u 159 :: u 160 :: u 161 :: u 162 :: u 163 :: u 164 :: u 165 :: u 166 :: u 167 :: u 168 :: u 169 :: u 170 :: u 171 :: u 172 :: u 173 :: u 174 :: u 175 :: u 176 :: u 177 :: u 178 :: u 179 :: u 180 :: u 181 :: u 182 :: u 183 :: u 184 :: u 185 :: u 186 :: u 187 :: u 188 :: u 189 :: u 190 :: u 191 :: u 192 :: u 193 :: u 194 :: u 195 :: u 196 :: u 197 :: u 198 :: u 199 :: u 200 :: u 201 :: u 202 :: u 203 :: u 204 :: u 205 :: u 206 :: u 207 :: u 208 :: u 209 :: u 210 :: u 211 :: u 212 :: u 213 :: u 214 :: u 215 :: u 216 :: u 217 :: u 218 :: u 219 :: u 220 :: []), []⟩) → K a W := by
      clear qy
      rintro W B1 B2 k1 k2 a hF qy o1 o2 ⟨u, rfl⟩
      refine hK _ _ ?_
      clear hK
      have N6 := hF.toBelow NY NY.size (fun x hx => by omega)
      have hz6 : B0 ≤ W.heap.size := by have := hF.size; have := HB0.out; omega
      clear q0e htme hF NY
      replace htm := htm.go N6
      replace hL := hL.go N6
      replace hwd := (hwd.below N6).up N6.size
      replace q0 := q0.below N6 q0.lt
      have B_W := ex_trans B_V30 N6
      have a0 : W.cell? ⟨pq0, 0, none⟩ = some (.slice Ar t.rates.length cr) := q0.cell 0
      have a1 : W.cell? ⟨pq0, 1, none⟩ = some (.slice Ah t.hours.length ch) := q0.cell 1
      have a2 : W.cell? ⟨pq0, 2, none⟩ = some (.int .i64 t.limit) := q0.cell 2
      have a3 : W.cell? ⟨pq0, 3, none⟩ = some (.int .i64 t.most) := q0.cell 3
      have la := q0.lt
      have y0 : W.cell? ⟨py, 0, none⟩ = some (.slice B1 t.rates.length k1) := qy.cell 0
      have y1 : W.cell? ⟨py, 1, none⟩ = some (.slice B2 t.hours.length k2) := qy.cell 1
      have y2 : W.cell? ⟨py, 2, none⟩ = some (.int .i64 t.limit) := qy.cell 2
      have y3 : W.cell? ⟨py, 3, none⟩ = some (.int .i64 t.most) := qy.cell 3
      have ly := qy.lt
      have m40 : 0 ≤ m4 ∧ m4 ≤ 255 := h4
      have m30 : 0 ≤ m3 ∧ m3 ≤ 255 := h3
      have kk_0 : 0 ≤ (m4 : Int) % (t.rates.length : Int) := Int.emod_nonneg _ (by omega)
      have kk_1 : (m4 : Int) % (t.rates.length : Int) < (t.rates.length : Int) := Int.emod_lt_of_pos _ (by omega)
      obtain ⟨kk, eq_kk⟩ : ∃ x : Nat, (m4 : Int) % (t.rates.length : Int) = (x : Int) := ⟨((m4 : Int) % (t.rates.length : Int)).toNat, by omega⟩
      have lkk : kk < t.rates.length := by omega
      have hn0 : ¬ (t.rates.length : Int) = 0 := by omega
      have hn0' : ((t.rates.length : Int) == 0) = false := by rw [beq_eq_false_iff_ne]; exact hn0
      have HKK := Lib.hid eq_kk
      clear eq_kk
      go_upto_region 21 with fail
      rw [HKK.out]
      by_cases c0 : m3 % 4 = 0
      · have e0 : (m3 % 4 == 0) = true := by rw [c0]; rfl
        clear c0
        have hlm := HT.out.limit
        have kw1 : IntKind.i64.wrap (t.limit + m4) = t.limit + m4 := IntWalk.i64_in _ (by omega)
        have hq2 := qy.set_ 2 (.int .i64 (min 1000 (t.limit + m4)))
        simp only [List.setIfInBounds_toArray, List.set_cons_zero, List.set_cons_succ] at hq2
        have fy := qy.frozen0
        have o1' := own_far o1 (p := ⟨py, 2, none⟩) (by show py < B0; omega) (.int .i64 (min 1000 (t.limit + m4)))
        have o2' := own_far o2 (p := ⟨py, 2, none⟩) (by show py < B0; omega) (.int .i64 (min 1000 (t.limit + m4)))
        have hN : Below Wl.heap.size Wl (W.setCell ⟨py, 2, none⟩ (.int .i64 (min 1000 (t.limit + m4)))) := ex_set N6 (by show Wl.heap.size ≤ py; omega) _
        go_upto_region 29 with fail
        clear a0 a1 a2 a3 la
        clear y0 y1 y2 y3 ly
        clear fy qy o1 o2
        generalize W.setCell ⟨py, 2, none⟩ (.int .i64 (min 1000 (t.limit + m4))) = Wn at *
        replace q0 := q0z.out.below hN q0z.out.lt
        replace htm := htmz.out.go hN
        have B_Wn := ex_trans B_V30 hN
        obtain ⟨A6', c6', e6, _, _, ro1⟩ := lay_Rg 52 o1'
        injection e6 with e61 e60 e62
        subst e61 e62
        obtain ⟨A7', c7', e7, _, _, ro2⟩ := lay_ints o2'
        injection e7 with e71 e70 e72
        subst e71 e72
        have hxt : TmIn Wn Wn.heap.size (⟨t.rates, t.hours, min 1000 (t.limit + m4), t.most⟩ : Tm) B1 B2 := ⟨ro1.sl, ro2.sl⟩
        clear ro1 ro2 e60 e70
        have a0 : Wn.cell? ⟨pq0, 0, none⟩ = some (.slice Ar t.rates.length cr) := q0.cell 0
        have a1 : Wn.cell? ⟨pq0, 1, none⟩ = some (.slice Ah t.hours.length ch) := q0.cell 1
        have a2 : Wn.cell? ⟨pq0, 2, none⟩ = some (.int .i64 t.limit) := q0.cell 2
        have a3 : Wn.cell? ⟨pq0, 3, none⟩ = some (.int .i64 t.most) := q0.cell 3
        have la := q0.lt
        have y0 : Wn.cell? ⟨py, 0, none⟩ = some (.slice B1 t.rates.length k1) := hq2.cell 0
        have y1 : Wn.cell? ⟨py, 1, none⟩ = some (.slice B2 t.hours.length k2) := hq2.cell 1
        have y2 : Wn.cell? ⟨py, 2, none⟩ = some (.int .i64 (min 1000 (t.limit + m4))) := hq2.cell 2
        have y3 : Wn.cell? ⟨py, 3, none⟩ = some (.int .i64 t.most) := hq2.cell 3
        have ly := hq2.lt
        have HEA : Hid (Easier t (⟨t.rates, t.hours, min 1000 (t.limit + m4), t.most⟩ : Tm)) := Lib.hid (easy_lim HT.out (b := m4) h4.1)
        have HSX : Hid ((⟨t.rates, t.hours, min 1000 (t.limit + m4), t.most⟩ : Tm).rates.length ≤ 1000 ∧ (⟨t.rates, t.hours, min 1000 (t.limit + m4), t.most⟩ : Tm).hours.length ≤ 1000) := Lib.hid (by have h1 := HEA.out.ok.len; omega)
        go_wp2_with fail
        refine (Team_any (⟨t.rates, t.hours, min 1000 (t.limit + m4), t.most⟩ : Tm) B1 B2 k1 k2 Wn hxt HSX.out).mono ?_
        rintro e V31 ⟨⟨⟨Ar7, Ah7, cr7, ch7, rfl, ht7⟩⟩, hV31⟩
        replace q0 := q0.below hV31 q0.lt
        replace htm := htm.go hV31
        replace hq2 := hq2.below hV31 hq2.lt
        replace hxt := hxt.go hV31
        have B_V31 := ex_trans B_Wn hV31
        clear hxt
        clear a0 a1 a2 a3 la
        have a0 : V31.cell? ⟨pq0, 0, none⟩ = some (.slice Ar t.rates.length cr) := q0.cell 0
        have a1 : V31.cell? ⟨pq0, 1, none⟩ = some (.slice Ah t.hours.length ch) := q0.cell 1
        have a2 : V31.cell? ⟨pq0, 2, none⟩ = some (.int .i64 t.limit) := q0.cell 2
        have a3 : V31.cell? ⟨pq0, 3, none⟩ = some (.int .i64 t.most) := q0.cell 3
        have la := q0.lt
        go_wp2_with fail
        refine (Roster_any (⟨t.rates, t.hours, min 1000 (t.limit + m4), t.most⟩ : Tm) Ar7 Ah7 cr7 ch7 V31 ht7 HSX.out).mono ?_
        rintro e V32 ⟨⟨⟨Am, nm, cm, rfl, hyes2, hno2⟩⟩, hV32⟩
        replace q0 := q0.below hV32 q0.lt
        replace htm := htm.go hV32
        replace hq2 := hq2.below hV32 hq2.lt
        replace ht7 := ht7.go hV32
        have B_V32 := ex_trans B_V31 hV32
        clear ht7
        clear a0 a1 a2 a3 la
        have a0 : V32.cell? ⟨pq0, 0, none⟩ = some (.slice Ar t.rates.length cr) := q0.cell 0
        have a1 : V32.cell? ⟨pq0, 1, none⟩ = some (.slice Ah t.hours.length ch) := q0.cell 1
        have a2 : V32.cell? ⟨pq0, 2, none⟩ = some (.int .i64 t.limit) := q0.cell 2
        have a3 : V32.cell? ⟨pq0, 3, none⟩ = some (.int .i64 t.most) := q0.cell 3
        have la := q0.lt
        obtain ⟨fe, hfe⟩ : ∃ x, roE (⟨t.rates, t.hours, min 1000 (t.limit + m4), t.most⟩ : Tm) = x := ⟨_, rfl⟩
        rw [hfe]
        clear hyes2 hno2 hfe
        go_wp2_with fail
        refine (awake_any V32).mono ?_
        rintro e Wz ⟨rfl, hz⟩
        go_wp2
        go_ret
        exact ⟨rfl, ex_trans B_V32 hz⟩
      have e0 : (m3 % 4 == 0) = false := by rw [beq_eq_false_iff_ne]; exact c0
      by_cases c1 : m3 % 4 = 1
      · have e1 : (m3 % 4 == 1) = true := by rw [c1]; rfl
        clear c1 c0
        have hlm := HT.out.most
        have kw1 : IntKind.i64.wrap (t.most + 1) = t.most + 1 := IntWalk.i64_in _ (by omega)
        have hq2 := qy.set_ 3 (.int .i64 (min 8 (t.most + 1)))
        simp only [List.setIfInBounds_toArray, List.set_cons_zero, List.set_cons_succ] at hq2
        have fy := qy.frozen0
        have o1' := own_far o1 (p := ⟨py, 3, none⟩) (by show py < B0; omega) (.int .i64 (min 8 (t.most + 1)))
        have o2' := own_far o2 (p := ⟨py, 3, none⟩) (by show py < B0; omega) (.int .i64 (min 8 (t.most + 1)))
        have hN : Below Wl.heap.size Wl (W.setCell ⟨py, 3, none⟩ (.int .i64 (min 8 (t.most + 1)))) := ex_set N6 (by show Wl.heap.size ≤ py; omega) _
        go_upto_region 29 with fail
        clear a0 a1 a2 a3 la
        clear y0 y1 y2 y3 ly
        clear fy qy o1 o2
        generalize W.setCell ⟨py, 3, none⟩ (.int .i64 (min 8 (t.most + 1))) = Wn at *
        replace q0 := q0z.out.below hN q0z.out.lt
        replace htm := htmz.out.go hN
        have B_Wn := ex_trans B_V30 hN
        obtain ⟨A6', c6', e6, _, _, ro1⟩ := lay_Rg 52 o1'
        injection e6 with e61 e60 e62
        subst e61 e62
        obtain ⟨A7', c7', e7, _, _, ro2⟩ := lay_ints o2'
        injection e7 with e71 e70 e72
        subst e71 e72
        have hxt : TmIn Wn Wn.heap.size (⟨t.rates, t.hours, t.limit, min 8 (t.most + 1)⟩ : Tm) B1 B2 := ⟨ro1.sl, ro2.sl⟩
        clear ro1 ro2 e60 e70
        have a0 : Wn.cell? ⟨pq0, 0, none⟩ = some (.slice Ar t.rates.length cr) := q0.cell 0
        have a1 : Wn.cell? ⟨pq0, 1, none⟩ = some (.slice Ah t.hours.length ch) := q0.cell 1
        have a2 : Wn.cell? ⟨pq0, 2, none⟩ = some (.int .i64 t.limit) := q0.cell 2
        have a3 : Wn.cell? ⟨pq0, 3, none⟩ = some (.int .i64 t.most) := q0.cell 3
        have la := q0.lt
        have y0 : Wn.cell? ⟨py, 0, none⟩ = some (.slice B1 t.rates.length k1) := hq2.cell 0
        have y1 : Wn.cell? ⟨py, 1, none⟩ = some (.slice B2 t.hours.length k2) := hq2.cell 1
        have y2 : Wn.cell? ⟨py, 2, none⟩ = some (.int .i64 t.limit) := hq2.cell 2
        have y3 : Wn.cell? ⟨py, 3, none⟩ = some (.int .i64 (min 8 (t.most + 1))) := hq2.cell 3
        have ly := hq2.lt
        have HEA : Hid (Easier t (⟨t.rates, t.hours, t.limit, min 8 (t.most + 1)⟩ : Tm)) := Lib.hid (easy_most HT.out)
        have HSX : Hid ((⟨t.rates, t.hours, t.limit, min 8 (t.most + 1)⟩ : Tm).rates.length ≤ 1000 ∧ (⟨t.rates, t.hours, t.limit, min 8 (t.most + 1)⟩ : Tm).hours.length ≤ 1000) := Lib.hid (by have h1 := HEA.out.ok.len; omega)
        go_wp2_with fail
        refine (Team_any (⟨t.rates, t.hours, t.limit, min 8 (t.most + 1)⟩ : Tm) B1 B2 k1 k2 Wn hxt HSX.out).mono ?_
        rintro e V33 ⟨⟨⟨Ar7, Ah7, cr7, ch7, rfl, ht7⟩⟩, hV33⟩
        replace q0 := q0.below hV33 q0.lt
        replace htm := htm.go hV33
        replace hq2 := hq2.below hV33 hq2.lt
        replace hxt := hxt.go hV33
        have B_V33 := ex_trans B_Wn hV33
        clear hxt
        clear a0 a1 a2 a3 la
        have a0 : V33.cell? ⟨pq0, 0, none⟩ = some (.slice Ar t.rates.length cr) := q0.cell 0
        have a1 : V33.cell? ⟨pq0, 1, none⟩ = some (.slice Ah t.hours.length ch) := q0.cell 1
        have a2 : V33.cell? ⟨pq0, 2, none⟩ = some (.int .i64 t.limit) := q0.cell 2
        have a3 : V33.cell? ⟨pq0, 3, none⟩ = some (.int .i64 t.most) := q0.cell 3
        have la := q0.lt
        go_wp2_with fail
        refine (Roster_any (⟨t.rates, t.hours, t.limit, min 8 (t.most + 1)⟩ : Tm) Ar7 Ah7 cr7 ch7 V33 ht7 HSX.out).mono ?_
        rintro e V34 ⟨⟨⟨Am, nm, cm, rfl, hyes2, hno2⟩⟩, hV34⟩
        replace q0 := q0.below hV34 q0.lt
        replace htm := htm.go hV34
        replace hq2 := hq2.below hV34 hq2.lt
        replace ht7 := ht7.go hV34
        have B_V34 := ex_trans B_V33 hV34
        clear ht7
        clear a0 a1 a2 a3 la
        have a0 : V34.cell? ⟨pq0, 0, none⟩ = some (.slice Ar t.rates.length cr) := q0.cell 0
        have a1 : V34.cell? ⟨pq0, 1, none⟩ = some (.slice Ah t.hours.length ch) := q0.cell 1
        have a2 : V34.cell? ⟨pq0, 2, none⟩ = some (.int .i64 t.limit) := q0.cell 2
        have a3 : V34.cell? ⟨pq0, 3, none⟩ = some (.int .i64 t.most) := q0.cell 3
        have la := q0.lt
        obtain ⟨fe, hfe⟩ : ∃ x, roE (⟨t.rates, t.hours, t.limit, min 8 (t.most + 1)⟩ : Tm) = x := ⟨_, rfl⟩
        rw [hfe]
        clear hyes2 hno2 hfe
        go_wp2_with fail
        refine (awake_any V34).mono ?_
        rintro e Wz ⟨rfl, hz⟩
        go_wp2
        go_ret
        exact ⟨rfl, ex_trans B_V34 hz⟩
      have e1 : (m3 % 4 == 1) = false := by rw [beq_eq_false_iff_ne]; exact c1
      by_cases c2 : m3 % 4 = 2
      · have e2 : (m3 % 4 == 2) = true := by rw [c2]; rfl
        clear c2 c1 c0
        have lkh : kk < t.hours.length := by rw [HHL.out]; exact lkk
        have lkh' : (kk : Int) < (t.hours.length : Int) := by omega
        obtain ⟨g, cap, ev, hgB, hgW, hcl, hfz⟩ := row_at (f := cI1) (sz := 1) (fun _ => rfl) (by omega) o2 lkh
        injection ev with ev1 ev2 ev3
        clear ev2
        subst ev1 ev3
        have c9 : W.cell? ⟨g, kk, none⟩ = some (.int .i64 (gI t.hours kk)) := by have := hcl 0 (by omega); rw [show kk * 1 + 0 = kk by omega] at this; rw [this]; simp [cI1, gI, lkh]
        have f9 := hfz kk
        have hh8 := HT.out.hour kk lkk
        obtain ⟨hv, hhv⟩ : ∃ x, gI t.hours kk = x := ⟨_, rfl⟩
        rw [hhv] at c9 hh8
        have HHV := Lib.hid hhv
        have kw1 : IntKind.i64.wrap (hv - 1) = hv - 1 := IntWalk.i64_in _ (by omega)
        have op := row_put (f := cI1) (sz := 1) (fun _ => rfl) o2 (g := g) rfl lkh (j := 0) (by omega) (u := .int .i64 (max 0 (hv - 1))) (a := max 0 (hv - 1)) rfl
        rw [show kk * 1 + 0 = kk by omega] at op
        clear hcl hfz hhv
        clear y1
        have y1 : W.cell? ⟨py, 1, none⟩ = some (.slice (some ⟨g, 0, none⟩) t.hours.length k2) := qy.cell 1
        have o1' := own_below (own_fr o1 (Fr.set (R := fun x => x = g) W g kk (.int .i64 (max 0 (hv - 1))) rfl) (fun b hb e => own_ownne o1 o2 (by decide) hb (by rw [show b = g from e]; rfl))) (Below.refl _ _).drew
        have o2' := own_below op (Below.refl _ _).drew
        have hqy' := (qy.far (p := ⟨g, kk, none⟩) (by show py ≠ g; omega) (.int .i64 (max 0 (hv - 1)))).below (Below.refl _ _).drew (qy.far (p := ⟨g, kk, none⟩) (by show py ≠ g; omega) (.int .i64 (max 0 (hv - 1)))).lt
        have hN : Below Wl.heap.size Wl (W.setCell ⟨g, kk, none⟩ (.int .i64 (max 0 (hv - 1)))).drew := (ex_set N6 (p := ⟨g, kk, none⟩) (by show Wl.heap.size ≤ g; omega) (.int .i64 (max 0 (hv - 1)))).drew
        go_upto_region 28 with fail
        have D28 := (Below.refl W.heap.size W).drew
        refine wp_region_ext_mix 11 [(false, 0), (false, 1), (false, 2), (false, 3), (false, 4), (false, 5), (false, 6), (false, 7), (false, 8), (true, 9), (false, 10)] (by kernel_rfl) (by kernel_rfl) (by intro d _ _ _ _ h; cases d <;> exact h) ?_
        repeat (refine mix_quiet rfl ?_; go_big_quiet_step (fail); refine wpQuiet_nil ?_)
        refine mix_loud rfl ?_
        go_wp2_with fail
        refine ⟨inEx D28, ?_⟩
        repeat (refine mix_quiet rfl ?_; go_big_quiet_step (fail); refine wpQuiet_nil ?_)
        refine mix_nil (r := [_]) rfl ?_
        go_upto_region 29 with fail
        clear a0 a1 a2 a3 la
        clear y0 y1 y2 y3 ly
        clear c9 f9 qy o1 o2 op D28
        generalize (W.setCell ⟨g, kk, none⟩ (.int .i64 (max 0 (hv - 1)))).drew = Wn at *
        have HH2 : Hid (t.hours.set kk (max 0 (gI t.hours kk - 1)) = t.hours.set kk (max 0 (hv - 1))) := Lib.hid (by rw [HHV.out])
        obtain ⟨H2, hH2⟩ : ∃ H2, t.hours.set kk (max 0 (hv - 1)) = H2 := ⟨_, rfl⟩
        rw [hH2] at o2' HH2
        have hl2 : t.hours.length = H2.length := by rw [← hH2, List.length_set]
        rw [hl2] at hqy'
        have HL2 := Lib.hid hl2
        clear hH2 hl2
        replace q0 := q0z.out.below hN q0z.out.lt
        replace htm := htmz.out.go hN
        have B_Wn := ex_trans B_V30 hN
        obtain ⟨A6', c6', e6, _, _, ro1⟩ := lay_Rg 52 o1'
        injection e6 with e61 e60 e62
        subst e61 e62
        obtain ⟨A7', c7', e7, _, _, ro2⟩ := lay_ints o2'
        injection e7 with e71 e70 e72
        subst e71 e72
        have hxt : TmIn Wn Wn.heap.size (⟨t.rates, H2, t.limit, t.most⟩ : Tm) B1 (some ⟨g, 0, none⟩) := ⟨ro1.sl, ro2.sl⟩
        clear ro1 ro2 e60 e70
        have a0 : Wn.cell? ⟨pq0, 0, none⟩ = some (.slice Ar t.rates.length cr) := q0.cell 0
        have a1 : Wn.cell? ⟨pq0, 1, none⟩ = some (.slice Ah t.hours.length ch) := q0.cell 1
        have a2 : Wn.cell? ⟨pq0, 2, none⟩ = some (.int .i64 t.limit) := q0.cell 2
        have a3 : Wn.cell? ⟨pq0, 3, none⟩ = some (.int .i64 t.most) := q0.cell 3
        have la := q0.lt
        have y0 : Wn.cell? ⟨py, 0, none⟩ = some (.slice B1 t.rates.length k1) := hqy'.cell 0
        have y1 : Wn.cell? ⟨py, 1, none⟩ = some (.slice (some ⟨g, 0, none⟩) H2.length k2) := hqy'.cell 1
        have y2 : Wn.cell? ⟨py, 2, none⟩ = some (.int .i64 t.limit) := hqy'.cell 2
        have y3 : Wn.cell? ⟨py, 3, none⟩ = some (.int .i64 t.most) := hqy'.cell 3
        have ly := hqy'.lt
        have HEA : Hid (Easier t (⟨t.rates, H2, t.limit, t.most⟩ : Tm)) := Lib.hid (by have h := easy_hour HT.out lkk; unfold tHour at h; rw [HH2.out] at h; exact h)
        have HSX : Hid ((⟨t.rates, H2, t.limit, t.most⟩ : Tm).rates.length ≤ 1000 ∧ (⟨t.rates, H2, t.limit, t.most⟩ : Tm).hours.length ≤ 1000) := Lib.hid (by have h1 := HEA.out.ok.len; omega)
        go_wp2_with fail
        refine (Team_any (⟨t.rates, H2, t.limit, t.most⟩ : Tm) B1 (some ⟨g, 0, none⟩) k1 k2 Wn hxt HSX.out).mono ?_
        rintro e V35 ⟨⟨⟨Ar7, Ah7, cr7, ch7, rfl, ht7⟩⟩, hV35⟩
        replace q0 := q0.below hV35 q0.lt
        replace htm := htm.go hV35
        replace hqy' := hqy'.below hV35 hqy'.lt
        replace hxt := hxt.go hV35
        have B_V35 := ex_trans B_Wn hV35
        clear hxt
        clear a0 a1 a2 a3 la
        have a0 : V35.cell? ⟨pq0, 0, none⟩ = some (.slice Ar t.rates.length cr) := q0.cell 0
        have a1 : V35.cell? ⟨pq0, 1, none⟩ = some (.slice Ah t.hours.length ch) := q0.cell 1
        have a2 : V35.cell? ⟨pq0, 2, none⟩ = some (.int .i64 t.limit) := q0.cell 2
        have a3 : V35.cell? ⟨pq0, 3, none⟩ = some (.int .i64 t.most) := q0.cell 3
        have la := q0.lt
        go_wp2_with fail
        refine (Roster_any (⟨t.rates, H2, t.limit, t.most⟩ : Tm) Ar7 Ah7 cr7 ch7 V35 ht7 HSX.out).mono ?_
        rintro e V36 ⟨⟨⟨Am, nm, cm, rfl, hyes2, hno2⟩⟩, hV36⟩
        replace q0 := q0.below hV36 q0.lt
        replace htm := htm.go hV36
        replace hqy' := hqy'.below hV36 hqy'.lt
        replace ht7 := ht7.go hV36
        have B_V36 := ex_trans B_V35 hV36
        clear ht7
        clear a0 a1 a2 a3 la
        have a0 : V36.cell? ⟨pq0, 0, none⟩ = some (.slice Ar t.rates.length cr) := q0.cell 0
        have a1 : V36.cell? ⟨pq0, 1, none⟩ = some (.slice Ah t.hours.length ch) := q0.cell 1
        have a2 : V36.cell? ⟨pq0, 2, none⟩ = some (.int .i64 t.limit) := q0.cell 2
        have a3 : V36.cell? ⟨pq0, 3, none⟩ = some (.int .i64 t.most) := q0.cell 3
        have la := q0.lt
        obtain ⟨fe, hfe⟩ : ∃ x, roE (⟨t.rates, H2, t.limit, t.most⟩ : Tm) = x := ⟨_, rfl⟩
        rw [hfe]
        clear hyes2 hno2 hfe
        go_wp2_with fail
        refine (awake_any V36).mono ?_
        rintro e Wz ⟨rfl, hz⟩
        go_wp2
        go_ret
        exact ⟨rfl, ex_trans B_V36 hz⟩
      have e2 : (m3 % 4 == 2) = false := by rw [beq_eq_false_iff_ne]; exact c2
      clear c2 c1 c0
      · have lkk' : (kk : Int) < (t.rates.length : Int) := by omega
        obtain ⟨g, cap, ev, hgB, hgW, hcl, hfz⟩ := row_at (f := cR2) (sz := 2) (fun _ => rfl) (by omega) o1 lkk
        injection ev with ev1 ev2 ev3
        clear ev2
        subst ev1 ev3
        have hg : gR t.rates kk = t.rates[kk] := by simp [gR, lkk]
        have c8 : W.cell? ⟨g, kk * 2, none⟩ = some (.int .i64 (gR t.rates kk).lo) := by have := hcl 0 (by omega); rw [Nat.add_zero] at this; rw [this, hg]; rfl
        have c9 : W.cell? ⟨g, kk * 2 + 1, none⟩ = some (.int .i64 (gR t.rates kk).hi) := by have := hcl 1 (by omega); rw [this, hg]; rfl
        have f9 := hfz (kk * 2 + 1)
        have hr8 := HT.out.rate kk lkk
        obtain ⟨lo, hlo⟩ : ∃ x, (gR t.rates kk).lo = x := ⟨_, rfl⟩
        obtain ⟨hh, hhh⟩ : ∃ x, (gR t.rates kk).hi = x := ⟨_, rfl⟩
        rw [hlo] at c8 hr8
        rw [hhh] at c9 hr8
        obtain ⟨qq, hqq⟩ : ∃ x, m4 / 4 = x := ⟨_, rfl⟩
        have hqb : 0 ≤ qq ∧ qq ≤ 63 := by omega
        have HQQ := Lib.hid hqq
        have kw1 : IntKind.i64.wrap (hh - qq) = hh - qq := IntWalk.i64_in _ (by omega)
        have kw2 : IntKind.i64.wrap (hh - m4 / 4) = hh - qq := by rw [hqq]; exact kw1
        have HLH := Lib.hid (And.intro hlo hhh)
        have op := row_put (f := cR2) (sz := 2) (fun _ => rfl) o1 (g := g) rfl lkk (j := 1) (by omega) (u := .int .i64 (max lo (hh - qq))) (a := ⟨lo, max lo (hh - qq)⟩) (by rw [← hg]; show [Value.int .i64 (gR t.rates kk).lo, _] = _; rw [hlo]; rfl)
        clear hcl hfz hlo hhh hqq hg
        clear y0
        have y0 : W.cell? ⟨py, 0, none⟩ = some (.slice (some ⟨g, 0, none⟩) t.rates.length k1) := qy.cell 0
        have o2' := own_below (own_fr o2 (Fr.set (R := fun x => x = g) W g (kk * 2 + 1) (.int .i64 (max lo (hh - qq))) rfl) (fun b hb e => own_ownne o2 o1 (by decide) hb (by rw [show b = g from e]; rfl))) (Below.refl _ _).drew
        have o1' := own_below op (Below.refl _ _).drew
        have hqy' := (qy.far (p := ⟨g, kk * 2 + 1, none⟩) (by show py ≠ g; omega) (.int .i64 (max lo (hh - qq)))).below (Below.refl _ _).drew (qy.far (p := ⟨g, kk * 2 + 1, none⟩) (by show py ≠ g; omega) (.int .i64 (max lo (hh - qq)))).lt
        have hN : Below Wl.heap.size Wl (W.setCell ⟨g, kk * 2 + 1, none⟩ (.int .i64 (max lo (hh - qq)))).drew := (ex_set N6 (p := ⟨g, kk * 2 + 1, none⟩) (by show Wl.heap.size ≤ g; omega) (.int .i64 (max lo (hh - qq)))).drew
        go_upto_region 22 with fail
        have D22 := (Below.refl W.heap.size W).drew
        refine wp_region_ext_mix 22 [(false, 0), (false, 1), (false, 2), (false, 3), (false, 4), (false, 5), (false, 6), (false, 7), (false, 8), (false, 9), (false, 10), (false, 11), (false, 12), (false, 13), (false, 14), (false, 15), (false, 16), (false, 17), (false, 18), (true, 19), (false, 20), (false, 21)] (by kernel_rfl) (by kernel_rfl) (by intro d _ _ _ _ h; cases d <;> exact h) ?_
        repeat (refine mix_quiet rfl ?_; go_big_quiet_step (fail); refine wpQuiet_nil ?_)
        refine mix_loud rfl ?_
        go_wp2_with fail
        refine ⟨inEx D22, ?_⟩
        repeat (refine mix_quiet rfl ?_; go_big_quiet_step (fail); refine wpQuiet_nil ?_)
        refine mix_nil (r := [_]) rfl ?_
        go_upto_region 29 with fail
        clear a0 a1 a2 a3 la
        clear y0 y1 y2 y3 ly
        clear c8 c9 f9 qy o1 o2 op D22
        generalize (W.setCell ⟨g, kk * 2 + 1, none⟩ (.int .i64 (max lo (hh - qq)))).drew = Wn at *
        have HH2 : Hid (t.rates.set kk ⟨(gR t.rates kk).lo, max (gR t.rates kk).lo ((gR t.rates kk).hi - qq)⟩ = t.rates.set kk ⟨lo, max lo (hh - qq)⟩) := Lib.hid (by rw [HLH.out.1, HLH.out.2])
        obtain ⟨H2, hH2⟩ : ∃ H2, t.rates.set kk ⟨lo, max lo (hh - qq)⟩ = H2 := ⟨_, rfl⟩
        rw [hH2] at o1' HH2
        have hl2 : t.rates.length = H2.length := by rw [← hH2, List.length_set]
        rw [hl2] at hqy'
        have HL2 := Lib.hid hl2
        clear hH2 hl2
        replace q0 := q0z.out.below hN q0z.out.lt
        replace htm := htmz.out.go hN
        have B_Wn := ex_trans B_V30 hN
        obtain ⟨A6', c6', e6, _, _, ro1⟩ := lay_Rg 52 o1'
        injection e6 with e61 e60 e62
        subst e61 e62
        obtain ⟨A7', c7', e7, _, _, ro2⟩ := lay_ints o2'
        injection e7 with e71 e70 e72
        subst e71 e72
        have hxt : TmIn Wn Wn.heap.size (⟨H2, t.hours, t.limit, t.most⟩ : Tm) (some ⟨g, 0, none⟩) B2 := ⟨ro1.sl, ro2.sl⟩
        clear ro1 ro2 e60 e70
        have a0 : Wn.cell? ⟨pq0, 0, none⟩ = some (.slice Ar t.rates.length cr) := q0.cell 0
        have a1 : Wn.cell? ⟨pq0, 1, none⟩ = some (.slice Ah t.hours.length ch) := q0.cell 1
        have a2 : Wn.cell? ⟨pq0, 2, none⟩ = some (.int .i64 t.limit) := q0.cell 2
        have a3 : Wn.cell? ⟨pq0, 3, none⟩ = some (.int .i64 t.most) := q0.cell 3
        have la := q0.lt
        have y0 : Wn.cell? ⟨py, 0, none⟩ = some (.slice (some ⟨g, 0, none⟩) H2.length k1) := hqy'.cell 0
        have y1 : Wn.cell? ⟨py, 1, none⟩ = some (.slice B2 t.hours.length k2) := hqy'.cell 1
        have y2 : Wn.cell? ⟨py, 2, none⟩ = some (.int .i64 t.limit) := hqy'.cell 2
        have y3 : Wn.cell? ⟨py, 3, none⟩ = some (.int .i64 t.most) := hqy'.cell 3
        have ly := hqy'.lt
        have HEA : Hid (Easier t (⟨H2, t.hours, t.limit, t.most⟩ : Tm)) := Lib.hid (by have h := easy_rate HT.out lkk (q := qq) hqb.1; unfold tRate at h; rw [HH2.out] at h; exact h)
        have HSX : Hid ((⟨H2, t.hours, t.limit, t.most⟩ : Tm).rates.length ≤ 1000 ∧ (⟨H2, t.hours, t.limit, t.most⟩ : Tm).hours.length ≤ 1000) := Lib.hid (by have h1 := HEA.out.ok.len; omega)
        go_wp2_with fail
        refine (Team_any (⟨H2, t.hours, t.limit, t.most⟩ : Tm) (some ⟨g, 0, none⟩) B2 k1 k2 Wn hxt HSX.out).mono ?_
        rintro e V37 ⟨⟨⟨Ar7, Ah7, cr7, ch7, rfl, ht7⟩⟩, hV37⟩
        replace q0 := q0.below hV37 q0.lt
        replace htm := htm.go hV37
        replace hqy' := hqy'.below hV37 hqy'.lt
        replace hxt := hxt.go hV37
        have B_V37 := ex_trans B_Wn hV37
        clear hxt
        clear a0 a1 a2 a3 la
        have a0 : V37.cell? ⟨pq0, 0, none⟩ = some (.slice Ar t.rates.length cr) := q0.cell 0
        have a1 : V37.cell? ⟨pq0, 1, none⟩ = some (.slice Ah t.hours.length ch) := q0.cell 1
        have a2 : V37.cell? ⟨pq0, 2, none⟩ = some (.int .i64 t.limit) := q0.cell 2
        have a3 : V37.cell? ⟨pq0, 3, none⟩ = some (.int .i64 t.most) := q0.cell 3
        have la := q0.lt
        go_wp2_with fail
        refine (Roster_any (⟨H2, t.hours, t.limit, t.most⟩ : Tm) Ar7 Ah7 cr7 ch7 V37 ht7 HSX.out).mono ?_
        rintro e V38 ⟨⟨⟨Am, nm, cm, rfl, hyes2, hno2⟩⟩, hV38⟩
        replace q0 := q0.below hV38 q0.lt
        replace htm := htm.go hV38
        replace hqy' := hqy'.below hV38 hqy'.lt
        replace ht7 := ht7.go hV38
        have B_V38 := ex_trans B_V37 hV38
        clear ht7
        clear a0 a1 a2 a3 la
        have a0 : V38.cell? ⟨pq0, 0, none⟩ = some (.slice Ar t.rates.length cr) := q0.cell 0
        have a1 : V38.cell? ⟨pq0, 1, none⟩ = some (.slice Ah t.hours.length ch) := q0.cell 1
        have a2 : V38.cell? ⟨pq0, 2, none⟩ = some (.int .i64 t.limit) := q0.cell 2
        have a3 : V38.cell? ⟨pq0, 3, none⟩ = some (.int .i64 t.most) := q0.cell 3
        have la := q0.lt
        obtain ⟨fe, hfe⟩ : ∃ x, roE (⟨H2, t.hours, t.limit, t.most⟩ : Tm) = x := ⟨_, rfl⟩
        rw [hfe]
        clear hyes2 hno2 hfe
        go_wp2_with fail
        refine (awake_any V38).mono ?_
        rintro e Wz ⟨rfl, hz⟩
        go_wp2
        go_ret
        exact ⟨rfl, ex_trans B_V38 hz⟩
    clear hK
    have y0 : Ve.cell? ⟨py, 0, none⟩ = some (.slice Ar t.rates.length cr) := qy.cell 0
    have y1 : Ve.cell? ⟨py, 1, none⟩ = some (.slice Ah t.hours.length ch) := qy.cell 1
    have ly := qy.lt
    have x0 : Ve.cell? ⟨pq0, 0, none⟩ = some (.slice Ar t.rates.length cr) := q0e.cell 0
    have x1 : Ve.cell? ⟨pq0, 1, none⟩ = some (.slice Ah t.hours.length ch) := q0e.cell 1
    have lx := q0e.lt
    have nx9 : ¬ pq0 = py := by omega
    have D := (Below.refl Ve.heap.size Ve).drew
    refine wp_region_fx_tq (fun b => b = py) 11 (.quiet 1 (.quiet 2 (.quiet 5 (.quiet 6 (.fork 0 (.fork 3 (.quiet 8 (.loud 4 (.loud 7 (.loud 9 (.quiet 10 .done))))) 4 (.loud 3 (.quiet 8 (.loud 7 (.loud 9 (.quiet 10 .done)))))) 4 (.loud 0 (.loud 3 (.quiet 8 (.loud 7 (.loud 9 (.quiet 10 .done))))))))))) (by kernel_rfl) (by kernel_rfl) (by intro d _ _ _ _ h; cases d <;> exact h) ?_
    repeat (refine tq_quiet rfl ?_; go_big_quiet_step (fail); refine wpQuiet_nil ?_)
    obtain ⟨U0, hY⟩ : ∃ Y, Ve.drew = Y := ⟨_, rfl⟩
    rw [hY] at D ⊢
    clear hY y0 y1 ly x0 x1 lx
    have F : Fr (fun b => b = py) Ve U0 := Fr.below D
    replace qy := qy.below D qy.lt
    refine tq_fork rfl rfl ?_ ?_
    · go_wp2_with fail
      have N := ex_alloc (Below.refl U0.heap.size U0) (.cells #[] 52)
      have E1 : Blk (U0.alloc (.cells #[] 52)) U0.heap.size 52 #[] := Blk.new _ _ _
      have he1 : B0 ≤ U0.heap.size := by have := F.size; have := HB0.out; omega
      replace qy := qy.below N qy.lt
      replace F := F.trans (Fr.below N) (fun _ _ h => h)
      obtain ⟨e1, hpp⟩ : ∃ p, U0.heap.size = p := ⟨_, rfl⟩
      rw [hpp] at E1 he1 ⊢
      clear N hpp
      generalize U0.alloc (.cells #[] 52) = U15 at *
      refine ⟨inFx F, ?_⟩
      repeat (refine tq_quiet rfl ?_; go_big_quiet_step (fail); refine wpQuiet_nil ?_)
      refine tq_fork rfl rfl ?_ ?_
      · have hsl' := (htm.rates.below (F.toBelow NY NY.size (fun x hx => by omega))).up (F.toBelow NY NY.size (fun x hx => by omega)).size
        have hbs : B0 ≤ U15.heap.size := by have := F.size; have := HB0.out; omega
        go_wp2_with (at_builtin; refine wpList_append_list (α := Rg) (f := cR2) (F := fR) (sz := 2) (fun _ => rfl) cR2_at cR2_one rfl _ _ _ rfl (B0) 52 i0 _ 16 Try.underlying53 HI0.out hv0 hv1 hv2 rfl (by omega) (some ⟨e1, 0, none⟩) 0 [] rfl (own_empty E1 he1) Ar cr t.rates rfl hsl' (by simp; unfold maxLen; omega) (by simp; omega) hbs (U15.heap.size) rfl ?_; intro LX B1 k1 U16 HLX' o1 g nX)
        have hLX : LX = t.rates := HLX'.out
        subst hLX
        clear HLX' nX hsl' hbs
        have hrow : ∀ x : Nat, some x = (Value.slice (some ⟨e1, 0, none⟩) 0 0).ownBlock → x = e1 := fun x e => by have e' : some x = some e1 := e; injection e'
        have hrow2 : ∀ x : Nat, (Value.slice (some ⟨e1, 0, none⟩) 0 0).ownBlock = some x → x = e1 := fun x e => hrow x e.symm
        replace qy := qy.grown g (fun e => by have := hrow _ e; omega)
        replace F := F.trans (Fr.grown (R := fun b => b = e1) g (fun b e => .inl (hrow2 b e))) (fun x hx h => by have := HB0.out; omega)
        clear hrow hrow2 E1 he1
        clear g
        refine ⟨inFx F, ?_⟩
        repeat (refine tq_quiet rfl ?_; go_big_quiet_step (fail); refine wpQuiet_nil ?_)
        refine tq_loud rfl ?_
        go_wp2_with fail
        have N := ex_alloc (Below.refl U16.heap.size U16) (.cells #[] 3)
        have E2 : Blk (U16.alloc (.cells #[] 3)) U16.heap.size 3 #[] := Blk.new _ _ _
        have he2 : B0 ≤ U16.heap.size := by have := F.size; have := HB0.out; omega
        replace qy := qy.below N qy.lt
        replace o1 := own_below o1 N
        replace F := F.trans (Fr.below N) (fun _ _ h => h)
        obtain ⟨e2, hpp⟩ : ∃ p, U16.heap.size = p := ⟨_, rfl⟩
        rw [hpp] at E2 he2 ⊢
        clear N hpp
        generalize U16.alloc (.cells #[] 3) = U17 at *
        refine ⟨inFx F, ?_⟩
        repeat (refine tq_quiet rfl ?_; go_big_quiet_step (fail); refine wpQuiet_nil ?_)
        refine tq_loud rfl ?_
        have hsl' := (htm.hours.below (F.toBelow NY NY.size (fun x hx => by omega))).up (F.toBelow NY NY.size (fun x hx => by omega)).size
        have hbs : B0 ≤ U17.heap.size := by have := F.size; have := HB0.out; omega
        go_wp2_with (at_builtin; refine wpList_append_list (α := Int) (f := cI1) (F := fI) (sz := 1) (fun _ => rfl) cI1_at cI1_one rfl _ _ _ rfl (B0) 3 i1 _ 8 Try.underlying28 HI1.out hw0 hw1 hw2 rfl (by omega) (some ⟨e2, 0, none⟩) 0 [] rfl (own_empty E2 he2) Ah ch t.hours rfl hsl' (by simp; unfold maxLen; omega) (by simp; omega) hbs (U17.heap.size) rfl ?_; intro LX B2 k2 U18 HLX' o2 g nX)
        have hLX : LX = t.hours := HLX'.out
        subst hLX
        clear HLX' nX hsl' hbs
        have hrow : ∀ x : Nat, some x = (Value.slice (some ⟨e2, 0, none⟩) 0 0).ownBlock → x = e2 := fun x e => by have e' : some x = some e2 := e; injection e'
        have hrow2 : ∀ x : Nat, (Value.slice (some ⟨e2, 0, none⟩) 0 0).ownBlock = some x → x = e2 := fun x e => hrow x e.symm
        replace qy := qy.grown g (fun e => by have := hrow _ e; omega)
        replace o1 := own_grow o1 g (fun b hb e => own_blkne o1 E2 (by decide) (by rw [hb, hrow2 b e]))
        replace F := F.trans (Fr.grown (R := fun b => b = e2) g (fun b e => .inl (hrow2 b e))) (fun x hx h => by have := HB0.out; omega)
        clear hrow hrow2 E2 he2
        clear g
        refine ⟨inFx F, ?_⟩
        repeat (refine tq_quiet rfl ?_; go_big_quiet_step (fail); refine wpQuiet_nil ?_)
        have y0 : U18.cell? ⟨py, 0, none⟩ = some (.slice Ar t.rates.length cr) := qy.cell 0
        have ly := qy.lt
        have fy := qy.frozen0
        have qz := qy.set_ 0 (.slice B1 t.rates.length k1)
        simp only [List.setIfInBounds_toArray, List.set_cons_zero, List.set_cons_succ] at qz
        have Fz := F.andSet (b := py) (i := 0) (v := (.slice B1 t.rates.length k1)) rfl
        have o1z := own_far o1 (p := ⟨py, 0, none⟩) (by show py < B0; omega) (.slice B1 t.rates.length k1)
        have o2z := own_far o2 (p := ⟨py, 0, none⟩) (by show py < B0; omega) (.slice B1 t.rates.length k1)
        refine tq_loud rfl ?_
        go_wp2_with fail
        refine ⟨inFx Fz, ?_⟩
        generalize U18.setCell ⟨py, 0, none⟩ (.slice B1 t.rates.length k1) = U19 at *
        clear y0 ly fy o1 o2 qy F
        repeat (refine tq_quiet rfl ?_; go_big_quiet_step (fail); refine wpQuiet_nil ?_)
        have y1 : U19.cell? ⟨py, 1, none⟩ = some (.slice Ah t.hours.length ch) := qz.cell 1
        have ly := qz.lt
        have fy := qz.frozen0
        have qw := qz.set_ 1 (.slice B2 t.hours.length k2)
        simp only [List.setIfInBounds_toArray, List.set_cons_zero, List.set_cons_succ] at qw
        have Fw := Fz.andSet (b := py) (i := 1) (v := (.slice B2 t.hours.length k2)) rfl
        have o1w := own_far o1z (p := ⟨py, 1, none⟩) (by show py < B0; omega) (.slice B2 t.hours.length k2)
        have o2w := own_far o2z (p := ⟨py, 1, none⟩) (by show py < B0; omega) (.slice B2 t.hours.length k2)
        refine tq_done (r := [_]) rfl ?_
        go_wp2_with fail
        exact hrest5 _ _ _ _ _ _ Fw qw o1w o2w (exFrame (by kernel_rfl))
      · go_wp2_with fail
        have N := ex_alloc (Below.refl U15.heap.size U15) (.cells #[] 3)
        have E2 : Blk (U15.alloc (.cells #[] 3)) U15.heap.size 3 #[] := Blk.new _ _ _
        have he2 : B0 ≤ U15.heap.size := by have := F.size; have := HB0.out; omega
        have nE1_e2 : e1 < U15.heap.size := E1.lt
        replace qy := qy.below N qy.lt
        replace E1 := E1.below N E1.lt
        replace F := F.trans (Fr.below N) (fun _ _ h => h)
        obtain ⟨e2, hpp⟩ : ∃ p, U15.heap.size = p := ⟨_, rfl⟩
        rw [hpp] at E2 he2 nE1_e2 ⊢
        clear N hpp
        generalize U15.alloc (.cells #[] 3) = U20 at *
        refine ⟨inFx F, ?_⟩
        repeat (refine tq_quiet rfl ?_; go_big_quiet_step (fail); refine wpQuiet_nil ?_)
        refine tq_loud rfl ?_
        have hsl' := (htm.rates.below (F.toBelow NY NY.size (fun x hx => by omega))).up (F.toBelow NY NY.size (fun x hx => by omega)).size
        have hbs : B0 ≤ U20.heap.size := by have := F.size; have := HB0.out; omega
        go_wp2_with (at_builtin; refine wpList_append_list (α := Rg) (f := cR2) (F := fR) (sz := 2) (fun _ => rfl) cR2_at cR2_one rfl _ _ _ rfl (B0) 52 i0 _ 16 Try.underlying53 HI0.out hv0 hv1 hv2 rfl (by omega) (some ⟨e1, 0, none⟩) 0 [] rfl (own_empty E1 he1) Ar cr t.rates rfl hsl' (by simp; unfold maxLen; omega) (by simp; omega) hbs (U20.heap.size) rfl ?_; intro LX B1 k1 U21 HLX' o1 g nX)
        have hLX : LX = t.rates := HLX'.out
        subst hLX
        clear HLX' nX hsl' hbs
        have hrow : ∀ x : Nat, some x = (Value.slice (some ⟨e1, 0, none⟩) 0 0).ownBlock → x = e1 := fun x e => by have e' : some x = some e1 := e; injection e'
        have hrow2 : ∀ x : Nat, (Value.slice (some ⟨e1, 0, none⟩) 0 0).ownBlock = some x → x = e1 := fun x e => hrow x e.symm
        replace qy := qy.grown g (fun e => by have := hrow _ e; omega)
        replace E2 := E2.grown g (fun e => blk_ne E2 E1 (by decide) (hrow _ e))
        replace F := F.trans (Fr.grown (R := fun b => b = e1) g (fun b e => .inl (hrow2 b e))) (fun x hx h => by have := HB0.out; omega)
        clear hrow hrow2 E1 he1
        clear g
        refine ⟨inFx F, ?_⟩
        repeat (refine tq_quiet rfl ?_; go_big_quiet_step (fail); refine wpQuiet_nil ?_)
        refine tq_loud rfl ?_
        have hsl' := (htm.hours.below (F.toBelow NY NY.size (fun x hx => by omega))).up (F.toBelow NY NY.size (fun x hx => by omega)).size
        have hbs : B0 ≤ U21.heap.size := by have := F.size; have := HB0.out; omega
        go_wp2_with (at_builtin; refine wpList_append_list (α := Int) (f := cI1) (F := fI) (sz := 1) (fun _ => rfl) cI1_at cI1_one rfl _ _ _ rfl (B0) 3 i1 _ 8 Try.underlying28 HI1.out hw0 hw1 hw2 rfl (by omega) (some ⟨e2, 0, none⟩) 0 [] rfl (own_empty E2 he2) Ah ch t.hours rfl hsl' (by simp; unfold maxLen; omega) (by simp; omega) hbs (U21.heap.size) rfl ?_; intro LX B2 k2 U22 HLX' o2 g nX)
        have hLX : LX = t.hours := HLX'.out
        subst hLX
        clear HLX' nX hsl' hbs
        have hrow : ∀ x : Nat, some x = (Value.slice (some ⟨e2, 0, none⟩) 0 0).ownBlock → x = e2 := fun x e => by have e' : some x = some e2 := e; injection e'
        have hrow2 : ∀ x : Nat, (Value.slice (some ⟨e2, 0, none⟩) 0 0).ownBlock = some x → x = e2 := fun x e => hrow x e.symm
        replace qy := qy.grown g (fun e => by have := hrow _ e; omega)
        replace o1 := own_grow o1 g (fun b hb e => own_blkne o1 E2 (by decide) (by rw [hb, hrow2 b e]))
        replace F := F.trans (Fr.grown (R := fun b => b = e2) g (fun b e => .inl (hrow2 b e))) (fun x hx h => by have := HB0.out; omega)
        clear hrow hrow2 E2 he2
        clear g
        refine ⟨inFx F, ?_⟩
        repeat (refine tq_quiet rfl ?_; go_big_quiet_step (fail); refine wpQuiet_nil ?_)
        have y0 : U22.cell? ⟨py, 0, none⟩ = some (.slice Ar t.rates.length cr) := qy.cell 0
        have ly := qy.lt
        have fy := qy.frozen0
        have qz := qy.set_ 0 (.slice B1 t.rates.length k1)
        simp only [List.setIfInBounds_toArray, List.set_cons_zero, List.set_cons_succ] at qz
        have Fz := F.andSet (b := py) (i := 0) (v := (.slice B1 t.rates.length k1)) rfl
        have o1z := own_far o1 (p := ⟨py, 0, none⟩) (by show py < B0; omega) (.slice B1 t.rates.length k1)
        have o2z := own_far o2 (p := ⟨py, 0, none⟩) (by show py < B0; omega) (.slice B1 t.rates.length k1)
        refine tq_loud rfl ?_
        go_wp2_with fail
        refine ⟨inFx Fz, ?_⟩
        generalize U22.setCell ⟨py, 0, none⟩ (.slice B1 t.rates.length k1) = U23 at *
        clear y0 ly fy o1 o2 qy F
        repeat (refine tq_quiet rfl ?_; go_big_quiet_step (fail); refine wpQuiet_nil ?_)
        have y1 : U23.cell? ⟨py, 1, none⟩ = some (.slice Ah t.hours.length ch) := qz.cell 1
        have ly := qz.lt
        have fy := qz.frozen0
        have qw := qz.set_ 1 (.slice B2 t.hours.length k2)
        simp only [List.setIfInBounds_toArray, List.set_cons_zero, List.set_cons_succ] at qw
        have Fw := Fz.andSet (b := py) (i := 1) (v := (.slice B2 t.hours.length k2)) rfl
        have o1w := own_far o1z (p := ⟨py, 1, none⟩) (by show py < B0; omega) (.slice B2 t.hours.length k2)
        have o2w := own_far o2z (p := ⟨py, 1, none⟩) (by show py < B0; omega) (.slice B2 t.hours.length k2)
        refine tq_done (r := [_]) rfl ?_
        go_wp2_with fail
        exact hrest5 _ _ _ _ _ _ Fw qw o1w o2w (exFrame (by kernel_rfl))
    · go_wp2_with fail
      have N := ex_alloc (Below.refl U0.heap.size U0) (.cells #[] 3)
      have E2 : Blk (U0.alloc (.cells #[] 3)) U0.heap.size 3 #[] := Blk.new _ _ _
      have he2 : B0 ≤ U0.heap.size := by have := F.size; have := HB0.out; omega
      replace qy := qy.below N qy.lt
      replace F := F.trans (Fr.below N) (fun _ _ h => h)
      obtain ⟨e2, hpp⟩ : ∃ p, U0.heap.size = p := ⟨_, rfl⟩
      rw [hpp] at E2 he2 ⊢
      clear N hpp
      generalize U0.alloc (.cells #[] 3) = U24 at *
      refine ⟨inFx F, ?_⟩
      repeat (refine tq_quiet rfl ?_; go_big_quiet_step (fail); refine wpQuiet_nil ?_)
      refine tq_loud rfl ?_
      go_wp2_with fail
      have N := ex_alloc (Below.refl U24.heap.size U24) (.cells #[] 52)
      have E1 : Blk (U24.alloc (.cells #[] 52)) U24.heap.size 52 #[] := Blk.new _ _ _
      have he1 : B0 ≤ U24.heap.size := by have := F.size; have := HB0.out; omega
      have nE2_e1 : e2 < U24.heap.size := E2.lt
      replace qy := qy.below N qy.lt
      replace E2 := E2.below N E2.lt
      replace F := F.trans (Fr.below N) (fun _ _ h => h)
      obtain ⟨e1, hpp⟩ : ∃ p, U24.heap.size = p := ⟨_, rfl⟩
      rw [hpp] at E1 he1 nE2_e1 ⊢
      clear N hpp
      generalize U24.alloc (.cells #[] 52) = U25 at *
      refine ⟨inFx F, ?_⟩
      repeat (refine tq_quiet rfl ?_; go_big_quiet_step (fail); refine wpQuiet_nil ?_)
      refine tq_loud rfl ?_
      have hsl' := (htm.rates.below (F.toBelow NY NY.size (fun x hx => by omega))).up (F.toBelow NY NY.size (fun x hx => by omega)).size
      have hbs : B0 ≤ U25.heap.size := by have := F.size; have := HB0.out; omega
      go_wp2_with (at_builtin; refine wpList_append_list (α := Rg) (f := cR2) (F := fR) (sz := 2) (fun _ => rfl) cR2_at cR2_one rfl _ _ _ rfl (B0) 52 i0 _ 16 Try.underlying53 HI0.out hv0 hv1 hv2 rfl (by omega) (some ⟨e1, 0, none⟩) 0 [] rfl (own_empty E1 he1) Ar cr t.rates rfl hsl' (by simp; unfold maxLen; omega) (by simp; omega) hbs (U25.heap.size) rfl ?_; intro LX B1 k1 U26 HLX' o1 g nX)
      have hLX : LX = t.rates := HLX'.out
      subst hLX
      clear HLX' nX hsl' hbs
      have hrow : ∀ x : Nat, some x = (Value.slice (some ⟨e1, 0, none⟩) 0 0).ownBlock → x = e1 := fun x e => by have e' : some x = some e1 := e; injection e'
      have hrow2 : ∀ x : Nat, (Value.slice (some ⟨e1, 0, none⟩) 0 0).ownBlock = some x → x = e1 := fun x e => hrow x e.symm
      replace qy := qy.grown g (fun e => by have := hrow _ e; omega)
      replace E2 := E2.grown g (fun e => blk_ne E2 E1 (by decide) (hrow _ e))
      replace F := F.trans (Fr.grown (R := fun b => b = e1) g (fun b e => .inl (hrow2 b e))) (fun x hx h => by have := HB0.out; omega)
      clear hrow hrow2 E1 he1
      clear g
      refine ⟨inFx F, ?_⟩
      repeat (refine tq_quiet rfl ?_; go_big_quiet_step (fail); refine wpQuiet_nil ?_)
      refine tq_loud rfl ?_
      have hsl' := (htm.hours.below (F.toBelow NY NY.size (fun x hx => by omega))).up (F.toBelow NY NY.size (fun x hx => by omega)).size
      have hbs : B0 ≤ U26.heap.size := by have := F.size; have := HB0.out; omega
      go_wp2_with (at_builtin; refine wpList_append_list (α := Int) (f := cI1) (F := fI) (sz := 1) (fun _ => rfl) cI1_at cI1_one rfl _ _ _ rfl (B0) 3 i1 _ 8 Try.underlying28 HI1.out hw0 hw1 hw2 rfl (by omega) (some ⟨e2, 0, none⟩) 0 [] rfl (own_empty E2 he2) Ah ch t.hours rfl hsl' (by simp; unfold maxLen; omega) (by simp; omega) hbs (U26.heap.size) rfl ?_; intro LX B2 k2 U27 HLX' o2 g nX)
      have hLX : LX = t.hours := HLX'.out
      subst hLX
      clear HLX' nX hsl' hbs
      have hrow : ∀ x : Nat, some x = (Value.slice (some ⟨e2, 0, none⟩) 0 0).ownBlock → x = e2 := fun x e => by have e' : some x = some e2 := e; injection e'
      have hrow2 : ∀ x : Nat, (Value.slice (some ⟨e2, 0, none⟩) 0 0).ownBlock = some x → x = e2 := fun x e => hrow x e.symm
      replace qy := qy.grown g (fun e => by have := hrow _ e; omega)
      replace o1 := own_grow o1 g (fun b hb e => own_blkne o1 E2 (by decide) (by rw [hb, hrow2 b e]))
      replace F := F.trans (Fr.grown (R := fun b => b = e2) g (fun b e => .inl (hrow2 b e))) (fun x hx h => by have := HB0.out; omega)
      clear hrow hrow2 E2 he2
      clear g
      refine ⟨inFx F, ?_⟩
      repeat (refine tq_quiet rfl ?_; go_big_quiet_step (fail); refine wpQuiet_nil ?_)
      have y0 : U27.cell? ⟨py, 0, none⟩ = some (.slice Ar t.rates.length cr) := qy.cell 0
      have ly := qy.lt
      have fy := qy.frozen0
      have qz := qy.set_ 0 (.slice B1 t.rates.length k1)
      simp only [List.setIfInBounds_toArray, List.set_cons_zero, List.set_cons_succ] at qz
      have Fz := F.andSet (b := py) (i := 0) (v := (.slice B1 t.rates.length k1)) rfl
      have o1z := own_far o1 (p := ⟨py, 0, none⟩) (by show py < B0; omega) (.slice B1 t.rates.length k1)
      have o2z := own_far o2 (p := ⟨py, 0, none⟩) (by show py < B0; omega) (.slice B1 t.rates.length k1)
      refine tq_loud rfl ?_
      go_wp2_with fail
      refine ⟨inFx Fz, ?_⟩
      generalize U27.setCell ⟨py, 0, none⟩ (.slice B1 t.rates.length k1) = U28 at *
      clear y0 ly fy o1 o2 qy F
      repeat (refine tq_quiet rfl ?_; go_big_quiet_step (fail); refine wpQuiet_nil ?_)
      have y1 : U28.cell? ⟨py, 1, none⟩ = some (.slice Ah t.hours.length ch) := qz.cell 1
      have ly := qz.lt
      have fy := qz.frozen0
      have qw := qz.set_ 1 (.slice B2 t.hours.length k2)
      simp only [List.setIfInBounds_toArray, List.set_cons_zero, List.set_cons_succ] at qw
      have Fw := Fz.andSet (b := py) (i := 1) (v := (.slice B2 t.hours.length k2)) rfl
      have o1w := own_far o1z (p := ⟨py, 1, none⟩) (by show py < B0; omega) (.slice B2 t.hours.length k2)
      have o2w := own_far o2z (p := ⟨py, 1, none⟩) (by show py < B0; omega) (.slice B2 t.hours.length k2)
      refine tq_done (r := [_]) rfl ?_
      go_wp2_with fail
      exact hrest5 _ _ _ _ _ _ Fw qw o1w o2w (exFrame (by kernel_rfl))
end Go.Proofs.Ythihdiilokdidaa
end
