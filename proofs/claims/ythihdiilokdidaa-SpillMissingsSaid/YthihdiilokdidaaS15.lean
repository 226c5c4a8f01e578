/- Spill's laws: SpillMissings (walk). -/
import Derived.Test.YthihdiilokdidaaS14
import Derived.Test.YthihdiilokdidaaS13
import Derived.Test.YthihdiilokdidaaS11
set_option linter.unusedVariables false
set_option linter.unusedSimpArgs false
set_option linter.unusedSectionVars false
section
namespace Go.Proofs.Ythihdiilokdidaa
open Go.RowKit
attribute [local go_sem] Ex.cell? Ex.frozen?

/-- what Missing and Lost tell, where there is an error. -/
theorem mis_bad {s : Ws} {b : Bk} {r d e : Int} (h : misE s b r d = e) (he : e ≠ 0) : misR s b r d = ⟨0, 0⟩ := by
  unfold misR
  rw [h, if_neg he]
theorem los_bad {s : Ws} {b : Bk} {e : Int} (h : losE s b = e) (he : e ≠ 0) : losV s b = (0, 0) := by
  unfold losV
  rw [h, if_neg he]
theorem mis_ck {s : Ws} {b : Bk} {r d : Int} (h : ckWs s ≠ 0) : misE s b r d = ckWs s := by unfold misE; rw [if_neg h]
theorem los_ck {s : Ws} {b : Bk} (h : ckWs s ≠ 0) : losE s b = ckWs s := by unfold losE; rw [if_neg h]
theorem mis_bk {s : Ws} {b : Bk} {r d : Int} (h : ckWs s = 0) (hb : bookB s b = false) : misE s b r d = 2 := by unfold misE; rw [if_pos h, hb]; rfl
theorem los_bk {s : Ws} {b : Bk} (h : ckWs s = 0) (hb : bookB s b = false) : losE s b = 2 := by unfold losE; rw [if_pos h, hb]; rfl
theorem mis_in {s : Ws} {b : Bk} {r d : Int} (h : ckWs s = 0) (hb : bookB s b = true) (hi : (inB r 0 ((s.rooms.length : Int) - 1) && inB d 0 (s.days - 1)) = false) : misE s b r d = 2 := by unfold misE; rw [if_pos h, hb, hi]; rfl
theorem mis_no {s : Ws} {b : Bk} {r d : Int} (h : ckWs s = 0) (hb : bookB s b = true) (hi : (inB r 0 ((s.rooms.length : Int) - 1) && inB d 0 (s.days - 1)) = true) (hg : ¬ Good s.wo off0) : misE s b r d = 9 := by unfold misE; rw [if_pos h, hb, hi, truB_false hg]; rfl
theorem los_no {s : Ws} {b : Bk} (h : ckWs s = 0) (hb : bookB s b = true) (hg : ¬ Good s.wo off0) : losE s b = 9 := by unfold losE; rw [if_pos h, hb, truB_false hg]; rfl
set_option maxRecDepth 100000 in
set_option maxHeartbeats 12800000 in
theorem MissingsLaw_any (s : Ws) (Ar Am Aw : Option Addr) (cr cm cw : Nat) (w : World) (hs : WsIn w w.heap.size s Ar Am Aw) (b : Bk) (Af Ag : Option Addr) (cf cg : Nat) (hbk : SlAt w w.heap.size 1 Af b.fs.length (fI b.fs) ∧ SlAt w w.heap.size 1 Ag b.gs.length (fI b.gs)) (r0 d0 : Int) :
    Calls Try.prog 11 #[.agg #[.slice Ar s.rooms.length cr, .int .i64 s.days, .slice Am s.moves.length cm, .slice Aw s.wgs.length cw], .agg #[.slice Af b.fs.length cf, .slice Ag b.gs.length cg], .int .i64 r0, .int .i64 d0] w fun e w' => e = .returned (.bool true) ∧ Below w.heap.size w w' := by
  obtain ⟨hbf, hbg⟩ := hbk
  have hb1 := ex_alloc (ex_alloc (Below.refl w.heap.size w) (.cells #[.slice Ar s.rooms.length cr, .int .i64 s.days, .slice Am s.moves.length cm, .slice Aw s.wgs.length cw] 26)) (.cells #[.slice Af b.fs.length cf, .slice Ag b.gs.length cg] 96)
  have q0 : Blk ((w.alloc (.cells #[.slice Ar s.rooms.length cr, .int .i64 s.days, .slice Am s.moves.length cm, .slice Aw s.wgs.length cw] 26)).alloc (.cells #[.slice Af b.fs.length cf, .slice Ag b.gs.length cg] 96)) (w.heap.size) 26 #[.slice Ar s.rooms.length cr, .int .i64 s.days, .slice Am s.moves.length cm, .slice Aw s.wgs.length cw] := (Blk.new _ _ _).alloc _
  have qb : Blk ((w.alloc (.cells #[.slice Ar s.rooms.length cr, .int .i64 s.days, .slice Am s.moves.length cm, .slice Aw s.wgs.length cw] 26)).alloc (.cells #[.slice Af b.fs.length cf, .slice Ag b.gs.length cg] 96)) (w.heap.size + 1) 96 #[.slice Af b.fs.length cf, .slice Ag b.gs.length cg] := Blk.new' _ _ _ (by simp)
  replace hs := hs.go hb1
  skip
  go_enter Try.func11, Try.ntmps11
  go_upto_region 1 with fail
  show Code.wp _ _ _ _ ((w.alloc (.cells #[.slice Ar s.rooms.length cr, .int .i64 s.days, .slice Am s.moves.length cm, .slice Aw s.wgs.length cw] 26)).alloc (.cells #[.slice Af b.fs.length cf, .slice Ag b.gs.length cg] 96))
  obtain ⟨pq0, hpq0⟩ : ∃ p, w.heap.size = p := ⟨_, rfl⟩
  obtain ⟨pqb, hpqb⟩ : ∃ p, w.heap.size + 1 = p := ⟨_, rfl⟩
  rw [hpqb] at qb ⊢
  rw [hpq0] at q0 ⊢
  clear hpq0 hpqb
  generalize (w.alloc (.cells #[.slice Ar s.rooms.length cr, .int .i64 s.days, .slice Am s.moves.length cm, .slice Aw s.wgs.length cw] 26)).alloc (.cells #[.slice Af b.fs.length cf, .slice Ag b.gs.length cg] 96) = V at *
  replace hbf := (hbf.below hb1).up hb1.size
  replace hbg := (hbg.below hb1).up hb1.size
  have a0 : V.cell? ⟨pq0, 0, none⟩ = some (.slice Ar s.rooms.length cr) := q0.cell 0
  have a1 : V.cell? ⟨pq0, 1, none⟩ = some (.int .i64 s.days) := q0.cell 1
  have a2 : V.cell? ⟨pq0, 2, none⟩ = some (.slice Am s.moves.length cm) := q0.cell 2
  have a3 : V.cell? ⟨pq0, 3, none⟩ = some (.slice Aw s.wgs.length cw) := q0.cell 3
  have la := q0.lt
  have b0 : V.cell? ⟨pqb, 0, none⟩ = some (.slice Af b.fs.length cf) := qb.cell 0
  have b1 : V.cell? ⟨pqb, 1, none⟩ = some (.slice Ag b.gs.length cg) := qb.cell 1
  have lb := qb.lt
  go_wp2_with fail
  refine (Thin_any s Ar Am Aw cr cm cw V hs ⟨b.fs, [], b.gs⟩ Af none Ag cf 0 cg (fun _ => none) (fun _ => 0) ⟨hbf, fun h => absurd h (by simp), fun k h => absurd h (by simp), hbg⟩).mono ?_
  rintro e V2 ⟨rfl, hV2⟩
  replace hs := hs.go hV2
  replace q0 := q0.below hV2 q0.lt
  replace qb := qb.below hV2 qb.lt
  replace hbf := (hbf.below hV2).up hV2.size
  replace hbg := (hbg.below hV2).up hV2.size
  have B_V2 := ex_trans hb1 hV2
  clear a0 a1 a2 a3 la
  have a0 : V2.cell? ⟨pq0, 0, none⟩ = some (.slice Ar s.rooms.length cr) := q0.cell 0
  have a1 : V2.cell? ⟨pq0, 1, none⟩ = some (.int .i64 s.days) := q0.cell 1
  have a2 : V2.cell? ⟨pq0, 2, none⟩ = some (.slice Am s.moves.length cm) := q0.cell 2
  have a3 : V2.cell? ⟨pq0, 3, none⟩ = some (.slice Aw s.wgs.length cw) := q0.cell 3
  have la := q0.lt
  clear b0 b1 lb
  have b0 : V2.cell? ⟨pqb, 0, none⟩ = some (.slice Af b.fs.length cf) := qb.cell 0
  have b1 : V2.cell? ⟨pqb, 1, none⟩ = some (.slice Ag b.gs.length cg) := qb.cell 1
  have lb := qb.lt
  cases hth : thinB s ⟨b.fs, [], b.gs⟩
  · clear hth
    go_wp2_with fail
    refine (awake_any V2).mono ?_
    rintro e Wz ⟨rfl, hz⟩
    go_wp2
    go_ret
    exact ⟨rfl, ex_trans B_V2 hz⟩
  have HTN := Lib.hid (thinB_iff.1 hth)
  clear hth
  have HSM : Hid (s.rooms.length ≤ 1000 ∧ s.moves.length ≤ 1000 ∧ s.wgs.length ≤ 1000) := Lib.hid ⟨by have := HTN.out.nr; omega, by have := HTN.out.nm; omega, by have := HTN.out.nw; omega⟩
  go_wp2_with fail
  refine (few_any s Ar Am Aw cr cm cw V2 hs).mono ?_
  rintro e V3 ⟨rfl, hV3⟩
  replace hs := hs.go hV3
  replace q0 := q0.below hV3 q0.lt
  replace qb := qb.below hV3 qb.lt
  replace hbf := (hbf.below hV3).up hV3.size
  replace hbg := (hbg.below hV3).up hV3.size
  have B_V3 := ex_trans B_V2 hV3
  clear a0 a1 a2 a3 la
  have a0 : V3.cell? ⟨pq0, 0, none⟩ = some (.slice Ar s.rooms.length cr) := q0.cell 0
  have a1 : V3.cell? ⟨pq0, 1, none⟩ = some (.int .i64 s.days) := q0.cell 1
  have a2 : V3.cell? ⟨pq0, 2, none⟩ = some (.slice Am s.moves.length cm) := q0.cell 2
  have a3 : V3.cell? ⟨pq0, 3, none⟩ = some (.slice Aw s.wgs.length cw) := q0.cell 3
  have la := q0.lt
  clear b0 b1 lb
  have b0 : V3.cell? ⟨pqb, 0, none⟩ = some (.slice Af b.fs.length cf) := qb.cell 0
  have b1 : V3.cell? ⟨pqb, 1, none⟩ = some (.slice Ag b.gs.length cg) := qb.cell 1
  have lb := qb.lt
  cases hfw : fewB s
  · clear hfw
    go_wp2_with fail
    refine (awake_any V3).mono ?_
    rintro e Wz ⟨rfl, hz⟩
    go_wp2
    go_ret
    exact ⟨rfl, ex_trans B_V3 hz⟩
  have HFW : Hid (ckWs s = 0 → wideTo (wdP s.wo) (placesP s.wo) ≤ 1500) := Lib.hid (truB_iff.1 hfw)
  clear hfw
  have hsb : b.fs.length ≤ 1000 ∧ b.gs.length ≤ 1000 := ⟨by have : b.fs.length ≤ 9 := HTN.out.nf; omega, by have : b.gs.length ≤ 18 := HTN.out.ng; omega⟩
  obtain ⟨me, hme⟩ : ∃ x, misE s b r0 d0 = x := ⟨_, rfl⟩
  obtain ⟨mr, hmr⟩ : ∃ x, misR s b r0 d0 = x := ⟨_, rfl⟩
  obtain ⟨lo, hlo⟩ : ∃ x, mr.lo = x := ⟨_, rfl⟩
  obtain ⟨hi, hhi⟩ : ∃ x, mr.hi = x := ⟨_, rfl⟩
  have HME := Lib.hid hme
  have HMR := Lib.hid hmr
  have HLO := Lib.hid (And.intro hlo hhi)
  have HM3 : Hid ((misR s b r0 d0).lo = lo ∧ (misR s b r0 d0).hi = hi) := Lib.hid (by rw [hmr]; exact ⟨hlo, hhi⟩)
  clear hme hmr hlo hhi
  go_upto_region 3 with fail
  clear a0 a1 a2 a3 la
  clear b0 b1 lb
  skip
  refine wp_cut (fun a W3 => Rel (fun a W3 => ∃ pm, Below V3.heap.size V3 W3 ∧ Blk W3 pm 50 #[.int .i64 lo, .int .i64 hi] ∧ ∃ u : Nat → Value, a = ⟨List.toArray (u 0 :: u 1 :: .int .i64 r0 :: .int .i64 d0 :: .pointer (some ⟨pq0, 0, none⟩) :: .pointer (some ⟨pqb, 0, none⟩) :: u 6 :: u 7 :: u 8 :: .pointer (some ⟨pm, 0, none⟩) :: .int .i64 me :: u 11 :: u 12 :: u 13 :: u 14 :: u 15 :: u 16 :: u 17 :: u 18 :: u 19 :: u 20 :: u 21 :: u 22 :: u 23 :: u 24 :: u 25 :: u 26 :: u 27 :: u 28 :: u 29 :: u 30 :: u 31 :: u 32 :: u 33 :: u 34 :: u 35 :: u 36 :: u 37 :: u 38 :: u 39 :: u 40 :: u 41 :: u 42 :: u 43 :: u 44 :: u 45 :: u 46 :: u 47 :: u 48 :: u 49 :: u 50 :: u 51 :: u 52 :: u 53 :: u 54 :: u 55 :: u 56 :: u 57 :: u 58 :: u 59 :: u 60 :: u 61 :: u 62 :: u 63 :: u 64 :: u 65 :: u 66 :: u 67 :: u 68 :: u 69 :: u 70 :: u 71 :: u 72 :: u 73 :: u 74 :: u 75 :: u 76 :: u 77 :: u 78 :: u 79 :: u 80 :: u 81 :: u 82 :: u 83 :: u 84 :: u 85 :: u 86 :: u 87 :: u 88 :: u 89 :: u 90 :: u 91 :: u 92 :: u 93 :: u 94 :: u 95 :: u 96 :: u 97 :: u 98 :: u 99 :: u 100 :: u 101 :: u 102 :: u 103 :: u 104 :: u 105 :: u 106 :: u 107 :: u 108 :: u 109 :: u 110 :: u 111 :: u 112 :: u 113 :: u 114 :: u 115 :: u 116 :: u 117 :: u 118 :: u 119 :: u 120 :: u 121 :: u 122 :: u 123 :: u 124 :: u 125 :: u 126 :: u 127 :: u 128 :: u 129 :: u 130 :: u 131 :: u 132 :: u 133 :: u 134 :: u 135 :: u 136 :: u 137 :: u 138 :: u 139 :: u 140 :: u 141 :: u 142 :: u 143 :: u 144 :: u 145 :: u 146 :: u 147 :: u 148 :: u 149 :: u 150 :: u 151 :: u 152 :: u 153 :: u 154 :: u 155 :: u 156 :: u 157 :: u 158 :: u 159 :: u 160 :: u 161 :: u 162 :: u 163 :: u 164 :: u 165 :: u 166 :: u 167 :: u 168 :: u 169 :: u 170 :: u 171 :: u 172 :: u 173 :: u 174 :: u 175 :: u 176 :: u 177 :: u 178 :: u 179 :: u 180 :: u 181 :: u 182 :: u 183 :: u 184 :: u 185 :: u 186 :: u 187 :: u 188 :: u 189 :: u 190 :: u 191 :: u 192 :: u 193 :: u 194 :: u 195 :: u 196 :: u 197 :: u 198 :: u 199 :: u 200 :: u 201 :: u 202 :: u 203 :: u 204 :: u 205 :: u 206 :: u 207 :: u 208 :: u 209 :: u 210 :: u 211 :: u 212 :: u 213 :: u 214 :: u 215 :: u 216 :: u 217 :: u 218 :: u 219 :: u 220 :: u 221 :: u 222 :: u 223 :: u 224 :: u 225 :: u 226 :: u 227 :: u 228 :: u 229 :: []), []⟩) a W3) ?_ ?_
  rotate_left
  · intro J K' hJ hK
    have a0 : V3.cell? ⟨pq0, 0, none⟩ = some (.slice Ar s.rooms.length cr) := q0.cell 0
    have a1 : V3.cell? ⟨pq0, 1, none⟩ = some (.int .i64 s.days) := q0.cell 1
    have a2 : V3.cell? ⟨pq0, 2, none⟩ = some (.slice Am s.moves.length cm) := q0.cell 2
    have a3 : V3.cell? ⟨pq0, 3, none⟩ = some (.slice Aw s.wgs.length cw) := q0.cell 3
    have la := q0.lt
    have b0 : V3.cell? ⟨pqb, 0, none⟩ = some (.slice Af b.fs.length cf) := qb.cell 0
    have b1 : V3.cell? ⟨pqb, 1, none⟩ = some (.slice Ag b.gs.length cg) := qb.cell 1
    have lb := qb.lt
    go_wp2_with fail
    have D3 := (Below.refl V3.heap.size V3).drew
    refine wp_region_ext_tqF 12 (.quiet 0 (.quiet 2 (.quiet 4 (.quiet 5 (.fork 1 (.fork 3 (.fork 6 (.quiet 7 (.quiet 8 (.quiet 9 (.loud 10 (.loud 11 .done))))) 10 (.loud 6 (.quiet 7 (.quiet 8 (.quiet 9 (.loud 11 .done)))))) 10 (.loud 3 (.loud 6 (.quiet 7 (.quiet 8 (.quiet 9 (.loud 11 .done))))))) 10 (.loud 1 (.loud 3 (.loud 6 (.quiet 7 (.quiet 8 (.quiet 9 (.loud 11 .done)))))))))))) (by kernel_rfl) (by kernel_rfl) (by intro d _ _ _ _ h; cases d <;> exact h) ?_
    repeat (refine tq_quiet rfl ?_; go_big_quiet_step (fail); refine wpQuiet_nil ?_)
    obtain ⟨Y3, hY⟩ : ∃ Y, V3.drew = Y := ⟨_, rfl⟩
    rw [hY] at D3 ⊢
    clear hY
    clear a0 a1 a2 a3 la
    clear b0 b1 lb
    replace hs := hs.go D3
    replace q0 := q0.below D3 q0.lt
    replace qb := qb.below D3 qb.lt
    replace hbf := (hbf.below D3).up D3.size
    replace hbg := (hbg.below D3).up D3.size
    have B_Y3 := ex_trans B_V3 D3
    refine tq_fork rfl rfl ?_ ?_
    · go_wp2_with fail
      refine (Works_any s Ar Am Aw cr cm cw Y3 hs HSM.out).mono ?_
      rintro e V4 ⟨⟨⟨Ar2, Am2, Aw2, cr2, cm2, cw2, rfl, hw2⟩⟩, hV4⟩
      replace hs := hs.go hV4
      replace q0 := q0.below hV4 q0.lt
      replace qb := qb.below hV4 qb.lt
      replace hbf := (hbf.below hV4).up hV4.size
      replace hbg := (hbg.below hV4).up hV4.size
      have B_V4 := ex_trans B_Y3 hV4
      have X_V4 := ex_trans D3 hV4
      go_wp2_with fail
      refine ⟨inEx X_V4, ?_⟩
      repeat (refine tq_quiet rfl ?_; go_big_quiet_step (fail); refine wpQuiet_nil ?_)
      refine tq_fork rfl rfl ?_ ?_
      · go_wp2_with fail
        refine (Book_any b Af Ag cf cg V4 hsb ⟨hbf, hbg⟩).mono ?_
        rintro e V5 ⟨⟨D12, D22, d12, d22, rfl, f12, f22⟩, hV5⟩
        replace hs := hs.go hV5
        replace q0 := q0.below hV5 q0.lt
        replace qb := qb.below hV5 qb.lt
        replace hbf := (hbf.below hV5).up hV5.size
        replace hbg := (hbg.below hV5).up hV5.size
        replace hw2 := hw2.go hV5
        have B_V5 := ex_trans B_V4 hV5
        have X_V5 := ex_trans X_V4 hV5
        go_wp2_with fail
        refine ⟨inEx X_V5, ?_⟩
        repeat (refine tq_quiet rfl ?_; go_big_quiet_step (fail); refine wpQuiet_nil ?_)
        refine tq_fork rfl rfl ?_ ?_
        · go_wp2_with fail
          refine (Missing_any s Ar2 Am2 Aw2 cr2 cm2 cw2 V5 hw2 b D12 D22 d12 d22 f12 f22 ⟨HSM.out.1, HSM.out.2.1⟩ hsb r0 d0).mono ?_
          rintro e V6 ⟨rfl, hV6⟩
          replace hs := hs.go hV6
          replace q0 := q0.below hV6 q0.lt
          replace qb := qb.below hV6 qb.lt
          replace hbf := (hbf.below hV6).up hV6.size
          replace hbg := (hbg.below hV6).up hV6.size
          replace hw2 := hw2.go hV6
          replace f12 := (f12.below hV6).up hV6.size
          replace f22 := (f22.below hV6).up hV6.size
          have B_V6 := ex_trans B_V5 hV6
          have X_V6 := ex_trans X_V5 hV6
          rw [HME.out, HM3.out.1, HM3.out.2]
          go_wp2_with fail
          refine ⟨inEx X_V6, ?_⟩
          repeat (refine tq_quiet rfl ?_; go_big_quiet_step (fail); refine wpQuiet_nil ?_)
          refine tq_loud rfl ?_
          have NA := ex_alloc (Below.refl V6.heap.size V6) (.cells #[.int .i64 0, .int .i64 0] 50)
          have qm : Blk (V6.alloc (.cells #[.int .i64 0, .int .i64 0] 50)) V6.heap.size 50 #[.int .i64 0, .int .i64 0] := Blk.new _ _ _
          have hpg : V3.heap.size ≤ V6.heap.size := X_V6.size
          go_wp2_with fail
          replace hs := hs.go NA
          replace q0 := q0.below NA q0.lt
          replace qb := qb.below NA qb.lt
          replace hbf := (hbf.below NA).up NA.size
          replace hbg := (hbg.below NA).up NA.size
          replace hw2 := hw2.go NA
          replace f12 := (f12.below NA).up NA.size
          replace f22 := (f22.below NA).up NA.size
          have B_V7 := ex_trans B_V6 NA
          have X_V7 := ex_trans X_V6 NA
          obtain ⟨pm, hpm⟩ : ∃ p, V6.heap.size = p := ⟨_, rfl⟩
          rw [hpm] at qm hpg ⊢
          clear NA hpm
          generalize V6.alloc (.cells #[.int .i64 0, .int .i64 0] 50) = V7 at *
          refine ⟨inEx X_V7, ?_⟩
          repeat (refine tq_quiet rfl ?_; go_big_quiet_step (fail); refine wpQuiet_nil ?_)
          have y0 : V7.cell? ⟨pm, 0, none⟩ = some (.int .i64 0) := qm.cell 0
          have y1 : V7.cell? ⟨pm, 1, none⟩ = some (.int .i64 0) := qm.cell 1
          have ly := qm.lt
          have fy := qm.frozen0
          have qn := (qm.set_ 0 (.int .i64 lo)).set_ 1 (.int .i64 hi)
          simp only [List.setIfInBounds_toArray, List.set_cons_zero, List.set_cons_succ] at qn
          have Bf := ex_set (ex_set X_V7 (p := ⟨pm, 0, none⟩) (by show V3.heap.size ≤ pm; omega) (.int .i64 lo)) (p := ⟨pm, 1, none⟩) (by show V3.heap.size ≤ pm; omega) (.int .i64 hi)
          refine tq_loud rfl ?_
          go_wp2_with fail
          refine ⟨inEx Bf, ?_⟩
          repeat (refine tq_quiet rfl ?_; go_big_quiet_step (fail); refine wpQuiet_nil ?_)
          refine tq_done (r := [_]) rfl ?_
          go_wp2_with fail
          exact Met.intro (hJ _ _ ⟨⟨pm, Bf, qn, exFrame (by kernel_rfl)⟩⟩)
        · have NA := ex_alloc (Below.refl V5.heap.size V5) (.cells #[.int .i64 0, .int .i64 0] 50)
          have qm : Blk (V5.alloc (.cells #[.int .i64 0, .int .i64 0] 50)) V5.heap.size 50 #[.int .i64 0, .int .i64 0] := Blk.new _ _ _
          have hpg : V3.heap.size ≤ V5.heap.size := X_V5.size
          go_wp2_with fail
          replace hs := hs.go NA
          replace q0 := q0.below NA q0.lt
          replace qb := qb.below NA qb.lt
          replace hbf := (hbf.below NA).up NA.size
          replace hbg := (hbg.below NA).up NA.size
          replace hw2 := hw2.go NA
          replace f12 := (f12.below NA).up NA.size
          replace f22 := (f22.below NA).up NA.size
          have B_V8 := ex_trans B_V5 NA
          have X_V8 := ex_trans X_V5 NA
          obtain ⟨pm, hpm⟩ : ∃ p, V5.heap.size = p := ⟨_, rfl⟩
          rw [hpm] at qm hpg ⊢
          clear NA hpm
          generalize V5.alloc (.cells #[.int .i64 0, .int .i64 0] 50) = V8 at *
          refine ⟨inEx X_V8, ?_⟩
          repeat (refine tq_quiet rfl ?_; go_big_quiet_step (fail); refine wpQuiet_nil ?_)
          refine tq_loud rfl ?_
          go_wp2_with fail
          refine (Missing_any s Ar2 Am2 Aw2 cr2 cm2 cw2 V8 hw2 b D12 D22 d12 d22 f12 f22 ⟨HSM.out.1, HSM.out.2.1⟩ hsb r0 d0).mono ?_
          rintro e V9 ⟨rfl, hV9⟩
          replace hs := hs.go hV9
          replace q0 := q0.below hV9 q0.lt
          replace qb := qb.below hV9 qb.lt
          replace hbf := (hbf.below hV9).up hV9.size
          replace hbg := (hbg.below hV9).up hV9.size
          replace hw2 := hw2.go hV9
          replace f12 := (f12.below hV9).up hV9.size
          replace f22 := (f22.below hV9).up hV9.size
          replace qm := qm.below hV9 qm.lt
          have B_V9 := ex_trans B_V8 hV9
          have X_V9 := ex_trans X_V8 hV9
          rw [HME.out, HM3.out.1, HM3.out.2]
          go_wp2_with fail
          refine ⟨inEx X_V9, ?_⟩
          repeat (refine tq_quiet rfl ?_; go_big_quiet_step (fail); refine wpQuiet_nil ?_)
          have y0 : V9.cell? ⟨pm, 0, none⟩ = some (.int .i64 0) := qm.cell 0
          have y1 : V9.cell? ⟨pm, 1, none⟩ = some (.int .i64 0) := qm.cell 1
          have ly := qm.lt
          have fy := qm.frozen0
          have qn := (qm.set_ 0 (.int .i64 lo)).set_ 1 (.int .i64 hi)
          simp only [List.setIfInBounds_toArray, List.set_cons_zero, List.set_cons_succ] at qn
          have Bf := ex_set (ex_set X_V9 (p := ⟨pm, 0, none⟩) (by show V3.heap.size ≤ pm; omega) (.int .i64 lo)) (p := ⟨pm, 1, none⟩) (by show V3.heap.size ≤ pm; omega) (.int .i64 hi)
          refine tq_loud rfl ?_
          go_wp2_with fail
          refine ⟨inEx Bf, ?_⟩
          repeat (refine tq_quiet rfl ?_; go_big_quiet_step (fail); refine wpQuiet_nil ?_)
          refine tq_done (r := [_]) rfl ?_
          go_wp2_with fail
          exact Met.intro (hJ _ _ ⟨⟨pm, Bf, qn, exFrame (by kernel_rfl)⟩⟩)
      · have NA := ex_alloc (Below.refl V4.heap.size V4) (.cells #[.int .i64 0, .int .i64 0] 50)
        have qm : Blk (V4.alloc (.cells #[.int .i64 0, .int .i64 0] 50)) V4.heap.size 50 #[.int .i64 0, .int .i64 0] := Blk.new _ _ _
        have hpg : V3.heap.size ≤ V4.heap.size := X_V4.size
        go_wp2_with fail
        replace hs := hs.go NA
        replace q0 := q0.below NA q0.lt
        replace qb := qb.below NA qb.lt
        replace hbf := (hbf.below NA).up NA.size
        replace hbg := (hbg.below NA).up NA.size
        replace hw2 := hw2.go NA
        have B_V10 := ex_trans B_V4 NA
        have X_V10 := ex_trans X_V4 NA
        obtain ⟨pm, hpm⟩ : ∃ p, V4.heap.size = p := ⟨_, rfl⟩
        rw [hpm] at qm hpg ⊢
        clear NA hpm
        generalize V4.alloc (.cells #[.int .i64 0, .int .i64 0] 50) = V10 at *
        refine ⟨inEx X_V10, ?_⟩
        repeat (refine tq_quiet rfl ?_; go_big_quiet_step (fail); refine wpQuiet_nil ?_)
        refine tq_loud rfl ?_
        go_wp2_with fail
        refine (Book_any b Af Ag cf cg V10 hsb ⟨hbf, hbg⟩).mono ?_
        rintro e V11 ⟨⟨D12, D22, d12, d22, rfl, f12, f22⟩, hV11⟩
        replace hs := hs.go hV11
        replace q0 := q0.below hV11 q0.lt
        replace qb := qb.below hV11 qb.lt
        replace hbf := (hbf.below hV11).up hV11.size
        replace hbg := (hbg.below hV11).up hV11.size
        replace hw2 := hw2.go hV11
        replace qm := qm.below hV11 qm.lt
        have B_V11 := ex_trans B_V10 hV11
        have X_V11 := ex_trans X_V10 hV11
        go_wp2_with fail
        refine ⟨inEx X_V11, ?_⟩
        repeat (refine tq_quiet rfl ?_; go_big_quiet_step (fail); refine wpQuiet_nil ?_)
        refine tq_loud rfl ?_
        go_wp2_with fail
        refine (Missing_any s Ar2 Am2 Aw2 cr2 cm2 cw2 V11 hw2 b D12 D22 d12 d22 f12 f22 ⟨HSM.out.1, HSM.out.2.1⟩ hsb r0 d0).mono ?_
        rintro e V12 ⟨rfl, hV12⟩
        replace hs := hs.go hV12
        replace q0 := q0.below hV12 q0.lt
        replace qb := qb.below hV12 qb.lt
        replace hbf := (hbf.below hV12).up hV12.size
        replace hbg := (hbg.below hV12).up hV12.size
        replace hw2 := hw2.go hV12
        replace qm := qm.below hV12 qm.lt
        replace f12 := (f12.below hV12).up hV12.size
        replace f22 := (f22.below hV12).up hV12.size
        have B_V12 := ex_trans B_V11 hV12
        have X_V12 := ex_trans X_V11 hV12
        rw [HME.out, HM3.out.1, HM3.out.2]
        go_wp2_with fail
        refine ⟨inEx X_V12, ?_⟩
        repeat (refine tq_quiet rfl ?_; go_big_quiet_step (fail); refine wpQuiet_nil ?_)
        have y0 : V12.cell? ⟨pm, 0, none⟩ = some (.int .i64 0) := qm.cell 0
        have y1 : V12.cell? ⟨pm, 1, none⟩ = some (.int .i64 0) := qm.cell 1
        have ly := qm.lt
        have fy := qm.frozen0
        have qn := (qm.set_ 0 (.int .i64 lo)).set_ 1 (.int .i64 hi)
        simp only [List.setIfInBounds_toArray, List.set_cons_zero, List.set_cons_succ] at qn
        have Bf := ex_set (ex_set X_V12 (p := ⟨pm, 0, none⟩) (by show V3.heap.size ≤ pm; omega) (.int .i64 lo)) (p := ⟨pm, 1, none⟩) (by show V3.heap.size ≤ pm; omega) (.int .i64 hi)
        refine tq_loud rfl ?_
        go_wp2_with fail
        refine ⟨inEx Bf, ?_⟩
        repeat (refine tq_quiet rfl ?_; go_big_quiet_step (fail); refine wpQuiet_nil ?_)
        refine tq_done (r := [_]) rfl ?_
        go_wp2_with fail
        exact Met.intro (hJ _ _ ⟨⟨pm, Bf, qn, exFrame (by kernel_rfl)⟩⟩)
    · have NA := ex_alloc (Below.refl Y3.heap.size Y3) (.cells #[.int .i64 0, .int .i64 0] 50)
      have qm : Blk (Y3.alloc (.cells #[.int .i64 0, .int .i64 0] 50)) Y3.heap.size 50 #[.int .i64 0, .int .i64 0] := Blk.new _ _ _
      have hpg : V3.heap.size ≤ Y3.heap.size := D3.size
      go_wp2_with fail
      replace hs := hs.go NA
      replace q0 := q0.below NA q0.lt
      replace qb := qb.below NA qb.lt
      replace hbf := (hbf.below NA).up NA.size
      replace hbg := (hbg.below NA).up NA.size
      have B_V13 := ex_trans B_Y3 NA
      have X_V13 := ex_trans D3 NA
      obtain ⟨pm, hpm⟩ : ∃ p, Y3.heap.size = p := ⟨_, rfl⟩
      rw [hpm] at qm hpg ⊢
      clear NA hpm
      generalize Y3.alloc (.cells #[.int .i64 0, .int .i64 0] 50) = V13 at *
      refine ⟨inEx X_V13, ?_⟩
      repeat (refine tq_quiet rfl ?_; go_big_quiet_step (fail); refine wpQuiet_nil ?_)
      refine tq_loud rfl ?_
      go_wp2_with fail
      refine (Works_any s Ar Am Aw cr cm cw V13 hs HSM.out).mono ?_
      rintro e V14 ⟨⟨⟨Ar2, Am2, Aw2, cr2, cm2, cw2, rfl, hw2⟩⟩, hV14⟩
      replace hs := hs.go hV14
      replace q0 := q0.below hV14 q0.lt
      replace qb := qb.below hV14 qb.lt
      replace hbf := (hbf.below hV14).up hV14.size
      replace hbg := (hbg.below hV14).up hV14.size
      replace qm := qm.below hV14 qm.lt
      have B_V14 := ex_trans B_V13 hV14
      have X_V14 := ex_trans X_V13 hV14
      go_wp2_with fail
      refine ⟨inEx X_V14, ?_⟩
      repeat (refine tq_quiet rfl ?_; go_big_quiet_step (fail); refine wpQuiet_nil ?_)
      refine tq_loud rfl ?_
      go_wp2_with fail
      refine (Book_any b Af Ag cf cg V14 hsb ⟨hbf, hbg⟩).mono ?_
      rintro e V15 ⟨⟨D12, D22, d12, d22, rfl, f12, f22⟩, hV15⟩
      replace hs := hs.go hV15
      replace q0 := q0.below hV15 q0.lt
      replace qb := qb.below hV15 qb.lt
      replace hbf := (hbf.below hV15).up hV15.size
      replace hbg := (hbg.below hV15).up hV15.size
      replace qm := qm.below hV15 qm.lt
      replace hw2 := hw2.go hV15
      have B_V15 := ex_trans B_V14 hV15
      have X_V15 := ex_trans X_V14 hV15
      go_wp2_with fail
      refine ⟨inEx X_V15, ?_⟩
      repeat (refine tq_quiet rfl ?_; go_big_quiet_step (fail); refine wpQuiet_nil ?_)
      refine tq_loud rfl ?_
      go_wp2_with fail
      refine (Missing_any s Ar2 Am2 Aw2 cr2 cm2 cw2 V15 hw2 b D12 D22 d12 d22 f12 f22 ⟨HSM.out.1, HSM.out.2.1⟩ hsb r0 d0).mono ?_
      rintro e V16 ⟨rfl, hV16⟩
      replace hs := hs.go hV16
      replace q0 := q0.below hV16 q0.lt
      replace qb := qb.below hV16 qb.lt
      replace hbf := (hbf.below hV16).up hV16.size
      replace hbg := (hbg.below hV16).up hV16.size
      replace qm := qm.below hV16 qm.lt
      replace hw2 := hw2.go hV16
      replace f12 := (f12.below hV16).up hV16.size
      replace f22 := (f22.below hV16).up hV16.size
      have B_V16 := ex_trans B_V15 hV16
      have X_V16 := ex_trans X_V15 hV16
      rw [HME.out, HM3.out.1, HM3.out.2]
      go_wp2_with fail
      refine ⟨inEx X_V16, ?_⟩
      repeat (refine tq_quiet rfl ?_; go_big_quiet_step (fail); refine wpQuiet_nil ?_)
      have y0 : V16.cell? ⟨pm, 0, none⟩ = some (.int .i64 0) := qm.cell 0
      have y1 : V16.cell? ⟨pm, 1, none⟩ = some (.int .i64 0) := qm.cell 1
      have ly := qm.lt
      have fy := qm.frozen0
      have qn := (qm.set_ 0 (.int .i64 lo)).set_ 1 (.int .i64 hi)
      simp only [List.setIfInBounds_toArray, List.set_cons_zero, List.set_cons_succ] at qn
      have Bf := ex_set (ex_set X_V16 (p := ⟨pm, 0, none⟩) (by show V3.heap.size ≤ pm; omega) (.int .i64 lo)) (p := ⟨pm, 1, none⟩) (by show V3.heap.size ≤ pm; omega) (.int .i64 hi)
      refine tq_loud rfl ?_
      go_wp2_with fail
      refine ⟨inEx Bf, ?_⟩
      repeat (refine tq_quiet rfl ?_; go_big_quiet_step (fail); refine wpQuiet_nil ?_)
      refine tq_done (r := [_]) rfl ?_
      go_wp2_with fail
      exact Met.intro (hJ _ _ ⟨⟨pm, Bf, qn, exFrame (by kernel_rfl)⟩⟩)
  · rintro a W3 ⟨⟨pm, hb3, qm, u, rfl⟩⟩
    replace hs := hs.go hb3
    replace q0 := q0.below hb3 q0.lt
    replace qb := qb.below hb3 qb.lt
    replace hbf := (hbf.below hb3).up hb3.size
    replace hbg := (hbg.below hb3).up hb3.size
    have B_W3 := ex_trans B_V3 hb3
    have a0 : W3.cell? ⟨pq0, 0, none⟩ = some (.slice Ar s.rooms.length cr) := q0.cell 0
    have a1 : W3.cell? ⟨pq0, 1, none⟩ = some (.int .i64 s.days) := q0.cell 1
    have a2 : W3.cell? ⟨pq0, 2, none⟩ = some (.slice Am s.moves.length cm) := q0.cell 2
    have a3 : W3.cell? ⟨pq0, 3, none⟩ = some (.slice Aw s.wgs.length cw) := q0.cell 3
    have la := q0.lt
    have b0 : W3.cell? ⟨pqb, 0, none⟩ = some (.slice Af b.fs.length cf) := qb.cell 0
    have b1 : W3.cell? ⟨pqb, 1, none⟩ = some (.slice Ag b.gs.length cg) := qb.cell 1
    have lb := qb.lt
    go_upto_region 4 with fail
    have D4 := (Below.refl W3.heap.size W3).drew
    refine wp_region_ext_mix 11 [(false, 0), (false, 2), (true, 1), (true, 3), (true, 4), (false, 5), (false, 6), (false, 7), (false, 8), (false, 9), (false, 10)] (by kernel_rfl) (by kernel_rfl) (by intro d _ _ _ _ h; cases d <;> exact h) ?_
    repeat (refine mix_quiet rfl ?_; go_big_quiet_step (fail); refine wpQuiet_nil ?_)
    obtain ⟨Y4, hY⟩ : ∃ Y, W3.drew = Y := ⟨_, rfl⟩
    rw [hY] at D4 ⊢
    clear hY
    clear a0 a1 a2 a3 la
    clear b0 b1 lb
    replace hs := hs.go D4
    replace q0 := q0.below D4 q0.lt
    replace qb := qb.below D4 qb.lt
    replace hbf := (hbf.below D4).up D4.size
    replace hbg := (hbg.below D4).up D4.size
    replace qm := qm.below D4 qm.lt
    have B_Y4 := ex_trans B_W3 D4
    refine mix_loud rfl ?_
    go_wp2_with fail
    refine (Works_any s Ar Am Aw cr cm cw Y4 hs HSM.out).mono ?_
    rintro e V17 ⟨⟨⟨Ar1, Am1, Aw1, cr1, cm1, cw1, rfl, hw1⟩⟩, hV17⟩
    replace hs := hs.go hV17
    replace q0 := q0.below hV17 q0.lt
    replace qb := qb.below hV17 qb.lt
    replace hbf := (hbf.below hV17).up hV17.size
    replace hbg := (hbg.below hV17).up hV17.size
    replace qm := qm.below hV17 qm.lt
    have B_V17 := ex_trans B_Y4 hV17
    have X_V17 := ex_trans D4 hV17
    go_wp2_with fail
    refine ⟨inEx X_V17, ?_⟩
    repeat (refine mix_quiet rfl ?_; go_big_quiet_step (fail); refine wpQuiet_nil ?_)
    refine mix_loud rfl ?_
    go_wp2_with fail
    refine (Book_any b Af Ag cf cg V17 hsb ⟨hbf, hbg⟩).mono ?_
    rintro e V18 ⟨⟨D11, D21, d11, d21, rfl, f11, f21⟩, hV18⟩
    replace hs := hs.go hV18
    replace q0 := q0.below hV18 q0.lt
    replace qb := qb.below hV18 qb.lt
    replace hbf := (hbf.below hV18).up hV18.size
    replace hbg := (hbg.below hV18).up hV18.size
    replace qm := qm.below hV18 qm.lt
    replace hw1 := hw1.go hV18
    have B_V18 := ex_trans B_V17 hV18
    have X_V18 := ex_trans X_V17 hV18
    go_wp2_with fail
    refine ⟨inEx X_V18, ?_⟩
    repeat (refine mix_quiet rfl ?_; go_big_quiet_step (fail); refine wpQuiet_nil ?_)
    refine mix_loud rfl ?_
    go_wp2_with fail
    refine (Lost_any s Ar1 Am1 Aw1 cr1 cm1 cw1 V18 hw1 b D11 D21 d11 d21 f11 f21 ⟨HSM.out.1, HSM.out.2.1⟩ hsb).mono ?_
    rintro e V19 ⟨rfl, hV19⟩
    replace hs := hs.go hV19
    replace q0 := q0.below hV19 q0.lt
    replace qb := qb.below hV19 qb.lt
    replace hbf := (hbf.below hV19).up hV19.size
    replace hbg := (hbg.below hV19).up hV19.size
    replace qm := qm.below hV19 qm.lt
    replace hw1 := hw1.go hV19
    replace f11 := (f11.below hV19).up hV19.size
    replace f21 := (f21.below hV19).up hV19.size
    have B_V19 := ex_trans B_V18 hV19
    have X_V19 := ex_trans X_V18 hV19
    clear hw1 f11 f21
    obtain ⟨le, hle⟩ : ∃ x, losE s b = x := ⟨_, rfl⟩
    obtain ⟨lr, hlr⟩ : ∃ x, (losV s b).1 = x := ⟨_, rfl⟩
    obtain ⟨ld, hld⟩ : ∃ x, (losV s b).2 = x := ⟨_, rfl⟩
    rw [hle, hlr, hld]
    have HLE := Lib.hid hle
    have HLV := Lib.hid (And.intro hlr hld)
    clear hle hlr hld
    go_wp2_with fail
    refine ⟨inEx X_V19, ?_⟩
    repeat (refine mix_quiet rfl ?_; go_big_quiet_step (fail); refine wpQuiet_nil ?_)
    refine mix_nil (r := [_]) rfl ?_
    have a0 : V19.cell? ⟨pq0, 0, none⟩ = some (.slice Ar s.rooms.length cr) := q0.cell 0
    have a1 : V19.cell? ⟨pq0, 1, none⟩ = some (.int .i64 s.days) := q0.cell 1
    have a2 : V19.cell? ⟨pq0, 2, none⟩ = some (.slice Am s.moves.length cm) := q0.cell 2
    have a3 : V19.cell? ⟨pq0, 3, none⟩ = some (.slice Aw s.wgs.length cw) := q0.cell 3
    have la := q0.lt
    have b0 : V19.cell? ⟨pqb, 0, none⟩ = some (.slice Af b.fs.length cf) := qb.cell 0
    have b1 : V19.cell? ⟨pqb, 1, none⟩ = some (.slice Ag b.gs.length cg) := qb.cell 1
    have lb := qb.lt
    go_wp2_with fail
    refine (fault_any s Ar Am Aw cr cm cw V19 hs).mono ?_
    rintro e V20 ⟨rfl, hV20⟩
    replace hs := hs.go hV20
    replace q0 := q0.below hV20 q0.lt
    replace qb := qb.below hV20 qb.lt
    replace hbf := (hbf.below hV20).up hV20.size
    replace hbg := (hbg.below hV20).up hV20.size
    replace qm := qm.below hV20 qm.lt
    have B_V20 := ex_trans B_V19 hV20
    clear a0 a1 a2 a3 la
    have a0 : V20.cell? ⟨pq0, 0, none⟩ = some (.slice Ar s.rooms.length cr) := q0.cell 0
    have a1 : V20.cell? ⟨pq0, 1, none⟩ = some (.int .i64 s.days) := q0.cell 1
    have a2 : V20.cell? ⟨pq0, 2, none⟩ = some (.slice Am s.moves.length cm) := q0.cell 2
    have a3 : V20.cell? ⟨pq0, 3, none⟩ = some (.slice Aw s.wgs.length cw) := q0.cell 3
    have la := q0.lt
    clear b0 b1 lb
    have b0 : V20.cell? ⟨pqb, 0, none⟩ = some (.slice Af b.fs.length cf) := qb.cell 0
    have b1 : V20.cell? ⟨pqb, 1, none⟩ = some (.slice Ag b.gs.length cg) := qb.cell 1
    have lb := qb.lt
    by_cases hck : ckWs s = 0
    rotate_left
    · have hm : me = ckWs s := HME.out.symm.trans (mis_ck hck)
      have hl : le = ckWs s := HLE.out.symm.trans (los_ck hck)
      have hR : misR s b r0 d0 = ⟨0, 0⟩ := mis_bad (mis_ck hck) hck
      have hV : losV s b = (0, 0) := los_bad (los_ck hck) hck
      have h1 : lo = 0 := by rw [← HM3.out.1, hR]
      have h2 : hi = 0 := by rw [← HM3.out.2, hR]
      have h3 : lr = 0 := by rw [← HLV.out.1, hV]
      have h4 : ld = 0 := by rw [← HLV.out.2, hV]
      subst h1 h2 h3 h4
      clear hR hV
      have e0 : (ckWs s == 0) = false := by simp [hck]
      have e1 : (ckWs s != 0) = true := by simp [hck]
      generalize ckWs s = cc at *
      subst hm hl
      have y0 : V20.cell? ⟨pm, 0, none⟩ = some (.int .i64 0) := qm.cell 0
      have y1 : V20.cell? ⟨pm, 1, none⟩ = some (.int .i64 0) := qm.cell 1
      have ly := qm.lt
      clear hck
      go_wp2_with fail
      refine (awake_any V20).mono ?_
      rintro e Wz ⟨rfl, hz⟩
      go_wp2
      go_ret
      exact ⟨rfl, ex_trans B_V20 hz⟩
    obtain ⟨hwo, hdd⟩ := ckWs_iff.1 hck
    have HWO := Lib.hid hwo
    have HDD := Lib.hid hdd
    have HCK := Lib.hid hck
    rw [hck]
    have hr3 : 1 ≤ s.rooms.length ∧ s.rooms.length ≤ 3 := ⟨hwo.len.1, hwo.len.2.1⟩
    clear hck hwo hdd
    go_wp2_with fail
    refine (IsBook_ref s Ar Am Aw cr cm cw V20 hs b Af Ag cf cg hbf hbg hsb).mono ?_
    rintro e V21 ⟨rfl, hV21⟩
    replace hs := hs.go hV21
    replace q0 := q0.below hV21 q0.lt
    replace qb := qb.below hV21 qb.lt
    replace hbf := (hbf.below hV21).up hV21.size
    replace hbg := (hbg.below hV21).up hV21.size
    replace qm := qm.below hV21 qm.lt
    have B_V21 := ex_trans B_V20 hV21
    clear a0 a1 a2 a3 la
    have a0 : V21.cell? ⟨pq0, 0, none⟩ = some (.slice Ar s.rooms.length cr) := q0.cell 0
    have a1 : V21.cell? ⟨pq0, 1, none⟩ = some (.int .i64 s.days) := q0.cell 1
    have a2 : V21.cell? ⟨pq0, 2, none⟩ = some (.slice Am s.moves.length cm) := q0.cell 2
    have a3 : V21.cell? ⟨pq0, 3, none⟩ = some (.slice Aw s.wgs.length cw) := q0.cell 3
    have la := q0.lt
    clear b0 b1 lb
    have b0 : V21.cell? ⟨pqb, 0, none⟩ = some (.slice Af b.fs.length cf) := qb.cell 0
    have b1 : V21.cell? ⟨pqb, 1, none⟩ = some (.slice Ag b.gs.length cg) := qb.cell 1
    have lb := qb.lt
    cases hbk : bookB s b
    · have HBK := Lib.hid hbk
      clear hbk
      have hm : me = 2 := HME.out.symm.trans (mis_bk HCK.out HBK.out)
      have hl : le = 2 := HLE.out.symm.trans (los_bk HCK.out HBK.out)
      have hR : misR s b r0 d0 = ⟨0, 0⟩ := mis_bad (mis_bk HCK.out HBK.out) (by decide)
      have hV : losV s b = (0, 0) := los_bad (los_bk HCK.out HBK.out) (by decide)
      have h1 : lo = 0 := by rw [← HM3.out.1, hR]
      have h2 : hi = 0 := by rw [← HM3.out.2, hR]
      have h3 : lr = 0 := by rw [← HLV.out.1, hV]
      have h4 : ld = 0 := by rw [← HLV.out.2, hV]
      subst h1 h2 h3 h4
      clear hR hV
      subst hm hl
      have y0 : V21.cell? ⟨pm, 0, none⟩ = some (.int .i64 0) := qm.cell 0
      have y1 : V21.cell? ⟨pm, 1, none⟩ = some (.int .i64 0) := qm.cell 1
      have ly := qm.lt
      go_wp2_with fail
      refine (awake_any V21).mono ?_
      rintro e Wz ⟨rfl, hz⟩
      go_wp2
      go_ret
      exact ⟨rfl, ex_trans B_V21 hz⟩
    have HBK : Hid (bookB s b = true) := Lib.hid hbk
    clear hbk
    obtain ⟨D, hD⟩ : ∃ D, s.wo.days = D := ⟨_, rfl⟩
    have hD6 : 1 ≤ D ∧ D ≤ 6 := by have := HWO.out.days; omega
    have HD := Lib.hid hD
    have HSD : Hid (s.days = (D : Int)) := Lib.hid (by rw [HDD.out, hD])
    clear hD
    go_wp2_with fail
    refine (Stocks_ref s Ar Am Aw cr cm cw V21 hs HWO.out HDD.out [] none 0 (fun h => absurd h (by simp)) (by simp) (HFW.out HCK.out)).mono ?_
    rintro e V22 ⟨⟨n2, A2, c2, rA2, rc2, rfl, hrv⟩, hV22⟩
    replace hs := hs.go hV22
    replace q0 := q0.below hV22 q0.lt
    replace qb := qb.below hV22 qb.lt
    replace hbf := (hbf.below hV22).up hV22.size
    replace hbg := (hbg.below hV22).up hV22.size
    replace qm := qm.below hV22 qm.lt
    have B_V22 := ex_trans B_V21 hV22
    clear a0 a1 a2 a3 la
    have a0 : V22.cell? ⟨pq0, 0, none⟩ = some (.slice Ar s.rooms.length cr) := q0.cell 0
    have a1 : V22.cell? ⟨pq0, 1, none⟩ = some (.int .i64 s.days) := q0.cell 1
    have a2 : V22.cell? ⟨pq0, 2, none⟩ = some (.slice Am s.moves.length cm) := q0.cell 2
    have a3 : V22.cell? ⟨pq0, 3, none⟩ = some (.slice Aw s.wgs.length cw) := q0.cell 3
    have la := q0.lt
    clear b0 b1 lb
    have b0 : V22.cell? ⟨pqb, 0, none⟩ = some (.slice Af b.fs.length cf) := qb.cell 0
    have b1 : V22.cell? ⟨pqb, 1, none⟩ = some (.slice Ag b.gs.length cg) := qb.cell 1
    have lb := qb.lt
    rw [HSD.out] at a1
    have w1 : IntKind.i64.wrap ((s.rooms.length : Int) - 1) = (s.rooms.length : Int) - 1 := IntWalk.i64_in _ (by omega)
    have w2 : IntKind.i64.wrap ((D : Int) - 1) = (D : Int) - 1 := IntWalk.i64_in _ (by omega)
    obtain ⟨bi, hbi⟩ : ∃ x, (inB r0 0 ((s.rooms.length : Int) - 1) && inB d0 0 ((D : Int) - 1)) = x := ⟨_, rfl⟩
    have HBI : Hid ((inB r0 0 ((s.rooms.length : Int) - 1) && inB d0 0 (s.days - 1)) = bi) := Lib.hid (by rw [HSD.out]; exact hbi)
    go_wp2_with fail
    refine (In_ref r0 0 ((s.rooms.length : Int) - 1) V22).mono ?_
    rintro e w' ⟨rfl, rfl⟩
    cases h1 : inB r0 0 ((s.rooms.length : Int) - 1)
    · have hb0 : bi = false := by rw [← hbi, h1]; rfl
      subst hb0
      clear h1 hbi
      by_cases hg : Good s.wo off0
      rotate_left
      · have hm : me = 2 := HME.out.symm.trans (mis_in HCK.out HBK.out HBI.out)
        have hl : le = 9 := HLE.out.symm.trans (los_no HCK.out HBK.out hg)
        have hR : misR s b r0 d0 = ⟨0, 0⟩ := mis_bad (mis_in HCK.out HBK.out HBI.out) (by decide)
        have hV : losV s b = (0, 0) := los_bad (los_no HCK.out HBK.out hg) (by decide)
        have h1 : lo = 0 := by rw [← HM3.out.1, hR]
        have h2 : hi = 0 := by rw [← HM3.out.2, hR]
        have h3 : lr = 0 := by rw [← HLV.out.1, hV]
        have h4 : ld = 0 := by rw [← HLV.out.2, hV]
        subst h1 h2 h3 h4 hm hl
        rw [show truB (Good s.wo (outL [])) = false by rw [outL_nil]; exact truB_false hg]
        clear hR hV hrv hg
        have y0 : V22.cell? ⟨pm, 0, none⟩ = some (.int .i64 0) := qm.cell 0
        have y1 : V22.cell? ⟨pm, 1, none⟩ = some (.int .i64 0) := qm.cell 1
        have ly := qm.lt
        go_wp2_with fail
        refine (awake_any V22).mono ?_
        rintro e Wz ⟨rfl, hz⟩
        go_wp2
        go_ret
        exact ⟨rfl, ex_trans B_V22 hz⟩
      obtain ⟨rfl, hX⟩ := hrv.yes (by rw [outL_nil]; exact hg)
      rw [show truB (Good s.wo (outL [])) = true by rw [outL_nil]; exact truB_iff.2 hg]
      rw [outL_nil] at hX
      have HG := Lib.hid hg
      have hlos := los_ok HCK.out HBK.out hg
      clear hrv hg
      rw [HD.out] at hX
      have hm : me = 2 := HME.out.symm.trans (mis_in HCK.out HBK.out HBI.out)
      have hR : misR s b r0 d0 = ⟨0, 0⟩ := mis_bad (mis_in HCK.out HBK.out HBI.out) (by decide)
      have h1 : lo = 0 := by rw [← HM3.out.1, hR]
      have h2 : hi = 0 := by rw [← HM3.out.2, hR]
      subst h1 h2 hm
      clear hR
      have y0 : V22.cell? ⟨pm, 0, none⟩ = some (.int .i64 0) := qm.cell 0
      have y1 : V22.cell? ⟨pm, 1, none⟩ = some (.int .i64 0) := qm.cell 1
      have ly := qm.lt
      rcases hlos with ⟨hE, r9, d9, hli⟩ | ⟨hE, hV, hno⟩
      · have hl : le = 0 := HLE.out.symm.trans hE
        have h3 : lr = (r9 : Int) := by rw [← HLV.out.1, hli.v]
        have h4 : ld = (d9 : Int) := by rw [← HLV.out.2, hli.v]
        subst hl h3 h4
        have HLI := Lib.hid hli
        have hrn : r9 < s.rooms.length := hli.hr
        have hdn : d9 < D := by have h : d9 < s.wo.days := hli.hd; rw [HD.out] at h; exact h
        clear hli hE
        go_wp2_with fail
        refine wp_loop (fun a W => Rel (fun a W => ∃ k : Nat, k ≤ D ∧ k ≤ d9 ∧ Below V22.heap.size V22 W ∧ ∃ u : Nat → Value, a = ⟨List.toArray (u 0 :: u 1 :: .int .i64 r0 :: .int .i64 d0 :: .pointer (some ⟨pq0, 0, none⟩) :: .pointer (some ⟨pqb, 0, none⟩) :: u 6 :: u 7 :: u 8 :: u 9 :: u 10 :: .int .i64 (r9 : Int) :: .int .i64 (d9 : Int) :: .int .i64 0 :: u 14 :: (.slice A2 s.rooms.length c2) :: u 16 :: u 17 :: u 18 :: .int .i64 (k : Int) :: u 20 :: u 21 :: u 22 :: u 23 :: u 24 :: u 25 :: u 26 :: u 27 :: u 28 :: u 29 :: u 30 :: u 31 :: u 32 :: u 33 :: u 34 :: u 35 :: u 36 :: u 37 :: u 38 :: u 39 :: u 40 :: u 41 :: u 42 :: u 43 :: u 44 :: u 45 :: u 46 :: u 47 :: u 48 :: u 49 :: u 50 :: u 51 :: u 52 :: u 53 :: u 54 :: u 55 :: u 56 :: u 57 :: u 58 :: u 59 :: u 60 :: u 61 :: u 62 :: u 63 :: u 64 :: u 65 :: u 66 :: u 67 :: u 68 :: u 69 :: u 70 :: u 71 :: u 72 :: u 73 :: u 74 :: u 75 :: u 76 :: u 77 :: u 78 :: u 79 :: u 80 :: u 81 :: u 82 :: u 83 :: u 84 :: u 85 :: u 86 :: u 87 :: u 88 :: u 89 :: u 90 :: u 91 :: u 92 :: u 93 :: u 94 :: u 95 :: u 96 :: u 97 :: u 98 :: u 99 :: u 100 :: u 101 :: u 102 :: u 103 :: u 104 :: u 105 :: u 106 :: u 107 :: u 108 :: u 109 :: u 110 :: u 111 :: u 112 :: u 113 :: u 114 :: u 115 :: u 116 :: u 117 :: u 118 :: u 119 :: u 120 :: u 121 :: u 122 :: u 123 :: u 124 :: u 125 :: u 126 :: u 127 :: u 128 :: u 129 :: u 130 :: u 131 :: u 132 :: u 133 :: u 134 :: u 135 :: u 136 :: u 137 :: u 138 :: u 139 :: u 140 :: u 141 :: u 142 :: u 143 :: u 144 :: u 145 :: u 146 :: u 147 :: u 148 :: u 149 :: u 150 :: u 151 :: u 152 :: u 153 :: u 154 :: u 155 :: u 156 :: u 157 :: u 158 :: u 159 :: u 160 :: u 161 :: u 162 :: u 163 :: u 164 :: u 165 :: u 166 :: u 167 :: u 168 :: u 169 :: u 170 :: u 171 :: u 172 :: u 173 :: u 174 :: u 175 :: u 176 :: u 177 :: u 178 :: u 179 :: u 180 :: u 181 :: u 182 :: u 183 :: u 184 :: u 185 :: u 186 :: u 187 :: u 188 :: u 189 :: u 190 :: u 191 :: u 192 :: u 193 :: u 194 :: u 195 :: u 196 :: u 197 :: u 198 :: u 199 :: u 200 :: u 201 :: u 202 :: u 203 :: u 204 :: u 205 :: u 206 :: u 207 :: u 208 :: u 209 :: u 210 :: u 211 :: u 212 :: u 213 :: u 214 :: u 215 :: u 216 :: u 217 :: u 218 :: u 219 :: u 220 :: u 221 :: u 222 :: u 223 :: u 224 :: u 225 :: u 226 :: u 227 :: u 228 :: u 229 :: []), []⟩) a W) (fun a _ => D - (intOf (a.tmps.getD 19 undef)).toNat) ⟨⟨0, by omega, by omega, Below.refl _ _, exFrame (by kernel_rfl)⟩⟩ ?_
        clear a0 a1 a2 a3 la
        clear b0 b1 lb
        rintro a W ⟨⟨k, hk, hkd, hbw, u, rfl⟩⟩
        replace hs := hs.go hbw
        replace q0 := q0.below hbw q0.lt
        replace qb := qb.below hbw qb.lt
        replace hbf := (hbf.below hbw).up hbw.size
        replace hbg := (hbg.below hbw).up hbw.size
        replace qm := qm.below hbw qm.lt
        replace hX := hX.go hbw
        have B_W := ex_trans B_V22 hbw
        have a0 : W.cell? ⟨pq0, 0, none⟩ = some (.slice Ar s.rooms.length cr) := q0.cell 0
        have a1 : W.cell? ⟨pq0, 1, none⟩ = some (.int .i64 s.days) := q0.cell 1
        have a2 : W.cell? ⟨pq0, 2, none⟩ = some (.slice Am s.moves.length cm) := q0.cell 2
        have a3 : W.cell? ⟨pq0, 3, none⟩ = some (.slice Aw s.wgs.length cw) := q0.cell 3
        have la := q0.lt
        have b0 : W.cell? ⟨pqb, 0, none⟩ = some (.slice Af b.fs.length cf) := qb.cell 0
        have b1 : W.cell? ⟨pqb, 1, none⟩ = some (.slice Ag b.gs.length cg) := qb.cell 1
        have lb := qb.lt
        rw [HSD.out] at a1
        by_cases hlt : k < D
        · have hlt' : (k : Int) < (D : Int) := by omega
          go_wp2_with fail
          refine wp_loop (fun a W2 => Rel (fun a W2 => ∃ j : Nat, j ≤ s.rooms.length ∧ (k < d9 ∨ (k = d9 ∧ j ≤ r9)) ∧ Below W.heap.size W W2 ∧ ∃ u : Nat → Value, a = ⟨List.toArray (u 0 :: u 1 :: .int .i64 r0 :: .int .i64 d0 :: .pointer (some ⟨pq0, 0, none⟩) :: .pointer (some ⟨pqb, 0, none⟩) :: u 6 :: u 7 :: u 8 :: u 9 :: u 10 :: .int .i64 (r9 : Int) :: .int .i64 (d9 : Int) :: .int .i64 0 :: u 14 :: (.slice A2 s.rooms.length c2) :: u 16 :: u 17 :: u 18 :: .int .i64 (k : Int) :: .int .i64 (j : Int) :: u 21 :: u 22 :: u 23 :: u 24 :: u 25 :: u 26 :: u 27 :: u 28 :: u 29 :: u 30 :: u 31 :: u 32 :: u 33 :: u 34 :: u 35 :: u 36 :: u 37 :: u 38 :: u 39 :: u 40 :: u 41 :: u 42 :: u 43 :: u 44 :: u 45 :: u 46 :: u 47 :: u 48 :: u 49 :: u 50 :: u 51 :: u 52 :: u 53 :: u 54 :: u 55 :: u 56 :: u 57 :: u 58 :: u 59 :: u 60 :: u 61 :: u 62 :: u 63 :: u 64 :: u 65 :: u 66 :: u 67 :: u 68 :: u 69 :: u 70 :: u 71 :: u 72 :: u 73 :: u 74 :: u 75 :: u 76 :: u 77 :: u 78 :: u 79 :: u 80 :: u 81 :: u 82 :: u 83 :: u 84 :: u 85 :: u 86 :: u 87 :: u 88 :: u 89 :: u 90 :: u 91 :: u 92 :: u 93 :: u 94 :: u 95 :: u 96 :: u 97 :: u 98 :: u 99 :: u 100 :: u 101 :: u 102 :: u 103 :: u 104 :: u 105 :: u 106 :: u 107 :: u 108 :: u 109 :: u 110 :: u 111 :: u 112 :: u 113 :: u 114 :: u 115 :: u 116 :: u 117 :: u 118 :: u 119 :: u 120 :: u 121 :: u 122 :: u 123 :: u 124 :: u 125 :: u 126 :: u 127 :: u 128 :: u 129 :: u 130 :: u 131 :: u 132 :: u 133 :: u 134 :: u 135 :: u 136 :: u 137 :: u 138 :: u 139 :: u 140 :: u 141 :: u 142 :: u 143 :: u 144 :: u 145 :: u 146 :: u 147 :: u 148 :: u 149 :: u 150 :: u 151 :: u 152 :: u 153 :: u 154 :: u 155 :: u 156 :: u 157 :: u 158 :: u 159 :: u 160 :: u 161 :: u 162 :: u 163 :: u 164 :: u 165 :: u 166 :: u 167 :: u 168 :: u 169 :: u 170 :: u 171 :: u 172 :: u 173 :: u 174 :: u 175 :: u 176 :: u 177 :: u 178 :: u 179 :: u 180 :: u 181 :: u 182 :: u 183 :: u 184 :: u 185 :: u 186 :: u 187 :: u 188 :: u 189 :: u 190 :: u 191 :: u 192 :: u 193 :: u 194 :: u 195 :: u 196 :: u 197 :: u 198 :: u 199 :: u 200 :: u 201 :: u 202 :: u 203 :: u 204 :: u 205 :: u 206 :: u 207 :: u 208 :: u 209 :: u 210 :: u 211 :: u 212 :: u 213 :: u 214 :: u 215 :: u 216 :: u 217 :: u 218 :: u 219 :: u 220 :: u 221 :: u 222 :: u 223 :: u 224 :: u 225 :: u 226 :: u 227 :: u 228 :: u 229 :: []), []⟩) a W2) (fun a _ => s.rooms.length - (intOf (a.tmps.getD 20 undef)).toNat) ⟨⟨0, by omega, by omega, Below.refl _ _, exFrame (by kernel_rfl)⟩⟩ ?_
          clear a0 a1 a2 a3 la
          clear b0 b1 lb
          rintro a W2 ⟨⟨j, hj, hkj, hbw2, u2, rfl⟩⟩
          replace hs := hs.go hbw2
          replace q0 := q0.below hbw2 q0.lt
          replace qb := qb.below hbw2 qb.lt
          replace hbf := (hbf.below hbw2).up hbw2.size
          replace hbg := (hbg.below hbw2).up hbw2.size
          replace qm := qm.below hbw2 qm.lt
          replace hX := hX.go hbw2
          have B_W2 := ex_trans B_W hbw2
          have X_W2 := ex_trans hbw hbw2
          have a0 : W2.cell? ⟨pq0, 0, none⟩ = some (.slice Ar s.rooms.length cr) := q0.cell 0
          have a1 : W2.cell? ⟨pq0, 1, none⟩ = some (.int .i64 s.days) := q0.cell 1
          have a2 : W2.cell? ⟨pq0, 2, none⟩ = some (.slice Am s.moves.length cm) := q0.cell 2
          have a3 : W2.cell? ⟨pq0, 3, none⟩ = some (.slice Aw s.wgs.length cw) := q0.cell 3
          have la := q0.lt
          have b0 : W2.cell? ⟨pqb, 0, none⟩ = some (.slice Af b.fs.length cf) := qb.cell 0
          have b1 : W2.cell? ⟨pqb, 1, none⟩ = some (.slice Ag b.gs.length cg) := qb.cell 1
          have lb := qb.lt
          by_cases hlj : j < s.rooms.length
          · have hlj' : (j : Int) < (s.rooms.length : Int) := by omega
            have hlD : k < s.wo.days := by rw [HD.out]; exact hlt
            obtain ⟨bT', oT', b4, o4, e4, hbT, t0, hb4, h0, h1⟩ := hX.at_ hlj hlt
            subst e4
            obtain ⟨xh, hxh⟩ : ∃ x, (stkR s.wo off0 j k).hi = x := ⟨_, rfl⟩
            rw [hxh] at h1
            obtain ⟨nn, hnn⟩ : ∃ x, saysF s.wo b j k = x := ⟨_, rfl⟩
            have HNN := Lib.hid hnn
            have HLB : Hid (lostB s b k j = decide (xh < nn)) := Lib.hid (by unfold lostB; rw [hxh, hnn])
            clear hxh hnn h0
            go_upto_region 29 with fail
            have D29 := (Below.refl W2.heap.size W2).drew
            refine wp_region_ext_mix 13 [(false, 0), (false, 1), (false, 2), (false, 3), (false, 5), (false, 6), (false, 7), (false, 8), (false, 9), (false, 10), (false, 11), (false, 12), (true, 4)] (by kernel_rfl) (by kernel_rfl) (by intro d _ _ _ _ h; cases d <;> exact h) ?_
            repeat (refine mix_quiet rfl ?_; go_big_quiet_step (fail); refine wpQuiet_nil ?_)
            refine mix_loud rfl ?_
            go_wp2_with fail
            refine (Says_ref s Ar Am Aw cr cm cw W2.drew (hs.go D29) HWO.out b Af Ag cf cg ((hbf.below D29).up D29.size) ((hbg.below D29).up D29.size) (bookB_iff.1 HBK.out) j k hlj hlD).mono ?_
            rintro e W3 ⟨rfl, h29⟩
            rw [HNN.out]
            have X29 := ex_trans D29 h29
            go_wp2_with fail
            refine ⟨inEx X29, ?_⟩
            repeat (refine mix_quiet rfl ?_; go_big_quiet_step (fail); refine wpQuiet_nil ?_)
            refine mix_nil (r := [_]) rfl ?_
            clear a0 a1 a2 a3 la
            clear b0 b1 lb
            clear t0 h1
            replace hs := hs.go X29
            replace q0 := q0.below X29 q0.lt
            replace qb := qb.below X29 qb.lt
            replace hbf := (hbf.below X29).up X29.size
            replace hbg := (hbg.below X29).up X29.size
            replace qm := qm.below X29 qm.lt
            replace hX := hX.go X29
            have B_W3 := ex_trans B_W2 X29
            have X_W3 := ex_trans X_W2 X29
            have hbw3 := ex_trans hbw2 X29
            by_cases hhit : k = d9 ∧ j = r9
            · obtain ⟨rfl, rfl⟩ := hhit
              have hpos : xh < nn := by have h1 := HLI.out.hit; rw [HLB.out] at h1; exact of_decide_eq_true h1
              clear hkj
              go_wp2_with fail
              refine (awake_any W3).mono ?_
              rintro e Wz ⟨rfl, hz⟩
              go_wp2
              go_ret
              exact ⟨rfl, ex_trans B_W3 hz⟩
            have hnp : ¬ xh < nn := by
              have h1 : lostB s b k j = false := by
                rcases hkj with h | ⟨h, h'⟩
                · exact HLI.out.day k j h hlj
                · subst h; exact HLI.out.row j (by omega)
              rw [HLB.out] at h1
              exact of_decide_eq_false h1
            have hkj2 : k < d9 ∨ (k = d9 ∧ j + 1 ≤ r9) := by omega
            clear hhit hkj
            go_wp2_with fail
            refine ⟨⟨⟨j + 1, by omega, by omega, hbw3, exFrame (by kernel_rfl)⟩⟩, ?_⟩
            show s.rooms.length - (intOf (.int .i64 ((j : Int) + 1))).toNat < s.rooms.length - (intOf (.int .i64 (j : Int))).toNat
            simp [intOf]
            omega
          · obtain rfl : j = s.rooms.length := by omega
            have hbk2 := ex_trans hbw hbw2
            go_wp2_with fail
            refine ⟨⟨⟨k + 1, by omega, by omega, hbk2, exFrame (by kernel_rfl)⟩⟩, ?_⟩
            show D - (intOf (.int .i64 ((k : Int) + 1))).toNat < D - (intOf (.int .i64 (k : Int))).toNat
            simp [intOf]
            omega
        · exact absurd hkd (by omega)
      · have hl : le = 7 := HLE.out.symm.trans hE
        have h3 : lr = 0 := by rw [← HLV.out.1, hV]
        have h4 : ld = 0 := by rw [← HLV.out.2, hV]
        subst hl h3 h4
        have HNO := Lib.hid hno
        clear hE hV hno
        go_wp2_with fail
        refine wp_loop (fun a W => Rel (fun a W => ∃ k : Nat, k ≤ D ∧ Below V22.heap.size V22 W ∧ ∃ u : Nat → Value, a = ⟨List.toArray (u 0 :: u 1 :: .int .i64 r0 :: .int .i64 d0 :: .pointer (some ⟨pq0, 0, none⟩) :: .pointer (some ⟨pqb, 0, none⟩) :: u 6 :: u 7 :: u 8 :: u 9 :: u 10 :: .int .i64 0 :: .int .i64 0 :: .int .i64 7 :: u 14 :: (.slice A2 s.rooms.length c2) :: u 16 :: u 17 :: u 18 :: .int .i64 (k : Int) :: u 20 :: u 21 :: u 22 :: u 23 :: u 24 :: u 25 :: u 26 :: u 27 :: u 28 :: u 29 :: u 30 :: u 31 :: u 32 :: u 33 :: u 34 :: u 35 :: u 36 :: u 37 :: u 38 :: u 39 :: u 40 :: u 41 :: u 42 :: u 43 :: u 44 :: u 45 :: u 46 :: u 47 :: u 48 :: u 49 :: u 50 :: u 51 :: u 52 :: u 53 :: u 54 :: u 55 :: u 56 :: u 57 :: u 58 :: u 59 :: u 60 :: u 61 :: u 62 :: u 63 :: u 64 :: u 65 :: u 66 :: u 67 :: u 68 :: u 69 :: u 70 :: u 71 :: u 72 :: u 73 :: u 74 :: u 75 :: u 76 :: u 77 :: u 78 :: u 79 :: u 80 :: u 81 :: u 82 :: u 83 :: u 84 :: u 85 :: u 86 :: u 87 :: u 88 :: u 89 :: u 90 :: u 91 :: u 92 :: u 93 :: u 94 :: u 95 :: u 96 :: u 97 :: u 98 :: u 99 :: u 100 :: u 101 :: u 102 :: u 103 :: u 104 :: u 105 :: u 106 :: u 107 :: u 108 :: u 109 :: u 110 :: u 111 :: u 112 :: u 113 :: u 114 :: u 115 :: u 116 :: u 117 :: u 118 :: u 119 :: u 120 :: u 121 :: u 122 :: u 123 :: u 124 :: u 125 :: u 126 :: u 127 :: u 128 :: u 129 :: u 130 :: u 131 :: u 132 :: u 133 :: u 134 :: u 135 :: u 136 :: u 137 :: u 138 :: u 139 :: u 140 :: u 141 :: u 142 :: u 143 :: u 144 :: u 145 :: u 146 :: u 147 :: u 148 :: u 149 :: u 150 :: u 151 :: u 152 :: u 153 :: u 154 :: u 155 :: u 156 :: u 157 :: u 158 :: u 159 :: u 160 :: u 161 :: u 162 :: u 163 :: u 164 :: u 165 :: u 166 :: u 167 :: u 168 :: u 169 :: u 170 :: u 171 :: u 172 :: u 173 :: u 174 :: u 175 :: u 176 :: u 177 :: u 178 :: u 179 :: u 180 :: u 181 :: u 182 :: u 183 :: u 184 :: u 185 :: u 186 :: u 187 :: u 188 :: u 189 :: u 190 :: u 191 :: u 192 :: u 193 :: u 194 :: u 195 :: u 196 :: u 197 :: u 198 :: u 199 :: u 200 :: u 201 :: u 202 :: u 203 :: u 204 :: u 205 :: u 206 :: u 207 :: u 208 :: u 209 :: u 210 :: u 211 :: u 212 :: u 213 :: u 214 :: u 215 :: u 216 :: u 217 :: u 218 :: u 219 :: u 220 :: u 221 :: u 222 :: u 223 :: u 224 :: u 225 :: u 226 :: u 227 :: u 228 :: u 229 :: []), []⟩) a W) (fun a _ => D - (intOf (a.tmps.getD 19 undef)).toNat) ⟨⟨0, by omega, Below.refl _ _, exFrame (by kernel_rfl)⟩⟩ ?_
        clear a0 a1 a2 a3 la
        clear b0 b1 lb
        rintro a W ⟨⟨k, hk, hbw, u, rfl⟩⟩
        replace hs := hs.go hbw
        replace q0 := q0.below hbw q0.lt
        replace qb := qb.below hbw qb.lt
        replace hbf := (hbf.below hbw).up hbw.size
        replace hbg := (hbg.below hbw).up hbw.size
        replace qm := qm.below hbw qm.lt
        replace hX := hX.go hbw
        have B_W := ex_trans B_V22 hbw
        have a0 : W.cell? ⟨pq0, 0, none⟩ = some (.slice Ar s.rooms.length cr) := q0.cell 0
        have a1 : W.cell? ⟨pq0, 1, none⟩ = some (.int .i64 s.days) := q0.cell 1
        have a2 : W.cell? ⟨pq0, 2, none⟩ = some (.slice Am s.moves.length cm) := q0.cell 2
        have a3 : W.cell? ⟨pq0, 3, none⟩ = some (.slice Aw s.wgs.length cw) := q0.cell 3
        have la := q0.lt
        have b0 : W.cell? ⟨pqb, 0, none⟩ = some (.slice Af b.fs.length cf) := qb.cell 0
        have b1 : W.cell? ⟨pqb, 1, none⟩ = some (.slice Ag b.gs.length cg) := qb.cell 1
        have lb := qb.lt
        rw [HSD.out] at a1
        by_cases hlt : k < D
        · have hlt' : (k : Int) < (D : Int) := by omega
          go_wp2_with fail
          refine wp_loop (fun a W2 => Rel (fun a W2 => ∃ j : Nat, j ≤ s.rooms.length ∧ Below W.heap.size W W2 ∧ ∃ u : Nat → Value, a = ⟨List.toArray (u 0 :: u 1 :: .int .i64 r0 :: .int .i64 d0 :: .pointer (some ⟨pq0, 0, none⟩) :: .pointer (some ⟨pqb, 0, none⟩) :: u 6 :: u 7 :: u 8 :: u 9 :: u 10 :: .int .i64 0 :: .int .i64 0 :: .int .i64 7 :: u 14 :: (.slice A2 s.rooms.length c2) :: u 16 :: u 17 :: u 18 :: .int .i64 (k : Int) :: .int .i64 (j : Int) :: u 21 :: u 22 :: u 23 :: u 24 :: u 25 :: u 26 :: u 27 :: u 28 :: u 29 :: u 30 :: u 31 :: u 32 :: u 33 :: u 34 :: u 35 :: u 36 :: u 37 :: u 38 :: u 39 :: u 40 :: u 41 :: u 42 :: u 43 :: u 44 :: u 45 :: u 46 :: u 47 :: u 48 :: u 49 :: u 50 :: u 51 :: u 52 :: u 53 :: u 54 :: u 55 :: u 56 :: u 57 :: u 58 :: u 59 :: u 60 :: u 61 :: u 62 :: u 63 :: u 64 :: u 65 :: u 66 :: u 67 :: u 68 :: u 69 :: u 70 :: u 71 :: u 72 :: u 73 :: u 74 :: u 75 :: u 76 :: u 77 :: u 78 :: u 79 :: u 80 :: u 81 :: u 82 :: u 83 :: u 84 :: u 85 :: u 86 :: u 87 :: u 88 :: u 89 :: u 90 :: u 91 :: u 92 :: u 93 :: u 94 :: u 95 :: u 96 :: u 97 :: u 98 :: u 99 :: u 100 :: u 101 :: u 102 :: u 103 :: u 104 :: u 105 :: u 106 :: u 107 :: u 108 :: u 109 :: u 110 :: u 111 :: u 112 :: u 113 :: u 114 :: u 115 :: u 116 :: u 117 :: u 118 :: u 119 :: u 120 :: u 121 :: u 122 :: u 123 :: u 124 :: u 125 :: u 126 :: u 127 :: u 128 :: u 129 :: u 130 :: u 131 :: u 132 :: u 133 :: u 134 :: u 135 :: u 136 :: u 137 :: u 138 :: u 139 :: u 140 :: u 141 :: u 142 :: u 143 :: u 144 :: u 145 :: u 146 :: u 147 :: u 148 :: u 149 :: u 150 :: u 151 :: u 152 :: u 153 :: u 154 :: u 155 :: u 156 :: u 157 :: u 158 :: u 159 :: u 160 :: u 161 :: u 162 :: u 163 :: u 164 :: u 165 :: u 166 :: u 167 :: u 168 :: u 169 :: u 170 :: u 171 :: u 172 :: u 173 :: u 174 :: u 175 :: u 176 :: u 177 :: u 178 :: u 179 :: u 180 :: u 181 :: u 182 :: u 183 :: u 184 :: u 185 :: u 186 :: u 187 :: u 188 :: u 189 :: u 190 :: u 191 :: u 192 :: u 193 :: u 194 :: u 195 :: u 196 :: u 197 :: u 198 :: u 199 :: u 200 :: u 201 :: u 202 :: u 203 :: u 204 :: u 205 :: u 206 :: u 207 :: u 208 :: u 209 :: u 210 :: u 211 :: u 212 :: u 213 :: u 214 :: u 215 :: u 216 :: u 217 :: u 218 :: u 219 :: u 220 :: u 221 :: u 222 :: u 223 :: u 224 :: u 225 :: u 226 :: u 227 :: u 228 :: u 229 :: []), []⟩) a W2) (fun a _ => s.rooms.length - (intOf (a.tmps.getD 20 undef)).toNat) ⟨⟨0, by omega, Below.refl _ _, exFrame (by kernel_rfl)⟩⟩ ?_
          clear a0 a1 a2 a3 la
          clear b0 b1 lb
          rintro a W2 ⟨⟨j, hj, hbw2, u2, rfl⟩⟩
          replace hs := hs.go hbw2
          replace q0 := q0.below hbw2 q0.lt
          replace qb := qb.below hbw2 qb.lt
          replace hbf := (hbf.below hbw2).up hbw2.size
          replace hbg := (hbg.below hbw2).up hbw2.size
          replace qm := qm.below hbw2 qm.lt
          replace hX := hX.go hbw2
          have B_W2 := ex_trans B_W hbw2
          have X_W2 := ex_trans hbw hbw2
          have a0 : W2.cell? ⟨pq0, 0, none⟩ = some (.slice Ar s.rooms.length cr) := q0.cell 0
          have a1 : W2.cell? ⟨pq0, 1, none⟩ = some (.int .i64 s.days) := q0.cell 1
          have a2 : W2.cell? ⟨pq0, 2, none⟩ = some (.slice Am s.moves.length cm) := q0.cell 2
          have a3 : W2.cell? ⟨pq0, 3, none⟩ = some (.slice Aw s.wgs.length cw) := q0.cell 3
          have la := q0.lt
          have b0 : W2.cell? ⟨pqb, 0, none⟩ = some (.slice Af b.fs.length cf) := qb.cell 0
          have b1 : W2.cell? ⟨pqb, 1, none⟩ = some (.slice Ag b.gs.length cg) := qb.cell 1
          have lb := qb.lt
          by_cases hlj : j < s.rooms.length
          · have hlj' : (j : Int) < (s.rooms.length : Int) := by omega
            have hlD : k < s.wo.days := by rw [HD.out]; exact hlt
            obtain ⟨bT', oT', b4, o4, e4, hbT, t0, hb4, h0, h1⟩ := hX.at_ hlj hlt
            subst e4
            obtain ⟨xh, hxh⟩ : ∃ x, (stkR s.wo off0 j k).hi = x := ⟨_, rfl⟩
            rw [hxh] at h1
            obtain ⟨nn, hnn⟩ : ∃ x, saysF s.wo b j k = x := ⟨_, rfl⟩
            have HNN := Lib.hid hnn
            have HLB : Hid (lostB s b k j = decide (xh < nn)) := Lib.hid (by unfold lostB; rw [hxh, hnn])
            clear hxh hnn h0
            go_upto_region 29 with fail
            have D29 := (Below.refl W2.heap.size W2).drew
            refine wp_region_ext_mix 13 [(false, 0), (false, 1), (false, 2), (false, 3), (false, 5), (false, 6), (false, 7), (false, 8), (false, 9), (false, 10), (false, 11), (false, 12), (true, 4)] (by kernel_rfl) (by kernel_rfl) (by intro d _ _ _ _ h; cases d <;> exact h) ?_
            repeat (refine mix_quiet rfl ?_; go_big_quiet_step (fail); refine wpQuiet_nil ?_)
            refine mix_loud rfl ?_
            go_wp2_with fail
            refine (Says_ref s Ar Am Aw cr cm cw W2.drew (hs.go D29) HWO.out b Af Ag cf cg ((hbf.below D29).up D29.size) ((hbg.below D29).up D29.size) (bookB_iff.1 HBK.out) j k hlj hlD).mono ?_
            rintro e W3 ⟨rfl, h29⟩
            rw [HNN.out]
            have X29 := ex_trans D29 h29
            go_wp2_with fail
            refine ⟨inEx X29, ?_⟩
            repeat (refine mix_quiet rfl ?_; go_big_quiet_step (fail); refine wpQuiet_nil ?_)
            refine mix_nil (r := [_]) rfl ?_
            clear a0 a1 a2 a3 la
            clear b0 b1 lb
            clear t0 h1
            replace hs := hs.go X29
            replace q0 := q0.below X29 q0.lt
            replace qb := qb.below X29 qb.lt
            replace hbf := (hbf.below X29).up X29.size
            replace hbg := (hbg.below X29).up X29.size
            replace qm := qm.below X29 qm.lt
            replace hX := hX.go X29
            have B_W3 := ex_trans B_W2 X29
            have X_W3 := ex_trans X_W2 X29
            have hbw3 := ex_trans hbw2 X29
            have hnp : ¬ xh < nn := by
              have h1 : lostB s b k j = false := HNO.out k j hlD hlj
              rw [HLB.out] at h1
              exact of_decide_eq_false h1
            go_wp2_with fail
            refine ⟨⟨⟨j + 1, by omega, hbw3, exFrame (by kernel_rfl)⟩⟩, ?_⟩
            show s.rooms.length - (intOf (.int .i64 ((j : Int) + 1))).toNat < s.rooms.length - (intOf (.int .i64 (j : Int))).toNat
            simp [intOf]
            omega
          · obtain rfl : j = s.rooms.length := by omega
            have hbk2 := ex_trans hbw hbw2
            go_wp2_with fail
            refine ⟨⟨⟨k + 1, by omega, hbk2, exFrame (by kernel_rfl)⟩⟩, ?_⟩
            show D - (intOf (.int .i64 ((k : Int) + 1))).toNat < D - (intOf (.int .i64 (k : Int))).toNat
            simp [intOf]
            omega
        · obtain rfl : k = D := by omega
          go_wp2_with fail
          refine (awake_any W).mono ?_
          rintro e Wz ⟨rfl, hz⟩
          go_wp2
          go_ret
          exact ⟨rfl, ex_trans B_W hz⟩
    rw [h1, Bool.true_and] at hbi
    go_wp2_with fail
    refine (In_ref d0 0 ((D : Int) - 1) V22).mono ?_
    rintro e w' ⟨rfl, rfl⟩
    cases h2 : inB d0 0 ((D : Int) - 1)
    · have hb0 : bi = false := by rw [← hbi, h2]
      subst hb0
      clear h1 h2 hbi
      by_cases hg : Good s.wo off0
      rotate_left
      · have hm : me = 2 := HME.out.symm.trans (mis_in HCK.out HBK.out HBI.out)
        have hl : le = 9 := HLE.out.symm.trans (los_no HCK.out HBK.out hg)
        have hR : misR s b r0 d0 = ⟨0, 0⟩ := mis_bad (mis_in HCK.out HBK.out HBI.out) (by decide)
        have hV : losV s b = (0, 0) := los_bad (los_no HCK.out HBK.out hg) (by decide)
        have h1 : lo = 0 := by rw [← HM3.out.1, hR]
        have h2 : hi = 0 := by rw [← HM3.out.2, hR]
        have h3 : lr = 0 := by rw [← HLV.out.1, hV]
        have h4 : ld = 0 := by rw [← HLV.out.2, hV]
        subst h1 h2 h3 h4 hm hl
        rw [show truB (Good s.wo (outL [])) = false by rw [outL_nil]; exact truB_false hg]
        clear hR hV hrv hg
        have y0 : V22.cell? ⟨pm, 0, none⟩ = some (.int .i64 0) := qm.cell 0
        have y1 : V22.cell? ⟨pm, 1, none⟩ = some (.int .i64 0) := qm.cell 1
        have ly := qm.lt
        go_wp2_with fail
        refine (awake_any V22).mono ?_
        rintro e Wz ⟨rfl, hz⟩
        go_wp2
        go_ret
        exact ⟨rfl, ex_trans B_V22 hz⟩
      obtain ⟨rfl, hX⟩ := hrv.yes (by rw [outL_nil]; exact hg)
      rw [show truB (Good s.wo (outL [])) = true by rw [outL_nil]; exact truB_iff.2 hg]
      rw [outL_nil] at hX
      have HG := Lib.hid hg
      have hlos := los_ok HCK.out HBK.out hg
      clear hrv hg
      rw [HD.out] at hX
      have hm : me = 2 := HME.out.symm.trans (mis_in HCK.out HBK.out HBI.out)
      have hR : misR s b r0 d0 = ⟨0, 0⟩ := mis_bad (mis_in HCK.out HBK.out HBI.out) (by decide)
      have h1 : lo = 0 := by rw [← HM3.out.1, hR]
      have h2 : hi = 0 := by rw [← HM3.out.2, hR]
      subst h1 h2 hm
      clear hR
      have y0 : V22.cell? ⟨pm, 0, none⟩ = some (.int .i64 0) := qm.cell 0
      have y1 : V22.cell? ⟨pm, 1, none⟩ = some (.int .i64 0) := qm.cell 1
      have ly := qm.lt
      rcases hlos with ⟨hE, r9, d9, hli⟩ | ⟨hE, hV, hno⟩
      · have hl : le = 0 := HLE.out.symm.trans hE
        have h3 : lr = (r9 : Int) := by rw [← HLV.out.1, hli.v]
        have h4 : ld = (d9 : Int) := by rw [← HLV.out.2, hli.v]
        subst hl h3 h4
        have HLI := Lib.hid hli
        have hrn : r9 < s.rooms.length := hli.hr
        have hdn : d9 < D := by have h : d9 < s.wo.days := hli.hd; rw [HD.out] at h; exact h
        clear hli hE
        go_wp2_with fail
        refine wp_loop (fun a W => Rel (fun a W => ∃ k : Nat, k ≤ D ∧ k ≤ d9 ∧ Below V22.heap.size V22 W ∧ ∃ u : Nat → Value, a = ⟨List.toArray (u 0 :: u 1 :: .int .i64 r0 :: .int .i64 d0 :: .pointer (some ⟨pq0, 0, none⟩) :: .pointer (some ⟨pqb, 0, none⟩) :: u 6 :: u 7 :: u 8 :: u 9 :: u 10 :: .int .i64 (r9 : Int) :: .int .i64 (d9 : Int) :: .int .i64 0 :: u 14 :: (.slice A2 s.rooms.length c2) :: u 16 :: u 17 :: u 18 :: .int .i64 (k : Int) :: u 20 :: u 21 :: u 22 :: u 23 :: u 24 :: u 25 :: u 26 :: u 27 :: u 28 :: u 29 :: u 30 :: u 31 :: u 32 :: u 33 :: u 34 :: u 35 :: u 36 :: u 37 :: u 38 :: u 39 :: u 40 :: u 41 :: u 42 :: u 43 :: u 44 :: u 45 :: u 46 :: u 47 :: u 48 :: u 49 :: u 50 :: u 51 :: u 52 :: u 53 :: u 54 :: u 55 :: u 56 :: u 57 :: u 58 :: u 59 :: u 60 :: u 61 :: u 62 :: u 63 :: u 64 :: u 65 :: u 66 :: u 67 :: u 68 :: u 69 :: u 70 :: u 71 :: u 72 :: u 73 :: u 74 :: u 75 :: u 76 :: u 77 :: u 78 :: u 79 :: u 80 :: u 81 :: u 82 :: u 83 :: u 84 :: u 85 :: u 86 :: u 87 :: u 88 :: u 89 :: u 90 :: u 91 :: u 92 :: u 93 :: u 94 :: u 95 :: u 96 :: u 97 :: u 98 :: u 99 :: u 100 :: u 101 :: u 102 :: u 103 :: u 104 :: u 105 :: u 106 :: u 107 :: u 108 :: u 109 :: u 110 :: u 111 :: u 112 :: u 113 :: u 114 :: u 115 :: u 116 :: u 117 :: u 118 :: u 119 :: u 120 :: u 121 :: u 122 :: u 123 :: u 124 :: u 125 :: u 126 :: u 127 :: u 128 :: u 129 :: u 130 :: u 131 :: u 132 :: u 133 :: u 134 :: u 135 :: u 136 :: u 137 :: u 138 :: u 139 :: u 140 :: u 141 :: u 142 :: u 143 :: u 144 :: u 145 :: u 146 :: u 147 :: u 148 :: u 149 :: u 150 :: u 151 :: u 152 :: u 153 :: u 154 :: u 155 :: u 156 :: u 157 :: u 158 :: u 159 :: u 160 :: u 161 :: u 162 :: u 163 :: u 164 :: u 165 :: u 166 :: u 167 :: u 168 :: u 169 :: u 170 :: u 171 :: u 172 :: u 173 :: u 174 :: u 175 :: u 176 :: u 177 :: u 178 :: u 179 :: u 180 :: u 181 :: u 182 :: u 183 :: u 184 :: u 185 :: u 186 :: u 187 :: u 188 :: u 189 :: u 190 :: u 191 :: u 192 :: u 193 :: u 194 :: u 195 :: u 196 :: u 197 :: u 198 :: u 199 :: u 200 :: u 201 :: u 202 :: u 203 :: u 204 :: u 205 :: u 206 :: u 207 :: u 208 :: u 209 :: u 210 :: u 211 :: u 212 :: u 213 :: u 214 :: u 215 :: u 216 :: u 217 :: u 218 :: u 219 :: u 220 :: u 221 :: u 222 :: u 223 :: u 224 :: u 225 :: u 226 :: u 227 :: u 228 :: u 229 :: []), []⟩) a W) (fun a _ => D - (intOf (a.tmps.getD 19 undef)).toNat) ⟨⟨0, by omega, by omega, Below.refl _ _, exFrame (by kernel_rfl)⟩⟩ ?_
        clear a0 a1 a2 a3 la
        clear b0 b1 lb
        rintro a W ⟨⟨k, hk, hkd, hbw, u, rfl⟩⟩
        replace hs := hs.go hbw
        replace q0 := q0.below hbw q0.lt
        replace qb := qb.below hbw qb.lt
        replace hbf := (hbf.below hbw).up hbw.size
        replace hbg := (hbg.below hbw).up hbw.size
        replace qm := qm.below hbw qm.lt
        replace hX := hX.go hbw
        have B_W := ex_trans B_V22 hbw
        have a0 : W.cell? ⟨pq0, 0, none⟩ = some (.slice Ar s.rooms.length cr) := q0.cell 0
        have a1 : W.cell? ⟨pq0, 1, none⟩ = some (.int .i64 s.days) := q0.cell 1
        have a2 : W.cell? ⟨pq0, 2, none⟩ = some (.slice Am s.moves.length cm) := q0.cell 2
        have a3 : W.cell? ⟨pq0, 3, none⟩ = some (.slice Aw s.wgs.length cw) := q0.cell 3
        have la := q0.lt
        have b0 : W.cell? ⟨pqb, 0, none⟩ = some (.slice Af b.fs.length cf) := qb.cell 0
        have b1 : W.cell? ⟨pqb, 1, none⟩ = some (.slice Ag b.gs.length cg) := qb.cell 1
        have lb := qb.lt
        rw [HSD.out] at a1
        by_cases hlt : k < D
        · have hlt' : (k : Int) < (D : Int) := by omega
          go_wp2_with fail
          refine wp_loop (fun a W2 => Rel (fun a W2 => ∃ j : Nat, j ≤ s.rooms.length ∧ (k < d9 ∨ (k = d9 ∧ j ≤ r9)) ∧ Below W.heap.size W W2 ∧ ∃ u : Nat → Value, a = ⟨List.toArray (u 0 :: u 1 :: .int .i64 r0 :: .int .i64 d0 :: .pointer (some ⟨pq0, 0, none⟩) :: .pointer (some ⟨pqb, 0, none⟩) :: u 6 :: u 7 :: u 8 :: u 9 :: u 10 :: .int .i64 (r9 : Int) :: .int .i64 (d9 : Int) :: .int .i64 0 :: u 14 :: (.slice A2 s.rooms.length c2) :: u 16 :: u 17 :: u 18 :: .int .i64 (k : Int) :: .int .i64 (j : Int) :: u 21 :: u 22 :: u 23 :: u 24 :: u 25 :: u 26 :: u 27 :: u 28 :: u 29 :: u 30 :: u 31 :: u 32 :: u 33 :: u 34 :: u 35 :: u 36 :: u 37 :: u 38 :: u 39 :: u 40 :: u 41 :: u 42 :: u 43 :: u 44 :: u 45 :: u 46 :: u 47 :: u 48 :: u 49 :: u 50 :: u 51 :: u 52 :: u 53 :: u 54 :: u 55 :: u 56 :: u 57 :: u 58 :: u 59 :: u 60 :: u 61 :: u 62 :: u 63 :: u 64 :: u 65 :: u 66 :: u 67 :: u 68 :: u 69 :: u 70 :: u 71 :: u 72 :: u 73 :: u 74 :: u 75 :: u 76 :: u 77 :: u 78 :: u 79 :: u 80 :: u 81 :: u 82 :: u 83 :: u 84 :: u 85 :: u 86 :: u 87 :: u 88 :: u 89 :: u 90 :: u 91 :: u 92 :: u 93 :: u 94 :: u 95 :: u 96 :: u 97 :: u 98 :: u 99 :: u 100 :: u 101 :: u 102 :: u 103 :: u 104 :: u 105 :: u 106 :: u 107 :: u 108 :: u 109 :: u 110 :: u 111 :: u 112 :: u 113 :: u 114 :: u 115 :: u 116 :: u 117 :: u 118 :: u 119 :: u 120 :: u 121 :: u 122 :: u 123 :: u 124 :: u 125 :: u 126 :: u 127 :: u 128 :: u 129 :: u 130 :: u 131 :: u 132 :: u 133 :: u 134 :: u 135 :: u 136 :: u 137 :: u 138 :: u 139 :: u 140 :: u 141 :: u 142 :: u 143 :: u 144 :: u 145 :: u 146 :: u 147 :: u 148 :: u 149 :: u 150 :: u 151 :: u 152 :: u 153 :: u 154 :: u 155 :: u 156 :: u 157 :: u 158 :: u 159 :: u 160 :: u 161 :: u 162 :: u 163 :: u 164 :: u 165 :: u 166 :: u 167 :: u 168 :: u 169 :: u 170 :: u 171 :: u 172 :: u 173 :: u 174 :: u 175 :: u 176 :: u 177 :: u 178 :: u 179 :: u 180 :: u 181 :: u 182 :: u 183 :: u 184 :: u 185 :: u 186 :: u 187 :: u 188 :: u 189 :: u 190 :: u 191 :: u 192 :: u 193 :: u 194 :: u 195 :: u 196 :: u 197 :: u 198 :: u 199 :: u 200 :: u 201 :: u 202 :: u 203 :: u 204 :: u 205 :: u 206 :: u 207 :: u 208 :: u 209 :: u 210 :: u 211 :: u 212 :: u 213 :: u 214 :: u 215 :: u 216 :: u 217 :: u 218 :: u 219 :: u 220 :: u 221 :: u 222 :: u 223 :: u 224 :: u 225 :: u 226 :: u 227 :: u 228 :: u 229 :: []), []⟩) a W2) (fun a _ => s.rooms.length - (intOf (a.tmps.getD 20 undef)).toNat) ⟨⟨0, by omega, by omega, Below.refl _ _, exFrame (by kernel_rfl)⟩⟩ ?_
          clear a0 a1 a2 a3 la
          clear b0 b1 lb
          rintro a W2 ⟨⟨j, hj, hkj, hbw2, u2, rfl⟩⟩
          replace hs := hs.go hbw2
          replace q0 := q0.below hbw2 q0.lt
          replace qb := qb.below hbw2 qb.lt
          replace hbf := (hbf.below hbw2).up hbw2.size
          replace hbg := (hbg.below hbw2).up hbw2.size
          replace qm := qm.below hbw2 qm.lt
          replace hX := hX.go hbw2
          have B_W2 := ex_trans B_W hbw2
          have X_W2 := ex_trans hbw hbw2
          have a0 : W2.cell? ⟨pq0, 0, none⟩ = some (.slice Ar s.rooms.length cr) := q0.cell 0
          have a1 : W2.cell? ⟨pq0, 1, none⟩ = some (.int .i64 s.days) := q0.cell 1
          have a2 : W2.cell? ⟨pq0, 2, none⟩ = some (.slice Am s.moves.length cm) := q0.cell 2
          have a3 : W2.cell? ⟨pq0, 3, none⟩ = some (.slice Aw s.wgs.length cw) := q0.cell 3
          have la := q0.lt
          have b0 : W2.cell? ⟨pqb, 0, none⟩ = some (.slice Af b.fs.length cf) := qb.cell 0
          have b1 : W2.cell? ⟨pqb, 1, none⟩ = some (.slice Ag b.gs.length cg) := qb.cell 1
          have lb := qb.lt
          by_cases hlj : j < s.rooms.length
          · have hlj' : (j : Int) < (s.rooms.length : Int) := by omega
            have hlD : k < s.wo.days := by rw [HD.out]; exact hlt
            obtain ⟨bT', oT', b4, o4, e4, hbT, t0, hb4, h0, h1⟩ := hX.at_ hlj hlt
            subst e4
            obtain ⟨xh, hxh⟩ : ∃ x, (stkR s.wo off0 j k).hi = x := ⟨_, rfl⟩
            rw [hxh] at h1
            obtain ⟨nn, hnn⟩ : ∃ x, saysF s.wo b j k = x := ⟨_, rfl⟩
            have HNN := Lib.hid hnn
            have HLB : Hid (lostB s b k j = decide (xh < nn)) := Lib.hid (by unfold lostB; rw [hxh, hnn])
            clear hxh hnn h0
            go_upto_region 29 with fail
            have D29 := (Below.refl W2.heap.size W2).drew
            refine wp_region_ext_mix 13 [(false, 0), (false, 1), (false, 2), (false, 3), (false, 5), (false, 6), (false, 7), (false, 8), (false, 9), (false, 10), (false, 11), (false, 12), (true, 4)] (by kernel_rfl) (by kernel_rfl) (by intro d _ _ _ _ h; cases d <;> exact h) ?_
            repeat (refine mix_quiet rfl ?_; go_big_quiet_step (fail); refine wpQuiet_nil ?_)
            refine mix_loud rfl ?_
            go_wp2_with fail
            refine (Says_ref s Ar Am Aw cr cm cw W2.drew (hs.go D29) HWO.out b Af Ag cf cg ((hbf.below D29).up D29.size) ((hbg.below D29).up D29.size) (bookB_iff.1 HBK.out) j k hlj hlD).mono ?_
            rintro e W3 ⟨rfl, h29⟩
            rw [HNN.out]
            have X29 := ex_trans D29 h29
            go_wp2_with fail
            refine ⟨inEx X29, ?_⟩
            repeat (refine mix_quiet rfl ?_; go_big_quiet_step (fail); refine wpQuiet_nil ?_)
            refine mix_nil (r := [_]) rfl ?_
            clear a0 a1 a2 a3 la
            clear b0 b1 lb
            clear t0 h1
            replace hs := hs.go X29
            replace q0 := q0.below X29 q0.lt
            replace qb := qb.below X29 qb.lt
            replace hbf := (hbf.below X29).up X29.size
            replace hbg := (hbg.below X29).up X29.size
            replace qm := qm.below X29 qm.lt
            replace hX := hX.go X29
            have B_W3 := ex_trans B_W2 X29
            have X_W3 := ex_trans X_W2 X29
            have hbw3 := ex_trans hbw2 X29
            by_cases hhit : k = d9 ∧ j = r9
            · obtain ⟨rfl, rfl⟩ := hhit
              have hpos : xh < nn := by have h1 := HLI.out.hit; rw [HLB.out] at h1; exact of_decide_eq_true h1
              clear hkj
              go_wp2_with fail
              refine (awake_any W3).mono ?_
              rintro e Wz ⟨rfl, hz⟩
              go_wp2
              go_ret
              exact ⟨rfl, ex_trans B_W3 hz⟩
            have hnp : ¬ xh < nn := by
              have h1 : lostB s b k j = false := by
                rcases hkj with h | ⟨h, h'⟩
                · exact HLI.out.day k j h hlj
                · subst h; exact HLI.out.row j (by omega)
              rw [HLB.out] at h1
              exact of_decide_eq_false h1
            have hkj2 : k < d9 ∨ (k = d9 ∧ j + 1 ≤ r9) := by omega
            clear hhit hkj
            go_wp2_with fail
            refine ⟨⟨⟨j + 1, by omega, by omega, hbw3, exFrame (by kernel_rfl)⟩⟩, ?_⟩
            show s.rooms.length - (intOf (.int .i64 ((j : Int) + 1))).toNat < s.rooms.length - (intOf (.int .i64 (j : Int))).toNat
            simp [intOf]
            omega
          · obtain rfl : j = s.rooms.length := by omega
            have hbk2 := ex_trans hbw hbw2
            go_wp2_with fail
            refine ⟨⟨⟨k + 1, by omega, by omega, hbk2, exFrame (by kernel_rfl)⟩⟩, ?_⟩
            show D - (intOf (.int .i64 ((k : Int) + 1))).toNat < D - (intOf (.int .i64 (k : Int))).toNat
            simp [intOf]
            omega
        · exact absurd hkd (by omega)
      · have hl : le = 7 := HLE.out.symm.trans hE
        have h3 : lr = 0 := by rw [← HLV.out.1, hV]
        have h4 : ld = 0 := by rw [← HLV.out.2, hV]
        subst hl h3 h4
        have HNO := Lib.hid hno
        clear hE hV hno
        go_wp2_with fail
        refine wp_loop (fun a W => Rel (fun a W => ∃ k : Nat, k ≤ D ∧ Below V22.heap.size V22 W ∧ ∃ u : Nat → Value, a = ⟨List.toArray (u 0 :: u 1 :: .int .i64 r0 :: .int .i64 d0 :: .pointer (some ⟨pq0, 0, none⟩) :: .pointer (some ⟨pqb, 0, none⟩) :: u 6 :: u 7 :: u 8 :: u 9 :: u 10 :: .int .i64 0 :: .int .i64 0 :: .int .i64 7 :: u 14 :: (.slice A2 s.rooms.length c2) :: u 16 :: u 17 :: u 18 :: .int .i64 (k : Int) :: u 20 :: u 21 :: u 22 :: u 23 :: u 24 :: u 25 :: u 26 :: u 27 :: u 28 :: u 29 :: u 30 :: u 31 :: u 32 :: u 33 :: u 34 :: u 35 :: u 36 :: u 37 :: u 38 :: u 39 :: u 40 :: u 41 :: u 42 :: u 43 :: u 44 :: u 45 :: u 46 :: u 47 :: u 48 :: u 49 :: u 50 :: u 51 :: u 52 :: u 53 :: u 54 :: u 55 :: u 56 :: u 57 :: u 58 :: u 59 :: u 60 :: u 61 :: u 62 :: u 63 :: u 64 :: u 65 :: u 66 :: u 67 :: u 68 :: u 69 :: u 70 :: u 71 :: u 72 :: u 73 :: u 74 :: u 75 :: u 76 :: u 77 :: u 78 :: u 79 :: u 80 :: u 81 :: u 82 :: u 83 :: u 84 :: u 85 :: u 86 :: u 87 :: u 88 :: u 89 :: u 90 :: u 91 :: u 92 :: u 93 :: u 94 :: u 95 :: u 96 :: u 97 :: u 98 :: u 99 :: u 100 :: u 101 :: u 102 :: u 103 :: u 104 :: u 105 :: u 106 :: u 107 :: u 108 :: u 109 :: u 110 :: u 111 :: u 112 :: u 113 :: u 114 :: u 115 :: u 116 :: u 117 :: u 118 :: u 119 :: u 120 :: u 121 :: u 122 :: u 123 :: u 124 :: u 125 :: u 126 :: u 127 :: u 128 :: u 129 :: u 130 :: u 131 :: u 132 :: u 133 :: u 134 :: u 135 :: u 136 :: u 137 :: u 138 :: u 139 :: u 140 :: u 141 :: u 142 :: u 143 :: u 144 :: u 145 :: u 146 :: u 147 :: u 148 :: u 149 :: u 150 :: u 151 :: u 152 :: u 153 :: u 154 :: u 155 :: u 156 :: u 157 :: u 158 :: u 159 :: u 160 :: u 161 :: u 162 :: u 163 :: u 164 :: u 165 :: u 166 :: u 167 :: u 168 :: u 169 :: u 170 :: u 171 :: u 172 :: u 173 :: u 174 :: u 175 :: u 176 :: u 177 :: u 178 :: u 179 :: u 180 :: u 181 :: u 182 :: u 183 :: u 184 :: u 185 :: u 186 :: u 187 :: u 188 :: u 189 :: u 190 :: u 191 :: u 192 :: u 193 :: u 194 :: u 195 :: u 196 :: u 197 :: u 198 :: u 199 :: u 200 :: u 201 :: u 202 :: u 203 :: u 204 :: u 205 :: u 206 :: u 207 :: u 208 :: u 209 :: u 210 :: u 211 :: u 212 :: u 213 :: u 214 :: u 215 :: u 216 :: u 217 :: u 218 :: u 219 :: u 220 :: u 221 :: u 222 :: u 223 :: u 224 :: u 225 :: u 226 :: u 227 :: u 228 :: u 229 :: []), []⟩) a W) (fun a _ => D - (intOf (a.tmps.getD 19 undef)).toNat) ⟨⟨0, by omega, Below.refl _ _, exFrame (by kernel_rfl)⟩⟩ ?_
        clear a0 a1 a2 a3 la
        clear b0 b1 lb
        rintro a W ⟨⟨k, hk, hbw, u, rfl⟩⟩
        replace hs := hs.go hbw
        replace q0 := q0.below hbw q0.lt
        replace qb := qb.below hbw qb.lt
        replace hbf := (hbf.below hbw).up hbw.size
        replace hbg := (hbg.below hbw).up hbw.size
        replace qm := qm.below hbw qm.lt
        replace hX := hX.go hbw
        have B_W := ex_trans B_V22 hbw
        have a0 : W.cell? ⟨pq0, 0, none⟩ = some (.slice Ar s.rooms.length cr) := q0.cell 0
        have a1 : W.cell? ⟨pq0, 1, none⟩ = some (.int .i64 s.days) := q0.cell 1
        have a2 : W.cell? ⟨pq0, 2, none⟩ = some (.slice Am s.moves.length cm) := q0.cell 2
        have a3 : W.cell? ⟨pq0, 3, none⟩ = some (.slice Aw s.wgs.length cw) := q0.cell 3
        have la := q0.lt
        have b0 : W.cell? ⟨pqb, 0, none⟩ = some (.slice Af b.fs.length cf) := qb.cell 0
        have b1 : W.cell? ⟨pqb, 1, none⟩ = some (.slice Ag b.gs.length cg) := qb.cell 1
        have lb := qb.lt
        rw [HSD.out] at a1
        by_cases hlt : k < D
        · have hlt' : (k : Int) < (D : Int) := by omega
          go_wp2_with fail
          refine wp_loop (fun a W2 => Rel (fun a W2 => ∃ j : Nat, j ≤ s.rooms.length ∧ Below W.heap.size W W2 ∧ ∃ u : Nat → Value, a = ⟨List.toArray (u 0 :: u 1 :: .int .i64 r0 :: .int .i64 d0 :: .pointer (some ⟨pq0, 0, none⟩) :: .pointer (some ⟨pqb, 0, none⟩) :: u 6 :: u 7 :: u 8 :: u 9 :: u 10 :: .int .i64 0 :: .int .i64 0 :: .int .i64 7 :: u 14 :: (.slice A2 s.rooms.length c2) :: u 16 :: u 17 :: u 18 :: .int .i64 (k : Int) :: .int .i64 (j : Int) :: u 21 :: u 22 :: u 23 :: u 24 :: u 25 :: u 26 :: u 27 :: u 28 :: u 29 :: u 30 :: u 31 :: u 32 :: u 33 :: u 34 :: u 35 :: u 36 :: u 37 :: u 38 :: u 39 :: u 40 :: u 41 :: u 42 :: u 43 :: u 44 :: u 45 :: u 46 :: u 47 :: u 48 :: u 49 :: u 50 :: u 51 :: u 52 :: u 53 :: u 54 :: u 55 :: u 56 :: u 57 :: u 58 :: u 59 :: u 60 :: u 61 :: u 62 :: u 63 :: u 64 :: u 65 :: u 66 :: u 67 :: u 68 :: u 69 :: u 70 :: u 71 :: u 72 :: u 73 :: u 74 :: u 75 :: u 76 :: u 77 :: u 78 :: u 79 :: u 80 :: u 81 :: u 82 :: u 83 :: u 84 :: u 85 :: u 86 :: u 87 :: u 88 :: u 89 :: u 90 :: u 91 :: u 92 :: u 93 :: u 94 :: u 95 :: u 96 :: u 97 :: u 98 :: u 99 :: u 100 :: u 101 :: u 102 :: u 103 :: u 104 :: u 105 :: u 106 :: u 107 :: u 108 :: u 109 :: u 110 :: u 111 :: u 112 :: u 113 :: u 114 :: u 115 :: u 116 :: u 117 :: u 118 :: u 119 :: u 120 :: u 121 :: u 122 :: u 123 :: u 124 :: u 125 :: u 126 :: u 127 :: u 128 :: u 129 :: u 130 :: u 131 :: u 132 :: u 133 :: u 134 :: u 135 :: u 136 :: u 137 :: u 138 :: u 139 :: u 140 :: u 141 :: u 142 :: u 143 :: u 144 :: u 145 :: u 146 :: u 147 :: u 148 :: u 149 :: u 150 :: u 151 :: u 152 :: u 153 :: u 154 :: u 155 :: u 156 :: u 157 :: u 158 :: u 159 :: u 160 :: u 161 :: u 162 :: u 163 :: u 164 :: u 165 :: u 166 :: u 167 :: u 168 :: u 169 :: u 170 :: u 171 :: u 172 :: u 173 :: u 174 :: u 175 :: u 176 :: u 177 :: u 178 :: u 179 :: u 180 :: u 181 :: u 182 :: u 183 :: u 184 :: u 185 :: u 186 :: u 187 :: u 188 :: u 189 :: u 190 :: u 191 :: u 192 :: u 193 :: u 194 :: u 195 :: u 196 :: u 197 :: u 198 :: u 199 :: u 200 :: u 201 :: u 202 :: u 203 :: u 204 :: u 205 :: u 206 :: u 207 :: u 208 :: u 209 :: u 210 :: u 211 :: u 212 :: u 213 :: u 214 :: u 215 :: u 216 :: u 217 :: u 218 :: u 219 :: u 220 :: u 221 :: u 222 :: u 223 :: u 224 :: u 225 :: u 226 :: u 227 :: u 228 :: u 229 :: []), []⟩) a W2) (fun a _ => s.rooms.length - (intOf (a.tmps.getD 20 undef)).toNat) ⟨⟨0, by omega, Below.refl _ _, exFrame (by kernel_rfl)⟩⟩ ?_
          clear a0 a1 a2 a3 la
          clear b0 b1 lb
          rintro a W2 ⟨⟨j, hj, hbw2, u2, rfl⟩⟩
          replace hs := hs.go hbw2
          replace q0 := q0.below hbw2 q0.lt
          replace qb := qb.below hbw2 qb.lt
          replace hbf := (hbf.below hbw2).up hbw2.size
          replace hbg := (hbg.below hbw2).up hbw2.size
          replace qm := qm.below hbw2 qm.lt
          replace hX := hX.go hbw2
          have B_W2 := ex_trans B_W hbw2
          have X_W2 := ex_trans hbw hbw2
          have a0 : W2.cell? ⟨pq0, 0, none⟩ = some (.slice Ar s.rooms.length cr) := q0.cell 0
          have a1 : W2.cell? ⟨pq0, 1, none⟩ = some (.int .i64 s.days) := q0.cell 1
          have a2 : W2.cell? ⟨pq0, 2, none⟩ = some (.slice Am s.moves.length cm) := q0.cell 2
          have a3 : W2.cell? ⟨pq0, 3, none⟩ = some (.slice Aw s.wgs.length cw) := q0.cell 3
          have la := q0.lt
          have b0 : W2.cell? ⟨pqb, 0, none⟩ = some (.slice Af b.fs.length cf) := qb.cell 0
          have b1 : W2.cell? ⟨pqb, 1, none⟩ = some (.slice Ag b.gs.length cg) := qb.cell 1
          have lb := qb.lt
          by_cases hlj : j < s.rooms.length
          · have hlj' : (j : Int) < (s.rooms.length : Int) := by omega
            have hlD : k < s.wo.days := by rw [HD.out]; exact hlt
            obtain ⟨bT', oT', b4, o4, e4, hbT, t0, hb4, h0, h1⟩ := hX.at_ hlj hlt
            subst e4
            obtain ⟨xh, hxh⟩ : ∃ x, (stkR s.wo off0 j k).hi = x := ⟨_, rfl⟩
            rw [hxh] at h1
            obtain ⟨nn, hnn⟩ : ∃ x, saysF s.wo b j k = x := ⟨_, rfl⟩
            have HNN := Lib.hid hnn
            have HLB : Hid (lostB s b k j = decide (xh < nn)) := Lib.hid (by unfold lostB; rw [hxh, hnn])
            clear hxh hnn h0
            go_upto_region 29 with fail
            have D29 := (Below.refl W2.heap.size W2).drew
            refine wp_region_ext_mix 13 [(false, 0), (false, 1), (false, 2), (false, 3), (false, 5), (false, 6), (false, 7), (false, 8), (false, 9), (false, 10), (false, 11), (false, 12), (true, 4)] (by kernel_rfl) (by kernel_rfl) (by intro d _ _ _ _ h; cases d <;> exact h) ?_
            repeat (refine mix_quiet rfl ?_; go_big_quiet_step (fail); refine wpQuiet_nil ?_)
            refine mix_loud rfl ?_
            go_wp2_with fail
            refine (Says_ref s Ar Am Aw cr cm cw W2.drew (hs.go D29) HWO.out b Af Ag cf cg ((hbf.below D29).up D29.size) ((hbg.below D29).up D29.size) (bookB_iff.1 HBK.out) j k hlj hlD).mono ?_
            rintro e W3 ⟨rfl, h29⟩
            rw [HNN.out]
            have X29 := ex_trans D29 h29
            go_wp2_with fail
            refine ⟨inEx X29, ?_⟩
            repeat (refine mix_quiet rfl ?_; go_big_quiet_step (fail); refine wpQuiet_nil ?_)
            refine mix_nil (r := [_]) rfl ?_
            clear a0 a1 a2 a3 la
            clear b0 b1 lb
            clear t0 h1
            replace hs := hs.go X29
            replace q0 := q0.below X29 q0.lt
            replace qb := qb.below X29 qb.lt
            replace hbf := (hbf.below X29).up X29.size
            replace hbg := (hbg.below X29).up X29.size
            replace qm := qm.below X29 qm.lt
            replace hX := hX.go X29
            have B_W3 := ex_trans B_W2 X29
            have X_W3 := ex_trans X_W2 X29
            have hbw3 := ex_trans hbw2 X29
            have hnp : ¬ xh < nn := by
              have h1 : lostB s b k j = false := HNO.out k j hlD hlj
              rw [HLB.out] at h1
              exact of_decide_eq_false h1
            go_wp2_with fail
            refine ⟨⟨⟨j + 1, by omega, hbw3, exFrame (by kernel_rfl)⟩⟩, ?_⟩
            show s.rooms.length - (intOf (.int .i64 ((j : Int) + 1))).toNat < s.rooms.length - (intOf (.int .i64 (j : Int))).toNat
            simp [intOf]
            omega
          · obtain rfl : j = s.rooms.length := by omega
            have hbk2 := ex_trans hbw hbw2
            go_wp2_with fail
            refine ⟨⟨⟨k + 1, by omega, hbk2, exFrame (by kernel_rfl)⟩⟩, ?_⟩
            show D - (intOf (.int .i64 ((k : Int) + 1))).toNat < D - (intOf (.int .i64 (k : Int))).toNat
            simp [intOf]
            omega
        · obtain rfl : k = D := by omega
          go_wp2_with fail
          refine (awake_any W).mono ?_
          rintro e Wz ⟨rfl, hz⟩
          go_wp2
          go_ret
          exact ⟨rfl, ex_trans B_W hz⟩
    have hb1 : bi = true := by rw [← hbi, h2]
    subst hb1
    have hi1 := inB_iff.1 h1
    have hi2 := inB_iff.1 h2
    obtain ⟨r, hr0⟩ : ∃ r : Nat, r0 = (r : Int) := ⟨r0.toNat, by omega⟩
    obtain ⟨d, hd0⟩ : ∃ d : Nat, d0 = (d : Int) := ⟨d0.toNat, by omega⟩
    subst hr0 hd0
    clear h1 h2 hbi
    by_cases hg : Good s.wo off0
    rotate_left
    · have hm : me = 9 := HME.out.symm.trans (mis_no HCK.out HBK.out HBI.out hg)
      have hl : le = 9 := HLE.out.symm.trans (los_no HCK.out HBK.out hg)
      have hR : misR s b r d = ⟨0, 0⟩ := mis_bad (mis_no HCK.out HBK.out HBI.out hg) (by decide)
      have hV : losV s b = (0, 0) := los_bad (los_no HCK.out HBK.out hg) (by decide)
      have h1 : lo = 0 := by rw [← HM3.out.1, hR]
      have h2 : hi = 0 := by rw [← HM3.out.2, hR]
      have h3 : lr = 0 := by rw [← HLV.out.1, hV]
      have h4 : ld = 0 := by rw [← HLV.out.2, hV]
      subst h1 h2 h3 h4 hm hl
      rw [show truB (Good s.wo (outL [])) = false by rw [outL_nil]; exact truB_false hg]
      clear hR hV hrv hg
      have y0 : V22.cell? ⟨pm, 0, none⟩ = some (.int .i64 0) := qm.cell 0
      have y1 : V22.cell? ⟨pm, 1, none⟩ = some (.int .i64 0) := qm.cell 1
      have ly := qm.lt
      go_wp2_with fail
      refine (awake_any V22).mono ?_
      rintro e Wz ⟨rfl, hz⟩
      go_wp2
      go_ret
      exact ⟨rfl, ex_trans B_V22 hz⟩
    obtain ⟨rfl, hX⟩ := hrv.yes (by rw [outL_nil]; exact hg)
    rw [show truB (Good s.wo (outL [])) = true by rw [outL_nil]; exact truB_iff.2 hg]
    rw [outL_nil] at hX
    have HG := Lib.hid hg
    have hlos := los_ok HCK.out HBK.out hg
    clear hrv hg
    rw [HD.out] at hX
    have lr' : r < s.rooms.length := by omega
    have ld' : d < D := by omega
    obtain ⟨hm0, hm1⟩ := mis_ok HCK.out HBK.out HG.out lr' (show d < s.wo.days by rw [HD.out]; exact ld')
    have hm : me = 0 := HME.out.symm.trans hm0
    subst hm
    have hsb1 := saysF_bd s.wo b (bookB_iff.1 HBK.out) HWO.out rfl r d lr' (by rw [HD.out]; exact ld')
    have hst1 := stkR_bd HWO.out HG.out (r := r) (d := d) lr' (by rw [HD.out]; exact ld')
    obtain ⟨nn, hnn⟩ : ∃ x, saysF s.wo b r d = x := ⟨_, rfl⟩
    obtain ⟨xh, hxh⟩ : ∃ x, (stkR s.wo off0 r d).hi = x := ⟨_, rfl⟩
    obtain ⟨xl, hxl⟩ : ∃ x, (stkR s.wo off0 r d).lo = x := ⟨_, rfl⟩
    have HNN := Lib.hid hnn
    rw [hnn, hxh, hxl] at hm1
    rw [hnn] at hsb1
    rw [hxh, hxl] at hst1
    have h1 : lo = nn - xh := by rw [← HM3.out.1, hm1]
    have h2 : hi = nn - xl := by rw [← HM3.out.2, hm1]
    subst h1 h2
    have HXX := Lib.hid (And.intro hxh hxl)
    clear hm0 hm1 hnn hxh hxl
    clear a0 a1 a2 a3 la
    have a0 : V22.cell? ⟨pq0, 0, none⟩ = some (.slice Ar s.rooms.length cr) := q0.cell 0
    have a1 : V22.cell? ⟨pq0, 1, none⟩ = some (.int .i64 s.days) := q0.cell 1
    have a2 : V22.cell? ⟨pq0, 2, none⟩ = some (.slice Am s.moves.length cm) := q0.cell 2
    have a3 : V22.cell? ⟨pq0, 3, none⟩ = some (.slice Aw s.wgs.length cw) := q0.cell 3
    have la := q0.lt
    clear b0 b1 lb
    have b0 : V22.cell? ⟨pqb, 0, none⟩ = some (.slice Af b.fs.length cf) := qb.cell 0
    have b1 : V22.cell? ⟨pqb, 1, none⟩ = some (.slice Ag b.gs.length cg) := qb.cell 1
    have lb := qb.lt
    go_wp2_with fail
    refine (Says_ref s Ar Am Aw cr cm cw V22 hs HWO.out b Af Ag cf cg hbf hbg (bookB_iff.1 HBK.out) r d lr' (by rw [HD.out]; exact ld')).mono ?_
    rintro e V23 ⟨rfl, hV23⟩
    replace hs := hs.go hV23
    replace q0 := q0.below hV23 q0.lt
    replace qb := qb.below hV23 qb.lt
    replace hbf := (hbf.below hV23).up hV23.size
    replace hbg := (hbg.below hV23).up hV23.size
    replace qm := qm.below hV23 qm.lt
    replace hX := hX.go hV23
    have B_V23 := ex_trans B_V22 hV23
    rw [HNN.out]
    obtain ⟨bT, oT, b4, o4, e4, hbT, t0, hb4, h0, h1⟩ := hX.at_ lr' ld'
    subst e4
    rw [HXX.out.1] at h1
    rw [HXX.out.2] at h0
    have y0 : V23.cell? ⟨pm, 0, none⟩ = some (.int .i64 (nn - xh)) := qm.cell 0
    have y1 : V23.cell? ⟨pm, 1, none⟩ = some (.int .i64 (nn - xl)) := qm.cell 1
    have ly := qm.lt
    have z1 : IntKind.i64.wrap (nn - xh) = nn - xh := IntWalk.i64_in _ (by omega)
    have z2 : IntKind.i64.wrap (nn - xl) = nn - xl := IntWalk.i64_in _ (by omega)
    have lr2 : (r : Int) < (s.rooms.length : Int) := by omega
    have ld2 : (d : Int) < (D : Int) := by omega
    go_upto_region 13 with fail
    have D13 := (Below.refl V23.heap.size V23).drew
    refine wp_region_ext_mix 26 [(false, 0), (false, 1), (false, 2), (false, 3), (false, 4), (false, 5), (false, 6), (false, 7), (false, 8), (false, 9), (false, 10), (false, 11), (false, 12), (false, 13), (false, 14), (false, 15), (false, 16), (false, 17), (false, 18), (false, 19), (false, 20), (false, 21), (false, 22), (false, 23), (true, 24), (false, 25)] (by kernel_rfl) (by kernel_rfl) (by intro d _ _ _ _ h; cases d <;> exact h) ?_
    repeat (refine mix_quiet rfl ?_; go_big_quiet_step (fail); refine wpQuiet_nil ?_)
    refine mix_loud rfl ?_
    go_wp2_with fail
    refine (between_any (nn - xh) (nn - xl) V23.drew).mono ?_
    rintro e V24 ⟨rfl, h13⟩
    have X13 := ex_trans D13 h13
    go_wp2_with fail
    refine ⟨inEx X13, ?_⟩
    repeat (refine mix_quiet rfl ?_; go_big_quiet_step (fail); refine wpQuiet_nil ?_)
    refine mix_nil (r := [_]) rfl ?_
    clear a0 a1 a2 a3 la
    clear b0 b1 lb
    clear t0 h0 h1 y0 y1 ly z1 z2
    replace hs := hs.go X13
    replace q0 := q0.below X13 q0.lt
    replace qb := qb.below X13 qb.lt
    replace hbf := (hbf.below X13).up X13.size
    replace hbg := (hbg.below X13).up X13.size
    replace qm := qm.below X13 qm.lt
    replace hX := hX.go X13
    have B_V24 := ex_trans B_V23 X13
    clear qm
    have a0 : V24.cell? ⟨pq0, 0, none⟩ = some (.slice Ar s.rooms.length cr) := q0.cell 0
    have a1 : V24.cell? ⟨pq0, 1, none⟩ = some (.int .i64 s.days) := q0.cell 1
    have a2 : V24.cell? ⟨pq0, 2, none⟩ = some (.slice Am s.moves.length cm) := q0.cell 2
    have a3 : V24.cell? ⟨pq0, 3, none⟩ = some (.slice Aw s.wgs.length cw) := q0.cell 3
    have la := q0.lt
    have b0 : V24.cell? ⟨pqb, 0, none⟩ = some (.slice Af b.fs.length cf) := qb.cell 0
    have b1 : V24.cell? ⟨pqb, 1, none⟩ = some (.slice Ag b.gs.length cg) := qb.cell 1
    have lb := qb.lt
    rw [HSD.out] at a1
    rcases hlos with ⟨hE, r9, d9, hli⟩ | ⟨hE, hV, hno⟩
    · have hl : le = 0 := HLE.out.symm.trans hE
      have h3 : lr = (r9 : Int) := by rw [← HLV.out.1, hli.v]
      have h4 : ld = (d9 : Int) := by rw [← HLV.out.2, hli.v]
      subst hl h3 h4
      have HLI := Lib.hid hli
      have hrn : r9 < s.rooms.length := hli.hr
      have hdn : d9 < D := by have h : d9 < s.wo.days := hli.hd; rw [HD.out] at h; exact h
      clear hli hE
      go_wp2_with fail
      refine wp_loop (fun a W => Rel (fun a W => ∃ k : Nat, k ≤ D ∧ k ≤ d9 ∧ Below V24.heap.size V24 W ∧ ∃ u : Nat → Value, a = ⟨List.toArray (u 0 :: u 1 :: .int .i64 (r : Int) :: .int .i64 (d : Int) :: .pointer (some ⟨pq0, 0, none⟩) :: .pointer (some ⟨pqb, 0, none⟩) :: u 6 :: u 7 :: u 8 :: u 9 :: u 10 :: .int .i64 (r9 : Int) :: .int .i64 (d9 : Int) :: .int .i64 0 :: u 14 :: (.slice (some ⟨bT, oT, none⟩) s.rooms.length c2) :: u 16 :: u 17 :: u 18 :: .int .i64 (k : Int) :: u 20 :: u 21 :: u 22 :: u 23 :: u 24 :: u 25 :: u 26 :: u 27 :: u 28 :: u 29 :: u 30 :: u 31 :: u 32 :: u 33 :: u 34 :: u 35 :: u 36 :: u 37 :: u 38 :: u 39 :: u 40 :: u 41 :: u 42 :: u 43 :: u 44 :: u 45 :: u 46 :: u 47 :: u 48 :: u 49 :: u 50 :: u 51 :: u 52 :: u 53 :: u 54 :: u 55 :: u 56 :: u 57 :: u 58 :: u 59 :: u 60 :: u 61 :: u 62 :: u 63 :: u 64 :: u 65 :: u 66 :: u 67 :: u 68 :: u 69 :: u 70 :: u 71 :: u 72 :: u 73 :: u 74 :: u 75 :: u 76 :: u 77 :: u 78 :: u 79 :: u 80 :: u 81 :: u 82 :: u 83 :: u 84 :: u 85 :: u 86 :: u 87 :: u 88 :: u 89 :: u 90 :: u 91 :: u 92 :: u 93 :: u 94 :: u 95 :: u 96 :: u 97 :: u 98 :: u 99 :: u 100 :: u 101 :: u 102 :: u 103 :: u 104 :: u 105 :: u 106 :: u 107 :: u 108 :: u 109 :: u 110 :: u 111 :: u 112 :: u 113 :: u 114 :: u 115 :: u 116 :: u 117 :: u 118 :: u 119 :: u 120 :: u 121 :: u 122 :: u 123 :: u 124 :: u 125 :: u 126 :: u 127 :: u 128 :: u 129 :: u 130 :: u 131 :: u 132 :: u 133 :: u 134 :: u 135 :: u 136 :: u 137 :: u 138 :: u 139 :: u 140 :: u 141 :: u 142 :: u 143 :: u 144 :: u 145 :: u 146 :: u 147 :: u 148 :: u 149 :: u 150 :: u 151 :: u 152 :: u 153 :: u 154 :: u 155 :: u 156 :: u 157 :: u 158 :: u 159 :: u 160 :: u 161 :: u 162 :: u 163 :: u 164 :: u 165 :: u 166 :: u 167 :: u 168 :: u 169 :: u 170 :: u 171 :: u 172 :: u 173 :: u 174 :: u 175 :: u 176 :: u 177 :: u 178 :: u 179 :: u 180 :: u 181 :: u 182 :: u 183 :: u 184 :: u 185 :: u 186 :: u 187 :: u 188 :: u 189 :: u 190 :: u 191 :: u 192 :: u 193 :: u 194 :: u 195 :: u 196 :: u 197 :: u 198 :: u 199 :: u 200 :: u 201 :: u 202 :: u 203 :: u 204 :: u 205 :: u 206 :: u 207 :: u 208 :: u 209 :: u 210 :: u 211 :: u 212 :: u 213 :: u 214 :: u 215 :: u 216 :: u 217 :: u 218 :: u 219 :: u 220 :: u 221 :: u 222 :: u 223 :: u 224 :: u 225 :: u 226 :: u 227 :: u 228 :: u 229 :: []), []⟩) a W) (fun a _ => D - (intOf (a.tmps.getD 19 undef)).toNat) ⟨⟨0, by omega, by omega, Below.refl _ _, exFrame (by kernel_rfl)⟩⟩ ?_
      clear a0 a1 a2 a3 la
      clear b0 b1 lb
      rintro a W ⟨⟨k, hk, hkd, hbw, u, rfl⟩⟩
      replace hs := hs.go hbw
      replace q0 := q0.below hbw q0.lt
      replace qb := qb.below hbw qb.lt
      replace hbf := (hbf.below hbw).up hbw.size
      replace hbg := (hbg.below hbw).up hbw.size
      replace hX := hX.go hbw
      have B_W := ex_trans B_V24 hbw
      have a0 : W.cell? ⟨pq0, 0, none⟩ = some (.slice Ar s.rooms.length cr) := q0.cell 0
      have a1 : W.cell? ⟨pq0, 1, none⟩ = some (.int .i64 s.days) := q0.cell 1
      have a2 : W.cell? ⟨pq0, 2, none⟩ = some (.slice Am s.moves.length cm) := q0.cell 2
      have a3 : W.cell? ⟨pq0, 3, none⟩ = some (.slice Aw s.wgs.length cw) := q0.cell 3
      have la := q0.lt
      have b0 : W.cell? ⟨pqb, 0, none⟩ = some (.slice Af b.fs.length cf) := qb.cell 0
      have b1 : W.cell? ⟨pqb, 1, none⟩ = some (.slice Ag b.gs.length cg) := qb.cell 1
      have lb := qb.lt
      rw [HSD.out] at a1
      by_cases hlt : k < D
      · have hlt' : (k : Int) < (D : Int) := by omega
        go_wp2_with fail
        refine wp_loop (fun a W2 => Rel (fun a W2 => ∃ j : Nat, j ≤ s.rooms.length ∧ (k < d9 ∨ (k = d9 ∧ j ≤ r9)) ∧ Below W.heap.size W W2 ∧ ∃ u : Nat → Value, a = ⟨List.toArray (u 0 :: u 1 :: .int .i64 (r : Int) :: .int .i64 (d : Int) :: .pointer (some ⟨pq0, 0, none⟩) :: .pointer (some ⟨pqb, 0, none⟩) :: u 6 :: u 7 :: u 8 :: u 9 :: u 10 :: .int .i64 (r9 : Int) :: .int .i64 (d9 : Int) :: .int .i64 0 :: u 14 :: (.slice (some ⟨bT, oT, none⟩) s.rooms.length c2) :: u 16 :: u 17 :: u 18 :: .int .i64 (k : Int) :: .int .i64 (j : Int) :: u 21 :: u 22 :: u 23 :: u 24 :: u 25 :: u 26 :: u 27 :: u 28 :: u 29 :: u 30 :: u 31 :: u 32 :: u 33 :: u 34 :: u 35 :: u 36 :: u 37 :: u 38 :: u 39 :: u 40 :: u 41 :: u 42 :: u 43 :: u 44 :: u 45 :: u 46 :: u 47 :: u 48 :: u 49 :: u 50 :: u 51 :: u 52 :: u 53 :: u 54 :: u 55 :: u 56 :: u 57 :: u 58 :: u 59 :: u 60 :: u 61 :: u 62 :: u 63 :: u 64 :: u 65 :: u 66 :: u 67 :: u 68 :: u 69 :: u 70 :: u 71 :: u 72 :: u 73 :: u 74 :: u 75 :: u 76 :: u 77 :: u 78 :: u 79 :: u 80 :: u 81 :: u 82 :: u 83 :: u 84 :: u 85 :: u 86 :: u 87 :: u 88 :: u 89 :: u 90 :: u 91 :: u 92 :: u 93 :: u 94 :: u 95 :: u 96 :: u 97 :: u 98 :: u 99 :: u 100 :: u 101 :: u 102 :: u 103 :: u 104 :: u 105 :: u 106 :: u 107 :: u 108 :: u 109 :: u 110 :: u 111 :: u 112 :: u 113 :: u 114 :: u 115 :: u 116 :: u 117 :: u 118 :: u 119 :: u 120 :: u 121 :: u 122 :: u 123 :: u 124 :: u 125 :: u 126 :: u 127 :: u 128 :: u 129 :: u 130 :: u 131 :: u 132 :: u 133 :: u 134 :: u 135 :: u 136 :: u 137 :: u 138 :: u 139 :: u 140 :: u 141 :: u 142 :: u 143 :: u 144 :: u 145 :: u 146 :: u 147 :: u 148 :: u 149 :: u 150 :: u 151 :: u 152 :: u 153 :: u 154 :: u 155 :: u 156 :: u 157 :: u 158 :: u 159 :: u 160 :: u 161 :: u 162 :: u 163 :: u 164 :: u 165 :: u 166 :: u 167 :: u 168 :: u 169 :: u 170 :: u 171 :: u 172 :: u 173 :: u 174 :: u 175 :: u 176 :: u 177 :: u 178 :: u 179 :: u 180 :: u 181 :: u 182 :: u 183 :: u 184 :: u 185 :: u 186 :: u 187 :: u 188 :: u 189 :: u 190 :: u 191 :: u 192 :: u 193 :: u 194 :: u 195 :: u 196 :: u 197 :: u 198 :: u 199 :: u 200 :: u 201 :: u 202 :: u 203 :: u 204 :: u 205 :: u 206 :: u 207 :: u 208 :: u 209 :: u 210 :: u 211 :: u 212 :: u 213 :: u 214 :: u 215 :: u 216 :: u 217 :: u 218 :: u 219 :: u 220 :: u 221 :: u 222 :: u 223 :: u 224 :: u 225 :: u 226 :: u 227 :: u 228 :: u 229 :: []), []⟩) a W2) (fun a _ => s.rooms.length - (intOf (a.tmps.getD 20 undef)).toNat) ⟨⟨0, by omega, by omega, Below.refl _ _, exFrame (by kernel_rfl)⟩⟩ ?_
        clear a0 a1 a2 a3 la
        clear b0 b1 lb
        rintro a W2 ⟨⟨j, hj, hkj, hbw2, u2, rfl⟩⟩
        replace hs := hs.go hbw2
        replace q0 := q0.below hbw2 q0.lt
        replace qb := qb.below hbw2 qb.lt
        replace hbf := (hbf.below hbw2).up hbw2.size
        replace hbg := (hbg.below hbw2).up hbw2.size
        replace hX := hX.go hbw2
        have B_W2 := ex_trans B_W hbw2
        have X_W2 := ex_trans hbw hbw2
        have a0 : W2.cell? ⟨pq0, 0, none⟩ = some (.slice Ar s.rooms.length cr) := q0.cell 0
        have a1 : W2.cell? ⟨pq0, 1, none⟩ = some (.int .i64 s.days) := q0.cell 1
        have a2 : W2.cell? ⟨pq0, 2, none⟩ = some (.slice Am s.moves.length cm) := q0.cell 2
        have a3 : W2.cell? ⟨pq0, 3, none⟩ = some (.slice Aw s.wgs.length cw) := q0.cell 3
        have la := q0.lt
        have b0 : W2.cell? ⟨pqb, 0, none⟩ = some (.slice Af b.fs.length cf) := qb.cell 0
        have b1 : W2.cell? ⟨pqb, 1, none⟩ = some (.slice Ag b.gs.length cg) := qb.cell 1
        have lb := qb.lt
        by_cases hlj : j < s.rooms.length
        · have hlj' : (j : Int) < (s.rooms.length : Int) := by omega
          have hlD : k < s.wo.days := by rw [HD.out]; exact hlt
          obtain ⟨bT', oT', b4, o4, e4, hbT, t0, hb4, h0, h1⟩ := hX.at_ hlj hlt
          injection e4 with e4
          injection e4 with e4 e5
          subst e4 e5
          obtain ⟨xh, hxh⟩ : ∃ x, (stkR s.wo off0 j k).hi = x := ⟨_, rfl⟩
          rw [hxh] at h1
          obtain ⟨nn, hnn⟩ : ∃ x, saysF s.wo b j k = x := ⟨_, rfl⟩
          have HNN := Lib.hid hnn
          have HLB : Hid (lostB s b k j = decide (xh < nn)) := Lib.hid (by unfold lostB; rw [hxh, hnn])
          clear hxh hnn h0
          go_upto_region 29 with fail
          have D29 := (Below.refl W2.heap.size W2).drew
          refine wp_region_ext_mix 13 [(false, 0), (false, 1), (false, 2), (false, 3), (false, 5), (false, 6), (false, 7), (false, 8), (false, 9), (false, 10), (false, 11), (false, 12), (true, 4)] (by kernel_rfl) (by kernel_rfl) (by intro d _ _ _ _ h; cases d <;> exact h) ?_
          repeat (refine mix_quiet rfl ?_; go_big_quiet_step (fail); refine wpQuiet_nil ?_)
          refine mix_loud rfl ?_
          go_wp2_with fail
          refine (Says_ref s Ar Am Aw cr cm cw W2.drew (hs.go D29) HWO.out b Af Ag cf cg ((hbf.below D29).up D29.size) ((hbg.below D29).up D29.size) (bookB_iff.1 HBK.out) j k hlj hlD).mono ?_
          rintro e W3 ⟨rfl, h29⟩
          rw [HNN.out]
          have X29 := ex_trans D29 h29
          go_wp2_with fail
          refine ⟨inEx X29, ?_⟩
          repeat (refine mix_quiet rfl ?_; go_big_quiet_step (fail); refine wpQuiet_nil ?_)
          refine mix_nil (r := [_]) rfl ?_
          clear a0 a1 a2 a3 la
          clear b0 b1 lb
          clear t0 h1
          replace hs := hs.go X29
          replace q0 := q0.below X29 q0.lt
          replace qb := qb.below X29 qb.lt
          replace hbf := (hbf.below X29).up X29.size
          replace hbg := (hbg.below X29).up X29.size
          replace hX := hX.go X29
          have B_W3 := ex_trans B_W2 X29
          have X_W3 := ex_trans X_W2 X29
          have hbw3 := ex_trans hbw2 X29
          by_cases hhit : k = d9 ∧ j = r9
          · obtain ⟨rfl, rfl⟩ := hhit
            have hpos : xh < nn := by have h1 := HLI.out.hit; rw [HLB.out] at h1; exact of_decide_eq_true h1
            clear hkj
            go_wp2_with fail
            refine (awake_any W3).mono ?_
            rintro e Wz ⟨rfl, hz⟩
            go_wp2
            go_ret
            exact ⟨rfl, ex_trans B_W3 hz⟩
          have hnp : ¬ xh < nn := by
            have h1 : lostB s b k j = false := by
              rcases hkj with h | ⟨h, h'⟩
              · exact HLI.out.day k j h hlj
              · subst h; exact HLI.out.row j (by omega)
            rw [HLB.out] at h1
            exact of_decide_eq_false h1
          have hkj2 : k < d9 ∨ (k = d9 ∧ j + 1 ≤ r9) := by omega
          clear hhit hkj
          go_wp2_with fail
          refine ⟨⟨⟨j + 1, by omega, by omega, hbw3, exFrame (by kernel_rfl)⟩⟩, ?_⟩
          show s.rooms.length - (intOf (.int .i64 ((j : Int) + 1))).toNat < s.rooms.length - (intOf (.int .i64 (j : Int))).toNat
          simp [intOf]
          omega
        · obtain rfl : j = s.rooms.length := by omega
          have hbk2 := ex_trans hbw hbw2
          go_wp2_with fail
          refine ⟨⟨⟨k + 1, by omega, by omega, hbk2, exFrame (by kernel_rfl)⟩⟩, ?_⟩
          show D - (intOf (.int .i64 ((k : Int) + 1))).toNat < D - (intOf (.int .i64 (k : Int))).toNat
          simp [intOf]
          omega
      · exact absurd hkd (by omega)
    · have hl : le = 7 := HLE.out.symm.trans hE
      have h3 : lr = 0 := by rw [← HLV.out.1, hV]
      have h4 : ld = 0 := by rw [← HLV.out.2, hV]
      subst hl h3 h4
      have HNO := Lib.hid hno
      clear hE hV hno
      go_wp2_with fail
      refine wp_loop (fun a W => Rel (fun a W => ∃ k : Nat, k ≤ D ∧ Below V24.heap.size V24 W ∧ ∃ u : Nat → Value, a = ⟨List.toArray (u 0 :: u 1 :: .int .i64 (r : Int) :: .int .i64 (d : Int) :: .pointer (some ⟨pq0, 0, none⟩) :: .pointer (some ⟨pqb, 0, none⟩) :: u 6 :: u 7 :: u 8 :: u 9 :: u 10 :: .int .i64 0 :: .int .i64 0 :: .int .i64 7 :: u 14 :: (.slice (some ⟨bT, oT, none⟩) s.rooms.length c2) :: u 16 :: u 17 :: u 18 :: .int .i64 (k : Int) :: u 20 :: u 21 :: u 22 :: u 23 :: u 24 :: u 25 :: u 26 :: u 27 :: u 28 :: u 29 :: u 30 :: u 31 :: u 32 :: u 33 :: u 34 :: u 35 :: u 36 :: u 37 :: u 38 :: u 39 :: u 40 :: u 41 :: u 42 :: u 43 :: u 44 :: u 45 :: u 46 :: u 47 :: u 48 :: u 49 :: u 50 :: u 51 :: u 52 :: u 53 :: u 54 :: u 55 :: u 56 :: u 57 :: u 58 :: u 59 :: u 60 :: u 61 :: u 62 :: u 63 :: u 64 :: u 65 :: u 66 :: u 67 :: u 68 :: u 69 :: u 70 :: u 71 :: u 72 :: u 73 :: u 74 :: u 75 :: u 76 :: u 77 :: u 78 :: u 79 :: u 80 :: u 81 :: u 82 :: u 83 :: u 84 :: u 85 :: u 86 :: u 87 :: u 88 :: u 89 :: u 90 :: u 91 :: u 92 :: u 93 :: u 94 :: u 95 :: u 96 :: u 97 :: u 98 :: u 99 :: u 100 :: u 101 :: u 102 :: u 103 :: u 104 :: u 105 :: u 106 :: u 107 :: u 108 :: u 109 :: u 110 :: u 111 :: u 112 :: u 113 :: u 114 :: u 115 :: u 116 :: u 117 :: u 118 :: u 119 :: u 120 :: u 121 :: u 122 :: u 123 :: u 124 :: u 125 :: u 126 :: u 127 :: u 128 :: u 129 :: u 130 :: u 131 :: u 132 :: u 133 :: u 134 :: u 135 :: u 136 :: u 137 :: u 138 :: u 139 :: u 140 :: u 141 :: u 142 :: u 143 :: u 144 :: u 145 :: u 146 :: u 147 :: u 148 :: u 149 :: u 150 :: u 151 :: u 152 :: u 153 :: u 154 :: u 155 :: u 156 :: u 157 :: u 158 :: u 159 :: u 160 :: u 161 :: u 162 :: u 163 :: u 164 :: u 165 :: u 166 :: u 167 :: u 168 :: u 169 :: u 170 :: u 171 :: u 172 :: u 173 :: u 174 :: u 175 :: u 176 :: u 177 :: u 178 :: u 179 :: u 180 :: u 181 :: u 182 :: u 183 :: u 184 :: u 185 :: u 186 :: u 187 :: u 188 :: u 189 :: u 190 :: u 191 :: u 192 :: u 193 :: u 194 :: u 195 :: u 196 :: u 197 :: u 198 :: u 199 :: u 200 :: u 201 :: u 202 :: u 203 :: u 204 :: u 205 :: u 206 :: u 207 :: u 208 :: u 209 :: u 210 :: u 211 :: u 212 :: u 213 :: u 214 :: u 215 :: u 216 :: u 217 :: u 218 :: u 219 :: u 220 :: u 221 :: u 222 :: u 223 :: u 224 :: u 225 :: u 226 :: u 227 :: u 228 :: u 229 :: []), []⟩) a W) (fun a _ => D - (intOf (a.tmps.getD 19 undef)).toNat) ⟨⟨0, by omega, Below.refl _ _, exFrame (by kernel_rfl)⟩⟩ ?_
      clear a0 a1 a2 a3 la
      clear b0 b1 lb
      rintro a W ⟨⟨k, hk, hbw, u, rfl⟩⟩
      replace hs := hs.go hbw
      replace q0 := q0.below hbw q0.lt
      replace qb := qb.below hbw qb.lt
      replace hbf := (hbf.below hbw).up hbw.size
      replace hbg := (hbg.below hbw).up hbw.size
      replace hX := hX.go hbw
      have B_W := ex_trans B_V24 hbw
      have a0 : W.cell? ⟨pq0, 0, none⟩ = some (.slice Ar s.rooms.length cr) := q0.cell 0
      have a1 : W.cell? ⟨pq0, 1, none⟩ = some (.int .i64 s.days) := q0.cell 1
      have a2 : W.cell? ⟨pq0, 2, none⟩ = some (.slice Am s.moves.length cm) := q0.cell 2
      have a3 : W.cell? ⟨pq0, 3, none⟩ = some (.slice Aw s.wgs.length cw) := q0.cell 3
      have la := q0.lt
      have b0 : W.cell? ⟨pqb, 0, none⟩ = some (.slice Af b.fs.length cf) := qb.cell 0
      have b1 : W.cell? ⟨pqb, 1, none⟩ = some (.slice Ag b.gs.length cg) := qb.cell 1
      have lb := qb.lt
      rw [HSD.out] at a1
      by_cases hlt : k < D
      · have hlt' : (k : Int) < (D : Int) := by omega
        go_wp2_with fail
        refine wp_loop (fun a W2 => Rel (fun a W2 => ∃ j : Nat, j ≤ s.rooms.length ∧ Below W.heap.size W W2 ∧ ∃ u : Nat → Value, a = ⟨List.toArray (u 0 :: u 1 :: .int .i64 (r : Int) :: .int .i64 (d : Int) :: .pointer (some ⟨pq0, 0, none⟩) :: .pointer (some ⟨pqb, 0, none⟩) :: u 6 :: u 7 :: u 8 :: u 9 :: u 10 :: .int .i64 0 :: .int .i64 0 :: .int .i64 7 :: u 14 :: (.slice (some ⟨bT, oT, none⟩) s.rooms.length c2) :: u 16 :: u 17 :: u 18 :: .int .i64 (k : Int) :: .int .i64 (j : Int) :: u 21 :: u 22 :: u 23 :: u 24 :: u 25 :: u 26 :: u 27 :: u 28 :: u 29 :: u 30 :: u 31 :: u 32 :: u 33 :: u 34 :: u 35 :: u 36 :: u 37 :: u 38 :: u 39 :: u 40 :: u 41 :: u 42 :: u 43 :: u 44 :: u 45 :: u 46 :: u 47 :: u 48 :: u 49 :: u 50 :: u 51 :: u 52 :: u 53 :: u 54 :: u 55 :: u 56 :: u 57 :: u 58 :: u 59 :: u 60 :: u 61 :: u 62 :: u 63 :: u 64 :: u 65 :: u 66 :: u 67 :: u 68 :: u 69 :: u 70 :: u 71 :: u 72 :: u 73 :: u 74 :: u 75 :: u 76 :: u 77 :: u 78 :: u 79 :: u 80 :: u 81 :: u 82 :: u 83 :: u 84 :: u 85 :: u 86 :: u 87 :: u 88 :: u 89 :: u 90 :: u 91 :: u 92 :: u 93 :: u 94 :: u 95 :: u 96 :: u 97 :: u 98 :: u 99 :: u 100 :: u 101 :: u 102 :: u 103 :: u 104 :: u 105 :: u 106 :: u 107 :: u 108 :: u 109 :: u 110 :: u 111 :: u 112 :: u 113 :: u 114 :: u 115 :: u 116 :: u 117 :: u 118 :: u 119 :: u 120 :: u 121 :: u 122 :: u 123 :: u 124 :: u 125 :: u 126 :: u 127 :: u 128 :: u 129 :: u 130 :: u 131 :: u 132 :: u 133 :: u 134 :: u 135 :: u 136 :: u 137 :: u 138 :: u 139 :: u 140 :: u 141 :: u 142 :: u 143 :: u 144 :: u 145 :: u 146 :: u 147 :: u 148 :: u 149 :: u 150 :: u 151 :: u 152 :: u 153 :: u 154 :: u 155 :: u 156 :: u 157 :: u 158 :: u 159 :: u 160 :: u 161 :: u 162 :: u 163 :: u 164 :: u 165 :: u 166 :: u 167 :: u 168 :: u 169 :: u 170 :: u 171 :: u 172 :: u 173 :: u 174 :: u 175 :: u 176 :: u 177 :: u 178 :: u 179 :: u 180 :: u 181 :: u 182 :: u 183 :: u 184 :: u 185 :: u 186 :: u 187 :: u 188 :: u 189 :: u 190 :: u 191 :: u 192 :: u 193 :: u 194 :: u 195 :: u 196 :: u 197 :: u 198 :: u 199 :: u 200 :: u 201 :: u 202 :: u 203 :: u 204 :: u 205 :: u 206 :: u 207 :: u 208 :: u 209 :: u 210 :: u 211 :: u 212 :: u 213 :: u 214 :: u 215 :: u 216 :: u 217 :: u 218 :: u 219 :: u 220 :: u 221 :: u 222 :: u 223 :: u 224 :: u 225 :: u 226 :: u 227 :: u 228 :: u 229 :: []), []⟩) a W2) (fun a _ => s.rooms.length - (intOf (a.tmps.getD 20 undef)).toNat) ⟨⟨0, by omega, Below.refl _ _, exFrame (by kernel_rfl)⟩⟩ ?_
        clear a0 a1 a2 a3 la
        clear b0 b1 lb
        rintro a W2 ⟨⟨j, hj, hbw2, u2, rfl⟩⟩
        replace hs := hs.go hbw2
        replace q0 := q0.below hbw2 q0.lt
        replace qb := qb.below hbw2 qb.lt
        replace hbf := (hbf.below hbw2).up hbw2.size
        replace hbg := (hbg.below hbw2).up hbw2.size
        replace hX := hX.go hbw2
        have B_W2 := ex_trans B_W hbw2
        have X_W2 := ex_trans hbw hbw2
        have a0 : W2.cell? ⟨pq0, 0, none⟩ = some (.slice Ar s.rooms.length cr) := q0.cell 0
        have a1 : W2.cell? ⟨pq0, 1, none⟩ = some (.int .i64 s.days) := q0.cell 1
        have a2 : W2.cell? ⟨pq0, 2, none⟩ = some (.slice Am s.moves.length cm) := q0.cell 2
        have a3 : W2.cell? ⟨pq0, 3, none⟩ = some (.slice Aw s.wgs.length cw) := q0.cell 3
        have la := q0.lt
        have b0 : W2.cell? ⟨pqb, 0, none⟩ = some (.slice Af b.fs.length cf) := qb.cell 0
        have b1 : W2.cell? ⟨pqb, 1, none⟩ = some (.slice Ag b.gs.length cg) := qb.cell 1
        have lb := qb.lt
        by_cases hlj : j < s.rooms.length
        · have hlj' : (j : Int) < (s.rooms.length : Int) := by omega
          have hlD : k < s.wo.days := by rw [HD.out]; exact hlt
          obtain ⟨bT', oT', b4, o4, e4, hbT, t0, hb4, h0, h1⟩ := hX.at_ hlj hlt
          injection e4 with e4
          injection e4 with e4 e5
          subst e4 e5
          obtain ⟨xh, hxh⟩ : ∃ x, (stkR s.wo off0 j k).hi = x := ⟨_, rfl⟩
          rw [hxh] at h1
          obtain ⟨nn, hnn⟩ : ∃ x, saysF s.wo b j k = x := ⟨_, rfl⟩
          have HNN := Lib.hid hnn
          have HLB : Hid (lostB s b k j = decide (xh < nn)) := Lib.hid (by unfold lostB; rw [hxh, hnn])
          clear hxh hnn h0
          go_upto_region 29 with fail
          have D29 := (Below.refl W2.heap.size W2).drew
          refine wp_region_ext_mix 13 [(false, 0), (false, 1), (false, 2), (false, 3), (false, 5), (false, 6), (false, 7), (false, 8), (false, 9), (false, 10), (false, 11), (false, 12), (true, 4)] (by kernel_rfl) (by kernel_rfl) (by intro d _ _ _ _ h; cases d <;> exact h) ?_
          repeat (refine mix_quiet rfl ?_; go_big_quiet_step (fail); refine wpQuiet_nil ?_)
          refine mix_loud rfl ?_
          go_wp2_with fail
          refine (Says_ref s Ar Am Aw cr cm cw W2.drew (hs.go D29) HWO.out b Af Ag cf cg ((hbf.below D29).up D29.size) ((hbg.below D29).up D29.size) (bookB_iff.1 HBK.out) j k hlj hlD).mono ?_
          rintro e W3 ⟨rfl, h29⟩
          rw [HNN.out]
          have X29 := ex_trans D29 h29
          go_wp2_with fail
          refine ⟨inEx X29, ?_⟩
          repeat (refine mix_quiet rfl ?_; go_big_quiet_step (fail); refine wpQuiet_nil ?_)
          refine mix_nil (r := [_]) rfl ?_
          clear a0 a1 a2 a3 la
          clear b0 b1 lb
          clear t0 h1
          replace hs := hs.go X29
          replace q0 := q0.below X29 q0.lt
          replace qb := qb.below X29 qb.lt
          replace hbf := (hbf.below X29).up X29.size
          replace hbg := (hbg.below X29).up X29.size
          replace hX := hX.go X29
          have B_W3 := ex_trans B_W2 X29
          have X_W3 := ex_trans X_W2 X29
          have hbw3 := ex_trans hbw2 X29
          have hnp : ¬ xh < nn := by
            have h1 : lostB s b k j = false := HNO.out k j hlD hlj
            rw [HLB.out] at h1
            exact of_decide_eq_false h1
          go_wp2_with fail
          refine ⟨⟨⟨j + 1, by omega, hbw3, exFrame (by kernel_rfl)⟩⟩, ?_⟩
          show s.rooms.length - (intOf (.int .i64 ((j : Int) + 1))).toNat < s.rooms.length - (intOf (.int .i64 (j : Int))).toNat
          simp [intOf]
          omega
        · obtain rfl : j = s.rooms.length := by omega
          have hbk2 := ex_trans hbw hbw2
          go_wp2_with fail
          refine ⟨⟨⟨k + 1, by omega, hbk2, exFrame (by kernel_rfl)⟩⟩, ?_⟩
          show D - (intOf (.int .i64 ((k : Int) + 1))).toNat < D - (intOf (.int .i64 (k : Int))).toNat
          simp [intOf]
          omega
      · obtain rfl : k = D := by omega
        go_wp2_with fail
        refine (awake_any W).mono ?_
        rintro e Wz ⟨rfl, hz⟩
        go_wp2
        go_ret
        exact ⟨rfl, ex_trans B_W hz⟩
end Go.Proofs.Ythihdiilokdidaa
end
