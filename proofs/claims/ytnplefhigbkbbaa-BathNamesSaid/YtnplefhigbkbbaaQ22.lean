/- Bath's laws: BathNames (walk). -/
import Derived.Deep.CutBlock
import Derived.Test.YtnplefhigbkbbaaQ21
import Derived.Test.YtnplefhigbkbbaaQ8
set_option linter.unusedVariables false
set_option linter.unusedSimpArgs false
set_option linter.unusedSectionVars false
section
namespace Go.Proofs.Ytnplefhigbkbbaa
open Go.RowKit
attribute [local go_sem] Ex.cell? Ex.frozen? Fx.cell?

theorem run_make7 : ∃ oc : Array Value, (∀ k, k < 14 → oc[k]? = some (.int .i64 0)) ∧ ∀ W : World, (Instr.makeSlice 28 (.int .i64 7) (.int .i64 7)).run Try.prog W = .ok (.slice (some ⟨W.heap.size, 0, none⟩) 7 7) (W.alloc (.cells oc 41)) := by
  obtain ⟨i0, hi0, hz0, hz1, hz2⟩ := info_parts range_info
  refine ⟨_, ?_, fun W => by
    have := run_makeSlice (P := Try.prog) (w := W) 28 41 i0 _ Try.underlying28 hi0 hz0 .i64 .i64 7 7 (by omega) (by omega) (by rw [hz1]; decide) (by rw [hz2]; decide) (by decide)
    rw [hz1] at this
    exact this⟩
  intro k hk
  have : k % 2 = 0 ∨ k % 2 = 1 := by omega
  simp only [madeCells]
  rcases this with h | h
  · simp [hk]
    show (#[Value.int .i64 0, .int .i64 0] : Array Value)[k % 2]! = _
    rw [h]; rfl
  · simp [hk]
    show (#[Value.int .i64 0, .int .i64 0] : Array Value)[k % 2]! = _
    rw [h]; rfl
theorem zer7 {oc : Array Value} (hoc : ∀ k, k < 14 → oc[k]? = some (.int .i64 0)) {w : World} {p : Nat} (h : Blk w p 41 oc) : SlAt w w.heap.size 2 (some ⟨p, 0, none⟩) 7 (fR z7) := fun _ => ⟨p, 0, rfl, h.lt, fun k j hk hj => by
  rw [h.cell, hoc _ (by omega)]
  have e : gR z7 k = ⟨0, 0⟩ := by
    unfold z7 gR
    rw [List.getD_eq_getElem?_getD, List.getElem?_replicate, if_pos hk]; rfl
  match j, hj with
  | 0, _ => show some (Value.int .i64 0) = some (Value.int .i64 (gR z7 k).lo); rw [e]
  | 1, _ => show some (Value.int .i64 0) = some (Value.int .i64 (gR z7 k).hi); rw [e]⟩
theorem one_pl {W : World} {pi pj : Nat} {h a b : Int} (gi : Blk W pi 3 #[.int .i64 a, .int .i64 b]) (gp : Blk W pj 112 #[.int .i64 h, .slice (some ⟨pi, 0, none⟩) 2 2]) : PlIn W W.heap.size [⟨h, [a, b]⟩] (some ⟨pj, 0, none⟩) (fun _ => some ⟨pi, 0, none⟩) (fun _ => 2) := ⟨fun _ => ⟨pj, 0, rfl, gp.lt, fun k j hk hj => by
  have hk : k < 1 := hk
  rw [gp.cell]
  match k, hk, j, hj with
  | 0, _, 0, _ => rfl
  | 0, _, 1, _ => rfl⟩, fun k hk => by
  have hk : k < 1 := hk
  match k, hk with
  | 0, _ => exact pair_sl gi⟩
theorem one_sm {h a b : Int} : SmPl [⟨h, [a, b]⟩] := ⟨by simp, fun k hk => by
  have hk : k < 1 := hk
  match k, hk with
  | 0, _ => exact (by decide : (2 : Nat) ≤ 1000000)⟩
/-- a part of a tree that is come to from many sides is gone through once. -/
theorem tq_share {P : Program} {l : List Oper} {Q : Exit → Act → World → Prop} {S : World → Prop} {n : Nat} (t2 : Tq) (R : Act → World → Prop) {t : Tq} {a : Act} {w : World} (second : ∀ a w, R a w → wqTree P l Q S n t2 a w)
    (first : (∀ a w, R a w → wqTree P l Q S n t2 a w) → wqTree2 P l Q S n t2 t a w) : wqTree2 P l Q S n t2 t a w := first second
set_option maxRecDepth 100000 in
set_option maxHeartbeats 51200000 in
theorem NamesLaw_any (w : World) : Calls Try.prog 18 #[] w fun e w' => e = .returned (.bool true) ∧ Below w.heap.size w w' := by
  have B_w := Below.refl w.heap.size w
  go_enter Try.func18, Try.ntmps18
  go_wp2_with fail
  refine (three_law [] none 0 w (by simp) (fun h => absurd h (by simp)) (fun x hx => by cases hx)).mono ?_
  rintro e W1 ⟨⟨v1, rfl, hv1⟩, hW1⟩
  have B_W1 := ex_trans B_w hW1
  obtain ⟨Ao1, Ab1, co1, cb1, rA1, rc1, rfl, hs1⟩ := hv1.se
  clear hv1
  rw [show ([] : List Xb).map (·.1) = [] from rfl] at hs1 ⊢
  go_wp2_with fail
  refine (Diff_any (thrS []) Ao1 Ab1 co1 cb1 rA1 rc1 W1 hs1 thr_sm 2 0).mono ?_
  rintro e W2 ⟨⟨dlo, dhi, evd, rfl, hdd⟩, hW2⟩
  have B_W2 := ex_trans B_W1 hW2
  obtain ⟨rfl, rfl, rfl⟩ := thr_diff2 hdd.out
  clear hdd hs1
  go_wp2_with fail
  have N_W3 := ex_alloc (Below.refl W2.heap.size W2) (.cells #[.int .i64 (-3), .int .i64 5] 41)
  have qd : Blk (W2.alloc (.cells #[.int .i64 (-3), .int .i64 5] 41)) W2.heap.size 41 #[.int .i64 (-3), .int .i64 5] := Blk.new _ _ _
  have B_W3 := ex_trans B_W2 N_W3
  clear N_W3
  generalize W2.alloc (.cells #[.int .i64 (-3), .int .i64 5] 41) = W3 at *
  obtain ⟨pd, hpd⟩ : ∃ p, W2.heap.size = p := ⟨_, rfl⟩
  rw [hpd] at qd ⊢
  clear hpd
  refine (three_law [] none 0 W3 (by simp) (fun h => absurd h (by simp)) (fun x hx => by cases hx)).mono ?_
  rintro e W4 ⟨⟨v4, rfl, hv4⟩, hW4⟩
  replace qd := qd.below hW4 qd.lt
  have B_W4 := ex_trans B_W3 hW4
  obtain ⟨Ao4, Ab4, co4, cb4, rA4, rc4, rfl, hs4⟩ := hv4.se
  clear hv4
  rw [show ([] : List Xb).map (·.1) = [] from rfl] at hs4 ⊢
  go_wp2_with fail
  refine (Blame_any (thrS []) Ao4 Ab4 co4 cb4 rA4 rc4 W4 hs4 thr_sm).mono ?_
  rintro e W5 ⟨⟨Apl, pl, cpl, Aal, al, cal, evb, rfl, hbl, _, _, _, _⟩, hW5⟩
  replace qd := qd.below hW5 qd.lt
  have B_W5 := ex_trans B_W4 hW5
  obtain ⟨rfl, rfl, rfl⟩ := thr_blame hbl.out
  clear hbl hs4
  go_wp2_with fail
  refine (yard_law 2 W5).mono ?_
  rintro e W6 ⟨⟨vy6, rfl, Ay6, cy6, rfl, hy6⟩, hW6⟩
  replace qd := qd.below hW6 qd.lt
  have B_W6 := ex_trans B_W5 hW6
  replace hy6 := hy6.sl
  go_wp2_with fail
  refine (Plan_any (yardW 2) Ay6 cy6 W6 hy6 (by decide)).mono ?_
  rintro e W7 ⟨⟨Apn, pn, cpn, rAp, rcp, evp, rfl, hpv, hp6, hpl⟩, hW7⟩
  replace qd := qd.below hW7 qd.lt
  have B_W7 := ex_trans B_W6 hW7
  obtain ⟨rfl, lpn, hrp⟩ := yard2_plan hpv.out
  have HRP := Lib.hid hrp
  have HPN := Lib.hid lpn
  clear hpv hrp hy6 lpn
  go_wp2_with fail
  have hV3 := ex_alloc (ex_alloc (ex_alloc (ex_alloc (Below.refl W7.heap.size W7) (.cells #[.int .i64 0, .int .i64 1] 3)) (.cells #[.int .i64 0, .int .i64 3] 3)) (.cells #[.int .i64 1, .int .i64 2] 3)) (.cells #[.int .i64 80, .slice (some ⟨W7.heap.size, 0, none⟩) 2 2, .int .i64 95, .slice (some ⟨W7.heap.size + 1, 0, none⟩) 2 2, .int .i64 160, .slice (some ⟨W7.heap.size + 1 + 1, 0, none⟩) 2 2] 112)
  have g0 : Blk ((((W7.alloc (.cells #[.int .i64 0, .int .i64 1] 3)).alloc (.cells #[.int .i64 0, .int .i64 3] 3)).alloc (.cells #[.int .i64 1, .int .i64 2] 3)).alloc (.cells #[.int .i64 80, .slice (some ⟨W7.heap.size, 0, none⟩) 2 2, .int .i64 95, .slice (some ⟨W7.heap.size + 1, 0, none⟩) 2 2, .int .i64 160, .slice (some ⟨W7.heap.size + 1 + 1, 0, none⟩) 2 2] 112)) (W7.heap.size) 3 #[.int .i64 0, .int .i64 1] := (((Blk.new' _ _ _ rfl).alloc _).alloc _).alloc _
  have g1 : Blk ((((W7.alloc (.cells #[.int .i64 0, .int .i64 1] 3)).alloc (.cells #[.int .i64 0, .int .i64 3] 3)).alloc (.cells #[.int .i64 1, .int .i64 2] 3)).alloc (.cells #[.int .i64 80, .slice (some ⟨W7.heap.size, 0, none⟩) 2 2, .int .i64 95, .slice (some ⟨W7.heap.size + 1, 0, none⟩) 2 2, .int .i64 160, .slice (some ⟨W7.heap.size + 1 + 1, 0, none⟩) 2 2] 112)) (W7.heap.size + 1) 3 #[.int .i64 0, .int .i64 3] := ((Blk.new' _ _ _ (by simp)).alloc _).alloc _
  have g2 : Blk ((((W7.alloc (.cells #[.int .i64 0, .int .i64 1] 3)).alloc (.cells #[.int .i64 0, .int .i64 3] 3)).alloc (.cells #[.int .i64 1, .int .i64 2] 3)).alloc (.cells #[.int .i64 80, .slice (some ⟨W7.heap.size, 0, none⟩) 2 2, .int .i64 95, .slice (some ⟨W7.heap.size + 1, 0, none⟩) 2 2, .int .i64 160, .slice (some ⟨W7.heap.size + 1 + 1, 0, none⟩) 2 2] 112)) (W7.heap.size + 1 + 1) 3 #[.int .i64 1, .int .i64 2] := (Blk.new' _ _ _ (by simp)).alloc _
  have gd : Blk ((((W7.alloc (.cells #[.int .i64 0, .int .i64 1] 3)).alloc (.cells #[.int .i64 0, .int .i64 3] 3)).alloc (.cells #[.int .i64 1, .int .i64 2] 3)).alloc (.cells #[.int .i64 80, .slice (some ⟨W7.heap.size, 0, none⟩) 2 2, .int .i64 95, .slice (some ⟨W7.heap.size + 1, 0, none⟩) 2 2, .int .i64 160, .slice (some ⟨W7.heap.size + 1 + 1, 0, none⟩) 2 2] 112)) (W7.heap.size + 1 + 1 + 1) 112 #[.int .i64 80, .slice (some ⟨W7.heap.size, 0, none⟩) 2 2, .int .i64 95, .slice (some ⟨W7.heap.size + 1, 0, none⟩) 2 2, .int .i64 160, .slice (some ⟨W7.heap.size + 1 + 1, 0, none⟩) 2 2] := Blk.new' _ _ _ (by simp)
  generalize ((((W7.alloc (.cells #[.int .i64 0, .int .i64 1] 3)).alloc (.cells #[.int .i64 0, .int .i64 3] 3)).alloc (.cells #[.int .i64 1, .int .i64 2] 3)).alloc (.cells #[.int .i64 80, .slice (some ⟨W7.heap.size, 0, none⟩) 2 2, .int .i64 95, .slice (some ⟨W7.heap.size + 1, 0, none⟩) 2 2, .int .i64 160, .slice (some ⟨W7.heap.size + 1 + 1, 0, none⟩) 2 2] 112)) = V3 at *
  obtain ⟨p0, hp0⟩ : ∃ p, W7.heap.size = p := ⟨_, rfl⟩
  rw [hp0] at g0 g1 g2 gd ⊢
  clear hp0
  replace qd := qd.below hV3 qd.lt
  replace hpl := hpl.below hV3
  have B_V3 := ex_trans B_W7 hV3
  obtain ⟨p1, hp1⟩ : ∃ p, p0 + 1 = p := ⟨_, rfl⟩
  obtain ⟨p2, hp2⟩ : ∃ p, p0 + 1 + 1 = p := ⟨_, rfl⟩
  obtain ⟨p3, hp3⟩ : ∃ p, p0 + 1 + 1 + 1 = p := ⟨_, rfl⟩
  rw [hp3, hp2, hp1] at gd
  rw [hp1] at g1
  rw [hp2] at g2
  rw [hp3, hp2, hp1]
  clear hp1 hp2 hp3
  refine (yard_law 2 V3).mono ?_
  rintro e V4 ⟨⟨vy7, rfl, Ay7, cy7, rfl, hy7⟩, hV4⟩
  replace qd := qd.below hV4 qd.lt
  replace hpl := hpl.below hV4
  replace g0 := g0.below hV4 g0.lt
  replace g1 := g1.below hV4 g1.lt
  replace g2 := g2.below hV4 g2.lt
  replace gd := gd.below hV4 gd.lt
  have B_V4 := ex_trans B_V3 hV4
  replace hy7 := hy7.sl
  go_wp2_with fail
  refine (Known_any (yardW 2) Ay7 cy7 good3 (some ⟨p3, 0, none⟩) 3 (fun k => some ⟨[p0, p1, p2].getD k 0, 0, none⟩) (fun _ => 2) V4 hy7 (by decide) (good3_pl g0 g1 g2 gd) good3_sm).mono ?_
  rintro e V5 ⟨⟨Ak, kl, ck, ek, rfl, hkv, _, sk⟩, hV5⟩
  replace qd := qd.below hV5 qd.lt
  replace hpl := hpl.below hV5
  replace g0 := g0.below hV5 g0.lt
  replace g1 := g1.below hV5 g1.lt
  replace g2 := g2.below hV5 g2.lt
  replace gd := gd.below hV5 gd.lt
  have B_V5 := ex_trans B_V4 hV5
  obtain ⟨rfl, rfl⟩ := good3_tells hkv.out
  clear hkv hy7
  go_wp2_with fail
  refine wp_region_ext_mix 8 [(false, 1), (false, 2), (true, 0), (true, 3), (false, 4), (false, 5), (false, 6), (false, 7)] (by kernel_rfl) (by kernel_rfl) (by intro d _ _ _ _ h; cases d <;> exact h) ?_
  have D_V5 := (Below.refl V5.heap.size V5).drew
  repeat (refine mix_quiet rfl ?_; go_big_quiet_step (fail); refine wpQuiet_nil ?_)
  obtain ⟨V6, hV6⟩ : ∃ Wd, V5.drew = Wd := ⟨_, rfl⟩
  rw [hV6] at D_V5 ⊢
  clear hV6
  replace qd := qd.below D_V5 qd.lt
  replace hpl := hpl.below D_V5
  replace g0 := g0.below D_V5 g0.lt
  replace g1 := g1.below D_V5 g1.lt
  replace g2 := g2.below D_V5 g2.lt
  replace gd := gd.below D_V5 gd.lt
  replace sk := (sk.below D_V5).up D_V5.size
  have B_V6 := ex_trans B_V5 D_V5
  refine mix_loud rfl ?_
  go_wp2_with fail
  refine (yard_law 2 V6).mono ?_
  rintro e V7 ⟨⟨vy8, rfl, Ay8, cy8, rfl, hy8⟩, hV7⟩
  replace qd := qd.below hV7 qd.lt
  replace hpl := hpl.below hV7
  replace g0 := g0.below hV7 g0.lt
  replace g1 := g1.below hV7 g1.lt
  replace g2 := g2.below hV7 g2.lt
  replace gd := gd.below hV7 gd.lt
  replace sk := (sk.below hV7).up hV7.size
  have B_V7 := ex_trans B_V6 hV7
  have X_V7 := ex_trans D_V5 hV7
  replace hy8 := hy8.sl
  go_wp2_with fail
  refine ⟨inEx X_V7, ?_⟩
  repeat (refine mix_quiet rfl ?_; go_big_quiet_step (fail); refine wpQuiet_nil ?_)
  refine mix_loud rfl ?_
  go_wp2_with fail
  refine (Known_any (yardW 2) Ay8 cy8 good2 (some ⟨p3, 2, none⟩) 2 (fun k => some ⟨[p1, p2].getD k 0, 0, none⟩) (fun _ => 2) V7 hy8 (by decide) (good2_pl g1 g2 gd) good2_sm).mono ?_
  rintro e V8 ⟨⟨An, nl, cn, en, rfl, hkv, _, sn⟩, hV8⟩
  replace qd := qd.below hV8 qd.lt
  replace hpl := hpl.below hV8
  replace g0 := g0.below hV8 g0.lt
  replace g1 := g1.below hV8 g1.lt
  replace g2 := g2.below hV8 g2.lt
  replace gd := gd.below hV8 gd.lt
  replace sk := (sk.below hV8).up hV8.size
  have B_V8 := ex_trans B_V7 hV8
  have X_V8 := ex_trans X_V7 hV8
  obtain ⟨rfl, rfl⟩ := good2_tells hkv.out
  clear hkv hy8
  go_wp2_with fail
  refine ⟨inEx X_V8, ?_⟩
  repeat (refine mix_quiet rfl ?_; go_big_quiet_step (fail); refine wpQuiet_nil ?_)
  refine mix_nil rfl ?_
  have lpn2 : ((pn.length : Int) == 3) = true := by rw [HPN.out]; rfl
  have lpn3 : ((pn.length : Int) != 3) = false := by rw [HPN.out]; rfl
  go_upto_region 7 with fail
  refine wp_cut (fun a W => Rel (fun a W => Below V8.heap.size V8 W ∧ ∃ u : Nat → Value, a = ⟨List.toArray (.bool false :: u 1 :: u 2 :: u 3 :: u 4 :: u 5 :: u 6 :: u 7 :: u 8 :: u 9 :: u 10 :: u 11 :: u 12 :: u 13 :: u 14 :: u 15 :: u 16 :: u 17 :: u 18 :: u 19 :: u 20 :: u 21 :: u 22 :: u 23 :: u 24 :: u 25 :: u 26 :: u 27 :: u 28 :: u 29 :: u 30 :: u 31 :: u 32 :: u 33 :: u 34 :: u 35 :: u 36 :: u 37 :: u 38 :: u 39 :: u 40 :: u 41 :: u 42 :: u 43 :: u 44 :: u 45 :: u 46 :: u 47 :: u 48 :: u 49 :: u 50 :: u 51 :: u 52 :: u 53 :: u 54 :: u 55 :: u 56 :: u 57 :: u 58 :: u 59 :: u 60 :: u 61 :: u 62 :: u 63 :: u 64 :: u 65 :: u 66 :: u 67 :: u 68 :: u 69 :: u 70 :: u 71 :: u 72 :: u 73 :: u 74 :: u 75 :: u 76 :: u 77 :: u 78 :: u 79 :: u 80 :: u 81 :: u 82 :: u 83 :: u 84 :: u 85 :: u 86 :: u 87 :: u 88 :: u 89 :: u 90 :: u 91 :: u 92 :: u 93 :: u 94 :: u 95 :: u 96 :: u 97 :: u 98 :: u 99 :: u 100 :: u 101 :: u 102 :: u 103 :: u 104 :: u 105 :: u 106 :: u 107 :: u 108 :: u 109 :: u 110 :: u 111 :: u 112 :: u 113 :: u 114 :: u 115 :: u 116 :: u 117 :: u 118 :: u 119 :: u 120 :: u 121 :: u 122 :: u 123 :: u 124 :: u 125 :: u 126 :: u 127 :: u 128 :: u 129 :: u 130 :: u 131 :: u 132 :: u 133 :: u 134 :: u 135 :: u 136 :: u 137 :: u 138 :: .bool false :: u 140 :: u 141 :: u 142 :: u 143 :: u 144 :: u 145 :: u 146 :: u 147 :: u 148 :: u 149 :: u 150 :: u 151 :: u 152 :: u 153 :: u 154 :: u 155 :: u 156 :: u 157 :: u 158 :: u 159 :: u 160 :: u 161 :: u 162 :: u 163 :: u 164 :: u 165 :: u 166 :: u 167 :: u 168 :: u 169 :: u 170 :: u 171 :: u 172 :: u 173 :: u 174 :: u 175 :: u 176 :: u 177 :: u 178 :: u 179 :: u 180 :: u 181 :: u 182 :: u 183 :: u 184 :: u 185 :: u 186 :: u 187 :: u 188 :: u 189 :: u 190 :: u 191 :: u 192 :: u 193 :: u 194 :: u 195 :: u 196 :: u 197 :: u 198 :: u 199 :: u 200 :: u 201 :: u 202 :: u 203 :: u 204 :: u 205 :: u 206 :: u 207 :: u 208 :: u 209 :: u 210 :: u 211 :: u 212 :: u 213 :: u 214 :: u 215 :: u 216 :: u 217 :: u 218 :: u 219 :: u 220 :: u 221 :: u 222 :: u 223 :: u 224 :: u 225 :: u 226 :: u 227 :: u 228 :: u 229 :: u 230 :: u 231 :: u 232 :: u 233 :: u 234 :: u 235 :: u 236 :: u 237 :: u 238 :: u 239 :: u 240 :: u 241 :: u 242 :: u 243 :: u 244 :: []), []⟩) a W) ?_ ?_
  rotate_left
  · as_aux_lemma =>
      intro J K' hJ hK
      have r0 : V8.cell? ⟨pd, 0, none⟩ = some (.int .i64 (-3)) := qd.cell 0
      have r1 : V8.cell? ⟨pd, 1, none⟩ = some (.int .i64 5) := qd.cell 1
      have rl := qd.lt
      go_wp2_with fail
      have HSP : Hid (SmPl pn) := Lib.hid ⟨by have := HPN.out; omega, fun k hk => by have := (HRP.out.dips k hk).len; have : (yardW 2).room = 2 := rfl; omega⟩
      simp only [List.append_eq, List.cons_append, List.nil_append]
      refine wp_region_ext_tq2F 83 (.quiet 0 (.quiet 1 (.quiet 2 (.quiet 3 (.loud 4 (.quiet 5 (.quiet 6 (.quiet 7 (.quiet 8 (.quiet 9 (.quiet 10 (.quiet 11 (.quiet 12 (.quiet 13 (.quiet 14 (.quiet 15 (.quiet 16 (.quiet 17 (.quiet 18 (.quiet 19 (.quiet 20 (.quiet 21 (.quiet 22 (.quiet 23 (.quiet 24 (.quiet 25 (.quiet 26 (.quiet 27 (.quiet 28 (.quiet 30 (.loud 29 (.loud 31 (.quiet 32 (.quiet 33 (.quiet 34 (.quiet 36 (.loud 35 (.loud 37 (.quiet 38 (.quiet 39 (.quiet 40 (.quiet 41 (.quiet 42 (.quiet 43 (.quiet 44 (.loud 45 (.loud 46 (.quiet 47 (.quiet 48 (.quiet 49 (.quiet 50 (.quiet 51 (.quiet 52 (.quiet 53 (.quiet 54 (.loud 55 (.loud 56 (.quiet 57 (.quiet 58 (.quiet 59 (.quiet 61 (.loud 60 (.loud 62 (.quiet 63 (.quiet 64 (.quiet 65 (.quiet 67 (.quiet 68 (.loud 66 (.loud 69 (.quiet 70 (.quiet 71 (.fork3 72 (.fork 73 (.loud 74 (.loud 75 (.quiet 76 (.quiet 77 (.quiet 78 .done))))) 74 (.loud 73 (.loud 75 (.quiet 76 (.quiet 77 (.quiet 78 .done)))))) 73 (.fork 72 (.loud 74 (.loud 75 (.quiet 76 (.quiet 77 (.quiet 78 .done))))) 74 (.loud 72 (.loud 75 (.quiet 76 (.quiet 77 (.quiet 78 .done)))))) 74 (.fork 72 (.loud 73 (.loud 75 (.quiet 76 (.quiet 77 (.quiet 78 .done))))) 73 (.loud 72 (.loud 75 (.quiet 76 (.quiet 77 (.quiet 78 .done))))))))))))))))))))))))))))))))))))))))))))))))))))))))))))))))))))))))))))))) 79 (.fork3 79 (.fork 80 (.loud 81 (.loud 82 .done)) 81 (.loud 80 (.loud 82 .done))) 80 (.fork 79 (.loud 81 (.loud 82 .done)) 81 (.loud 79 (.loud 82 .done))) 81 (.fork 79 (.loud 80 (.loud 82 .done)) 80 (.loud 79 (.loud 82 .done)))) (by kernel_rfl) (by kernel_rfl) (by intro d _ _ _ _ h; cases d <;> exact h) ?_
      have D_V8 := (Below.refl V8.heap.size V8).drew
      repeat (refine tw_quiet rfl ?_; go_big_quiet_step (fail); refine wpQuiet_nil ?_)
      obtain ⟨W0, hW0⟩ : ∃ Wd, V8.drew = Wd := ⟨_, rfl⟩
      rw [hW0] at D_V8 ⊢
      clear hW0
      replace hpl := hpl.below D_V8
      replace g0 := g0.below D_V8 g0.lt
      replace g1 := g1.below D_V8 g1.lt
      replace g2 := g2.below D_V8 g2.lt
      replace gd := gd.below D_V8 gd.lt
      replace sk := (sk.below D_V8).up D_V8.size
      replace sn := (sn.below D_V8).up D_V8.size
      have B_W0 := ex_trans B_V8 D_V8
      refine tq_share (.fork3 79 (.fork 80 (.loud 81 (.loud 82 .done)) 81 (.loud 80 (.loud 82 .done))) 80 (.fork 79 (.loud 81 (.loud 82 .done)) 81 (.loud 79 (.loud 82 .done))) 81 (.fork 79 (.loud 80 (.loud 82 .done)) 80 (.loud 79 (.loud 82 .done)))) (fun a W => Rel (fun a W => Below V8.heap.size V8 W ∧ ∃ u : Nat → Value, a = ⟨List.toArray (.bool false :: u 1 :: u 2 :: u 3 :: u 4 :: u 5 :: u 6 :: u 7 :: u 8 :: u 9 :: u 10 :: u 11 :: u 12 :: u 13 :: u 14 :: u 15 :: u 16 :: u 17 :: u 18 :: u 19 :: u 20 :: u 21 :: u 22 :: u 23 :: u 24 :: u 25 :: u 26 :: u 27 :: u 28 :: u 29 :: u 30 :: u 31 :: u 32 :: u 33 :: u 34 :: u 35 :: u 36 :: u 37 :: u 38 :: u 39 :: u 40 :: u 41 :: u 42 :: u 43 :: u 44 :: u 45 :: u 46 :: u 47 :: u 48 :: u 49 :: u 50 :: u 51 :: u 52 :: u 53 :: u 54 :: u 55 :: u 56 :: u 57 :: u 58 :: u 59 :: u 60 :: u 61 :: u 62 :: u 63 :: u 64 :: u 65 :: u 66 :: u 67 :: u 68 :: u 69 :: u 70 :: u 71 :: u 72 :: u 73 :: u 74 :: u 75 :: u 76 :: u 77 :: u 78 :: u 79 :: u 80 :: u 81 :: u 82 :: u 83 :: u 84 :: u 85 :: u 86 :: u 87 :: u 88 :: u 89 :: u 90 :: u 91 :: u 92 :: u 93 :: u 94 :: u 95 :: u 96 :: u 97 :: u 98 :: u 99 :: u 100 :: u 101 :: u 102 :: u 103 :: u 104 :: u 105 :: u 106 :: u 107 :: u 108 :: u 109 :: u 110 :: u 111 :: u 112 :: u 113 :: u 114 :: u 115 :: u 116 :: u 117 :: u 118 :: u 119 :: u 120 :: u 121 :: u 122 :: u 123 :: u 124 :: u 125 :: u 126 :: u 127 :: u 128 :: u 129 :: u 130 :: u 131 :: u 132 :: u 133 :: .bool false :: u 135 :: u 136 :: u 137 :: u 138 :: u 139 :: u 140 :: u 141 :: u 142 :: u 143 :: u 144 :: u 145 :: u 146 :: u 147 :: u 148 :: u 149 :: u 150 :: u 151 :: u 152 :: u 153 :: u 154 :: u 155 :: u 156 :: u 157 :: u 158 :: u 159 :: u 160 :: u 161 :: u 162 :: u 163 :: u 164 :: u 165 :: u 166 :: u 167 :: u 168 :: u 169 :: u 170 :: u 171 :: u 172 :: u 173 :: u 174 :: u 175 :: u 176 :: u 177 :: u 178 :: u 179 :: u 180 :: u 181 :: u 182 :: u 183 :: u 184 :: u 185 :: u 186 :: u 187 :: u 188 :: u 189 :: u 190 :: u 191 :: u 192 :: u 193 :: u 194 :: u 195 :: u 196 :: u 197 :: u 198 :: u 199 :: u 200 :: u 201 :: u 202 :: u 203 :: u 204 :: u 205 :: u 206 :: u 207 :: u 208 :: u 209 :: u 210 :: u 211 :: u 212 :: u 213 :: u 214 :: u 215 :: u 216 :: u 217 :: u 218 :: u 219 :: u 220 :: u 221 :: u 222 :: u 223 :: u 224 :: u 225 :: u 226 :: u 227 :: u 228 :: u 229 :: u 230 :: u 231 :: u 232 :: u 233 :: u 234 :: u 235 :: u 236 :: u 237 :: u 238 :: u 239 :: u 240 :: u 241 :: u 242 :: u 243 :: u 244 :: []), []⟩) a W) ?_ ?_
      rotate_left
      · intro hshare
        refine tw_loud rfl ?_
        go_wp2_with fail
        refine (between_law (-3) 5 W0).mono ?_
        rintro e E1 ⟨rfl, hE1⟩
        replace hpl := hpl.below hE1
        replace g0 := g0.below hE1 g0.lt
        replace g1 := g1.below hE1 g1.lt
        replace g2 := g2.below hE1 g2.lt
        replace gd := gd.below hE1 gd.lt
        replace sk := (sk.below hE1).up hE1.size
        replace sn := (sn.below hE1).up hE1.size
        have B_E1 := ex_trans B_W0 hE1
        have X_E1 := ex_trans D_V8 hE1
        go_wp2_with fail
        refine ⟨inEx X_E1, ?_⟩
        repeat (refine tw_quiet rfl ?_; go_big_quiet_step (fail); refine wpQuiet_nil ?_)
        refine tw_loud rfl ?_
        go_wp2_with fail
        refine (yard_law 2 E1).mono ?_
        rintro e E2 ⟨⟨vyz, rfl, Ayz, cyz, rfl, hyz⟩, hE2⟩
        replace hpl := hpl.below hE2
        replace g0 := g0.below hE2 g0.lt
        replace g1 := g1.below hE2 g1.lt
        replace g2 := g2.below hE2 g2.lt
        replace gd := gd.below hE2 gd.lt
        replace sk := (sk.below hE2).up hE2.size
        replace sn := (sn.below hE2).up hE2.size
        have B_E2 := ex_trans B_E1 hE2
        have X_E2 := ex_trans X_E1 hE2
        replace hyz := hyz.sl
        go_wp2_with fail
        refine ⟨inEx X_E2, ?_⟩
        repeat (refine tw_quiet rfl ?_; go_big_quiet_step (fail); refine wpQuiet_nil ?_)
        refine tw_loud rfl ?_
        go_wp2_with fail
        refine (provePlan_any (yardW 2) Ayz cyz pn Apn cpn rAp rcp E2 hyz (by decide) hpl HSP.out 3).mono ?_
        rintro e E3 ⟨t, rfl, ht, hE3⟩
        obtain rfl : t = true := ht.out.2 ⟨y2ok, HRP.out, by rw [HPN.out]; decide⟩
        clear ht hyz
        replace hpl := hpl.below hE3
        replace g0 := g0.below hE3 g0.lt
        replace g1 := g1.below hE3 g1.lt
        replace g2 := g2.below hE3 g2.lt
        replace gd := gd.below hE3 gd.lt
        replace sk := (sk.below hE3).up hE3.size
        replace sn := (sn.below hE3).up hE3.size
        have B_E3 := ex_trans B_E2 hE3
        have X_E3 := ex_trans X_E2 hE3
        go_wp2_with fail
        refine ⟨inEx X_E3, ?_⟩
        repeat (refine tw_quiet rfl ?_; go_big_quiet_step (fail); refine wpQuiet_nil ?_)
        refine tw_loud rfl ?_
        go_wp2_with fail
        refine (yard_law 2 E3).mono ?_
        rintro e E4 ⟨⟨vyz, rfl, Ayz, cyz, rfl, hyz⟩, hE4⟩
        replace hpl := hpl.below hE4
        replace g0 := g0.below hE4 g0.lt
        replace g1 := g1.below hE4 g1.lt
        replace g2 := g2.below hE4 g2.lt
        replace gd := gd.below hE4 gd.lt
        replace sk := (sk.below hE4).up hE4.size
        replace sn := (sn.below hE4).up hE4.size
        have B_E4 := ex_trans B_E3 hE4
        have X_E4 := ex_trans X_E3 hE4
        replace hyz := hyz.sl
        go_wp2_with fail
        refine ⟨inEx X_E4, ?_⟩
        repeat (refine tw_quiet rfl ?_; go_big_quiet_step (fail); refine wpQuiet_nil ?_)
        refine tw_loud rfl ?_
        go_wp2_with fail
        refine (provePlan_any (yardW 2) Ayz cyz pn Apn cpn rAp rcp E4 hyz (by decide) hpl HSP.out 2).mono ?_
        rintro e E5 ⟨t, rfl, ht, hE5⟩
        obtain rfl : t = false := by rw [← Bool.not_eq_true]; intro h; have := (ht.out.1 h).2.2; rw [HPN.out] at this; exact absurd this (by decide)
        clear ht hyz
        replace hpl := hpl.below hE5
        replace g0 := g0.below hE5 g0.lt
        replace g1 := g1.below hE5 g1.lt
        replace g2 := g2.below hE5 g2.lt
        replace gd := gd.below hE5 gd.lt
        replace sk := (sk.below hE5).up hE5.size
        replace sn := (sn.below hE5).up hE5.size
        have B_E5 := ex_trans B_E4 hE5
        have X_E5 := ex_trans X_E4 hE5
        clear hpl
        go_wp2_with fail
        refine ⟨inEx X_E5, ?_⟩
        repeat (refine tw_quiet rfl ?_; go_big_quiet_step (fail); refine wpQuiet_nil ?_)
        refine tw_loud rfl ?_
        go_wp2_with fail
        have N_E6 := ex_alloc (Below.refl E5.heap.size E5) (.cells #[.int .i64 0, .int .i64 1, .int .i64 2, .int .i64 1] 3)
        have nk : Blk (E5.alloc (.cells #[.int .i64 0, .int .i64 1, .int .i64 2, .int .i64 1] 3)) E5.heap.size 3 #[.int .i64 0, .int .i64 1, .int .i64 2, .int .i64 1] := Blk.new _ _ _
        replace g0 := g0.below N_E6 g0.lt
        replace g1 := g1.below N_E6 g1.lt
        replace g2 := g2.below N_E6 g2.lt
        replace gd := gd.below N_E6 gd.lt
        replace sk := (sk.below N_E6).up N_E6.size
        replace sn := (sn.below N_E6).up N_E6.size
        have B_E6 := ex_trans B_E5 N_E6
        have X_E6 := ex_trans X_E5 N_E6
        clear N_E6
        generalize E5.alloc (.cells #[.int .i64 0, .int .i64 1, .int .i64 2, .int .i64 1] 3) = E6 at *
        obtain ⟨pnk, hpnk⟩ : ∃ p, E5.heap.size = p := ⟨_, rfl⟩
        rw [hpnk] at nk ⊢
        clear hpnk
        go_wp2_with fail
        refine ⟨inEx X_E6, ?_⟩
        repeat (refine tw_quiet rfl ?_; go_big_quiet_step (fail); refine wpQuiet_nil ?_)
        refine tw_loud rfl ?_
        go_wp2_with fail
        refine (ints_any Ak (some ⟨pnk, 0, none⟩) ck 4 [0, 1, 2, 1] [0, 1, 2, 1] E6 (by decide) sk (four_sl nk) (by decide)).mono ?_
        rintro e E7 ⟨rfl, hE7⟩
        replace g0 := g0.below hE7 g0.lt
        replace g1 := g1.below hE7 g1.lt
        replace g2 := g2.below hE7 g2.lt
        replace gd := gd.below hE7 gd.lt
        replace sk := (sk.below hE7).up hE7.size
        replace sn := (sn.below hE7).up hE7.size
        replace nk := nk.below hE7 nk.lt
        have B_E7 := ex_trans B_E6 hE7
        have X_E7 := ex_trans X_E6 hE7
        rw [show intsB [0, 1, 2, 1] [0, 1, 2, 1] = true from by decide]
        clear nk sk
        go_wp2_with fail
        refine ⟨inEx X_E7, ?_⟩
        repeat (refine tw_quiet rfl ?_; go_big_quiet_step (fail); refine wpQuiet_nil ?_)
        refine tw_loud rfl ?_
        go_wp2_with fail
        have N_E8 := ex_alloc (Below.refl E7.heap.size E7) (.cells #[.int .i64 0, .int .i64 (-1), .int .i64 (-1), .int .i64 1] 3)
        have nk : Blk (E7.alloc (.cells #[.int .i64 0, .int .i64 (-1), .int .i64 (-1), .int .i64 1] 3)) E7.heap.size 3 #[.int .i64 0, .int .i64 (-1), .int .i64 (-1), .int .i64 1] := Blk.new _ _ _
        replace g0 := g0.below N_E8 g0.lt
        replace g1 := g1.below N_E8 g1.lt
        replace g2 := g2.below N_E8 g2.lt
        replace gd := gd.below N_E8 gd.lt
        replace sn := (sn.below N_E8).up N_E8.size
        have B_E8 := ex_trans B_E7 N_E8
        have X_E8 := ex_trans X_E7 N_E8
        clear N_E8
        generalize E7.alloc (.cells #[.int .i64 0, .int .i64 (-1), .int .i64 (-1), .int .i64 1] 3) = E8 at *
        obtain ⟨pnk, hpnk⟩ : ∃ p, E7.heap.size = p := ⟨_, rfl⟩
        rw [hpnk] at nk ⊢
        clear hpnk
        go_wp2_with fail
        refine ⟨inEx X_E8, ?_⟩
        repeat (refine tw_quiet rfl ?_; go_big_quiet_step (fail); refine wpQuiet_nil ?_)
        refine tw_loud rfl ?_
        go_wp2_with fail
        refine (ints_any An (some ⟨pnk, 0, none⟩) cn 4 [0, -1, -1, 1] [0, -1, -1, 1] E8 (by decide) sn (four_sl nk) (by decide)).mono ?_
        rintro e E9 ⟨rfl, hE9⟩
        replace g0 := g0.below hE9 g0.lt
        replace g1 := g1.below hE9 g1.lt
        replace g2 := g2.below hE9 g2.lt
        replace gd := gd.below hE9 gd.lt
        replace sn := (sn.below hE9).up hE9.size
        replace nk := nk.below hE9 nk.lt
        have B_E9 := ex_trans B_E8 hE9
        have X_E9 := ex_trans X_E8 hE9
        rw [show intsB [0, -1, -1, 1] [0, -1, -1, 1] = true from by decide]
        clear nk sn
        go_wp2_with fail
        refine ⟨inEx X_E9, ?_⟩
        repeat (refine tw_quiet rfl ?_; go_big_quiet_step (fail); refine wpQuiet_nil ?_)
        refine tw_loud rfl ?_
        go_wp2_with fail
        refine (yard_law 2 E9).mono ?_
        rintro e E10 ⟨⟨vyz, rfl, Ayz, cyz, rfl, hyz⟩, hE10⟩
        replace g0 := g0.below hE10 g0.lt
        replace g1 := g1.below hE10 g1.lt
        replace g2 := g2.below hE10 g2.lt
        replace gd := gd.below hE10 gd.lt
        have B_E10 := ex_trans B_E9 hE10
        have X_E10 := ex_trans X_E9 hE10
        replace hyz := hyz.sl
        go_wp2_with fail
        refine ⟨inEx X_E10, ?_⟩
        repeat (refine tw_quiet rfl ?_; go_big_quiet_step (fail); refine wpQuiet_nil ?_)
        refine tw_loud rfl ?_
        go_wp2_with fail
        refine (provePlan_any (yardW 2) Ayz cyz good3 (some ⟨p3, 0, none⟩) 3 (fun k => some ⟨[p0, p1, p2].getD k 0, 0, none⟩) (fun _ => 2) E10 hyz (by decide) (good3_pl g0 g1 g2 gd) good3_sm 3).mono ?_
        rintro e E11 ⟨t, rfl, ht, hE11⟩
        obtain rfl : t = true := ht.out.2 ⟨y2ok, good3_right, by decide⟩
        clear ht hyz
        replace g0 := g0.below hE11 g0.lt
        replace g1 := g1.below hE11 g1.lt
        replace g2 := g2.below hE11 g2.lt
        replace gd := gd.below hE11 gd.lt
        have B_E11 := ex_trans B_E10 hE11
        have X_E11 := ex_trans X_E10 hE11
        clear g0
        go_wp2_with fail
        refine ⟨inEx X_E11, ?_⟩
        repeat (refine tw_quiet rfl ?_; go_big_quiet_step (fail); refine wpQuiet_nil ?_)
        refine tw_loud rfl ?_
        go_wp2_with fail
        refine (yard_law 2 E11).mono ?_
        rintro e E12 ⟨⟨vyz, rfl, Ayz, cyz, rfl, hyz⟩, hE12⟩
        replace g1 := g1.below hE12 g1.lt
        replace g2 := g2.below hE12 g2.lt
        replace gd := gd.below hE12 gd.lt
        have B_E12 := ex_trans B_E11 hE12
        have X_E12 := ex_trans X_E11 hE12
        replace hyz := hyz.sl
        go_wp2_with fail
        refine ⟨inEx X_E12, ?_⟩
        repeat (refine tw_quiet rfl ?_; go_big_quiet_step (fail); refine wpQuiet_nil ?_)
        refine tw_loud rfl ?_
        go_wp2_with fail
        refine (provePlan_any (yardW 2) Ayz cyz good2 (some ⟨p3, 2, none⟩) 2 (fun k => some ⟨[p1, p2].getD k 0, 0, none⟩) (fun _ => 2) E12 hyz (by decide) (good2_pl g1 g2 gd) good2_sm 3).mono ?_
        rintro e E13 ⟨t, rfl, ht, hE13⟩
        obtain rfl : t = false := by rw [← Bool.not_eq_true]; intro h; exact good2_not (ht.out.1 h).2.1
        clear ht hyz
        replace g1 := g1.below hE13 g1.lt
        replace g2 := g2.below hE13 g2.lt
        replace gd := gd.below hE13 gd.lt
        have B_E13 := ex_trans B_E12 hE13
        have X_E13 := ex_trans X_E12 hE13
        clear g1 g2 gd
        go_wp2_with fail
        refine ⟨inEx X_E13, ?_⟩
        repeat (refine tw_quiet rfl ?_; go_big_quiet_step (fail); refine wpQuiet_nil ?_)
        refine tw_fork3 rfl rfl rfl ?_ ?_ ?_
        · as_aux_lemma =>
            go_wp2_with fail
            refine (three_law [] none 0 E13 (by simp) (fun h => absurd h (by simp)) (fun x hx => by cases hx)).mono ?_
            rintro e E14 ⟨⟨vz, rfl, hvz⟩, hE14⟩
            have B_E14 := ex_trans B_E13 hE14
            have X_E14 := ex_trans X_E13 hE14
            obtain ⟨Aoz, Abz, coz, cbz, rAz, rcz, rfl, hsz⟩ := hvz.se
            clear hvz
            rw [show ([] : List Xb).map (·.1) = [] from rfl] at hsz ⊢
            go_wp2_with fail
            refine ⟨inEx X_E14, ?_⟩
            repeat (refine tw_quiet rfl ?_; go_big_quiet_step (fail); refine wpQuiet_nil ?_)
            refine tw_fork rfl rfl ?_ ?_
            · go_wp2_with fail
              have N_E15 := ex_alloc (Below.refl E14.heap.size E14) (.cells #[.int .i64 0, .int .i64 3, .int .i64 1] 3)
              have na : Blk (E14.alloc (.cells #[.int .i64 0, .int .i64 3, .int .i64 1] 3)) E14.heap.size 3 #[.int .i64 0, .int .i64 3, .int .i64 1] := Blk.new _ _ _
              replace hsz := hsz.go N_E15
              have B_E15 := ex_trans B_E14 N_E15
              have X_E15 := ex_trans X_E14 N_E15
              clear N_E15
              generalize E14.alloc (.cells #[.int .i64 0, .int .i64 3, .int .i64 1] 3) = E15 at *
              obtain ⟨pna, hpna⟩ : ∃ p, E14.heap.size = p := ⟨_, rfl⟩
              rw [hpna] at na ⊢
              clear hpna
              go_wp2_with fail
              refine ⟨inEx X_E15, ?_⟩
              repeat (refine tw_quiet rfl ?_; go_big_quiet_step (fail); refine wpQuiet_nil ?_)
              refine tw_loud rfl ?_
              go_wp2_with fail
              have N_E16 := ex_alloc (Below.refl E15.heap.size E15) (.cells #[.int .i64 200, .int .i64 249] 3)
              have nb : Blk (E15.alloc (.cells #[.int .i64 200, .int .i64 249] 3)) E15.heap.size 3 #[.int .i64 200, .int .i64 249] := Blk.new _ _ _
              replace hsz := hsz.go N_E16
              replace na := na.below N_E16 na.lt
              have B_E16 := ex_trans B_E15 N_E16
              have X_E16 := ex_trans X_E15 N_E16
              clear N_E16
              generalize E15.alloc (.cells #[.int .i64 200, .int .i64 249] 3) = E16 at *
              obtain ⟨pnb, hpnb⟩ : ∃ p, E15.heap.size = p := ⟨_, rfl⟩
              rw [hpnb] at nb ⊢
              clear hpnb
              go_wp2_with fail
              refine ⟨inEx X_E16, ?_⟩
              repeat (refine tw_quiet rfl ?_; go_big_quiet_step (fail); refine wpQuiet_nil ?_)
              refine tw_loud rfl ?_
              go_wp2_with fail
              refine (proveTruth_any (thrS []) Aoz Abz coz cbz rAz rcz E16 hsz (by decide) (by decide) thr_reads (some ⟨pna, 0, none⟩) (some ⟨pnb, 0, none⟩) 3 2 [0, 3, 1] [200, 249] (tri_sl na) (pair_sl nb)).mono ?_
              rintro e E17 ⟨rfl, hE17⟩
              replace hsz := hsz.go hE17
              replace na := na.below hE17 na.lt
              replace nb := nb.below hE17 nb.lt
              have B_E17 := ex_trans B_E16 hE17
              have X_E17 := ex_trans X_E16 hE17
              rw [thr_yes]
              clear hsz na nb
              go_wp2_with fail
              refine ⟨inEx X_E17, ?_⟩
              repeat (refine tw_quiet rfl ?_; go_big_quiet_step (fail); refine wpQuiet_nil ?_)
              refine tw_done ?_
              refine hshare _ _ ⟨⟨X_E17, exFrame (by kernel_rfl)⟩⟩
            · go_wp2_with fail
              have N_E18 := ex_alloc (Below.refl E14.heap.size E14) (.cells #[.int .i64 200, .int .i64 249] 3)
              have nb : Blk (E14.alloc (.cells #[.int .i64 200, .int .i64 249] 3)) E14.heap.size 3 #[.int .i64 200, .int .i64 249] := Blk.new _ _ _
              replace hsz := hsz.go N_E18
              have B_E18 := ex_trans B_E14 N_E18
              have X_E18 := ex_trans X_E14 N_E18
              clear N_E18
              generalize E14.alloc (.cells #[.int .i64 200, .int .i64 249] 3) = E18 at *
              obtain ⟨pnb, hpnb⟩ : ∃ p, E14.heap.size = p := ⟨_, rfl⟩
              rw [hpnb] at nb ⊢
              clear hpnb
              go_wp2_with fail
              refine ⟨inEx X_E18, ?_⟩
              repeat (refine tw_quiet rfl ?_; go_big_quiet_step (fail); refine wpQuiet_nil ?_)
              refine tw_loud rfl ?_
              go_wp2_with fail
              have N_E19 := ex_alloc (Below.refl E18.heap.size E18) (.cells #[.int .i64 0, .int .i64 3, .int .i64 1] 3)
              have na : Blk (E18.alloc (.cells #[.int .i64 0, .int .i64 3, .int .i64 1] 3)) E18.heap.size 3 #[.int .i64 0, .int .i64 3, .int .i64 1] := Blk.new _ _ _
              replace hsz := hsz.go N_E19
              replace nb := nb.below N_E19 nb.lt
              have B_E19 := ex_trans B_E18 N_E19
              have X_E19 := ex_trans X_E18 N_E19
              clear N_E19
              generalize E18.alloc (.cells #[.int .i64 0, .int .i64 3, .int .i64 1] 3) = E19 at *
              obtain ⟨pna, hpna⟩ : ∃ p, E18.heap.size = p := ⟨_, rfl⟩
              rw [hpna] at na ⊢
              clear hpna
              go_wp2_with fail
              refine ⟨inEx X_E19, ?_⟩
              repeat (refine tw_quiet rfl ?_; go_big_quiet_step (fail); refine wpQuiet_nil ?_)
              refine tw_loud rfl ?_
              go_wp2_with fail
              refine (proveTruth_any (thrS []) Aoz Abz coz cbz rAz rcz E19 hsz (by decide) (by decide) thr_reads (some ⟨pna, 0, none⟩) (some ⟨pnb, 0, none⟩) 3 2 [0, 3, 1] [200, 249] (tri_sl na) (pair_sl nb)).mono ?_
              rintro e E20 ⟨rfl, hE20⟩
              replace hsz := hsz.go hE20
              replace nb := nb.below hE20 nb.lt
              replace na := na.below hE20 na.lt
              have B_E20 := ex_trans B_E19 hE20
              have X_E20 := ex_trans X_E19 hE20
              rw [thr_yes]
              clear hsz na nb
              go_wp2_with fail
              refine ⟨inEx X_E20, ?_⟩
              repeat (refine tw_quiet rfl ?_; go_big_quiet_step (fail); refine wpQuiet_nil ?_)
              refine tw_done ?_
              refine hshare _ _ ⟨⟨X_E20, exFrame (by kernel_rfl)⟩⟩
        · as_aux_lemma =>
            go_wp2_with fail
            have N_E21 := ex_alloc (Below.refl E13.heap.size E13) (.cells #[.int .i64 0, .int .i64 3, .int .i64 1] 3)
            have na : Blk (E13.alloc (.cells #[.int .i64 0, .int .i64 3, .int .i64 1] 3)) E13.heap.size 3 #[.int .i64 0, .int .i64 3, .int .i64 1] := Blk.new _ _ _
            have B_E21 := ex_trans B_E13 N_E21
            have X_E21 := ex_trans X_E13 N_E21
            clear N_E21
            generalize E13.alloc (.cells #[.int .i64 0, .int .i64 3, .int .i64 1] 3) = E21 at *
            obtain ⟨pna, hpna⟩ : ∃ p, E13.heap.size = p := ⟨_, rfl⟩
            rw [hpna] at na ⊢
            clear hpna
            go_wp2_with fail
            refine ⟨inEx X_E21, ?_⟩
            repeat (refine tw_quiet rfl ?_; go_big_quiet_step (fail); refine wpQuiet_nil ?_)
            refine tw_fork rfl rfl ?_ ?_
            · go_wp2_with fail
              refine (three_law [] none 0 E21 (by simp) (fun h => absurd h (by simp)) (fun x hx => by cases hx)).mono ?_
              rintro e E22 ⟨⟨vz, rfl, hvz⟩, hE22⟩
              replace na := na.below hE22 na.lt
              have B_E22 := ex_trans B_E21 hE22
              have X_E22 := ex_trans X_E21 hE22
              obtain ⟨Aoz, Abz, coz, cbz, rAz, rcz, rfl, hsz⟩ := hvz.se
              clear hvz
              rw [show ([] : List Xb).map (·.1) = [] from rfl] at hsz ⊢
              go_wp2_with fail
              refine ⟨inEx X_E22, ?_⟩
              repeat (refine tw_quiet rfl ?_; go_big_quiet_step (fail); refine wpQuiet_nil ?_)
              refine tw_loud rfl ?_
              go_wp2_with fail
              have N_E23 := ex_alloc (Below.refl E22.heap.size E22) (.cells #[.int .i64 200, .int .i64 249] 3)
              have nb : Blk (E22.alloc (.cells #[.int .i64 200, .int .i64 249] 3)) E22.heap.size 3 #[.int .i64 200, .int .i64 249] := Blk.new _ _ _
              replace na := na.below N_E23 na.lt
              replace hsz := hsz.go N_E23
              have B_E23 := ex_trans B_E22 N_E23
              have X_E23 := ex_trans X_E22 N_E23
              clear N_E23
              generalize E22.alloc (.cells #[.int .i64 200, .int .i64 249] 3) = E23 at *
              obtain ⟨pnb, hpnb⟩ : ∃ p, E22.heap.size = p := ⟨_, rfl⟩
              rw [hpnb] at nb ⊢
              clear hpnb
              go_wp2_with fail
              refine ⟨inEx X_E23, ?_⟩
              repeat (refine tw_quiet rfl ?_; go_big_quiet_step (fail); refine wpQuiet_nil ?_)
              refine tw_loud rfl ?_
              go_wp2_with fail
              refine (proveTruth_any (thrS []) Aoz Abz coz cbz rAz rcz E23 hsz (by decide) (by decide) thr_reads (some ⟨pna, 0, none⟩) (some ⟨pnb, 0, none⟩) 3 2 [0, 3, 1] [200, 249] (tri_sl na) (pair_sl nb)).mono ?_
              rintro e E24 ⟨rfl, hE24⟩
              replace na := na.below hE24 na.lt
              replace hsz := hsz.go hE24
              replace nb := nb.below hE24 nb.lt
              have B_E24 := ex_trans B_E23 hE24
              have X_E24 := ex_trans X_E23 hE24
              rw [thr_yes]
              clear hsz na nb
              go_wp2_with fail
              refine ⟨inEx X_E24, ?_⟩
              repeat (refine tw_quiet rfl ?_; go_big_quiet_step (fail); refine wpQuiet_nil ?_)
              refine tw_done ?_
              refine hshare _ _ ⟨⟨X_E24, exFrame (by kernel_rfl)⟩⟩
            · go_wp2_with fail
              have N_E25 := ex_alloc (Below.refl E21.heap.size E21) (.cells #[.int .i64 200, .int .i64 249] 3)
              have nb : Blk (E21.alloc (.cells #[.int .i64 200, .int .i64 249] 3)) E21.heap.size 3 #[.int .i64 200, .int .i64 249] := Blk.new _ _ _
              replace na := na.below N_E25 na.lt
              have B_E25 := ex_trans B_E21 N_E25
              have X_E25 := ex_trans X_E21 N_E25
              clear N_E25
              generalize E21.alloc (.cells #[.int .i64 200, .int .i64 249] 3) = E25 at *
              obtain ⟨pnb, hpnb⟩ : ∃ p, E21.heap.size = p := ⟨_, rfl⟩
              rw [hpnb] at nb ⊢
              clear hpnb
              go_wp2_with fail
              refine ⟨inEx X_E25, ?_⟩
              repeat (refine tw_quiet rfl ?_; go_big_quiet_step (fail); refine wpQuiet_nil ?_)
              refine tw_loud rfl ?_
              go_wp2_with fail
              refine (three_law [] none 0 E25 (by simp) (fun h => absurd h (by simp)) (fun x hx => by cases hx)).mono ?_
              rintro e E26 ⟨⟨vz, rfl, hvz⟩, hE26⟩
              replace na := na.below hE26 na.lt
              replace nb := nb.below hE26 nb.lt
              have B_E26 := ex_trans B_E25 hE26
              have X_E26 := ex_trans X_E25 hE26
              obtain ⟨Aoz, Abz, coz, cbz, rAz, rcz, rfl, hsz⟩ := hvz.se
              clear hvz
              rw [show ([] : List Xb).map (·.1) = [] from rfl] at hsz ⊢
              go_wp2_with fail
              refine ⟨inEx X_E26, ?_⟩
              repeat (refine tw_quiet rfl ?_; go_big_quiet_step (fail); refine wpQuiet_nil ?_)
              refine tw_loud rfl ?_
              go_wp2_with fail
              refine (proveTruth_any (thrS []) Aoz Abz coz cbz rAz rcz E26 hsz (by decide) (by decide) thr_reads (some ⟨pna, 0, none⟩) (some ⟨pnb, 0, none⟩) 3 2 [0, 3, 1] [200, 249] (tri_sl na) (pair_sl nb)).mono ?_
              rintro e E27 ⟨rfl, hE27⟩
              replace na := na.below hE27 na.lt
              replace nb := nb.below hE27 nb.lt
              replace hsz := hsz.go hE27
              have B_E27 := ex_trans B_E26 hE27
              have X_E27 := ex_trans X_E26 hE27
              rw [thr_yes]
              clear hsz na nb
              go_wp2_with fail
              refine ⟨inEx X_E27, ?_⟩
              repeat (refine tw_quiet rfl ?_; go_big_quiet_step (fail); refine wpQuiet_nil ?_)
              refine tw_done ?_
              refine hshare _ _ ⟨⟨X_E27, exFrame (by kernel_rfl)⟩⟩
        · as_aux_lemma =>
            go_wp2_with fail
            have N_E28 := ex_alloc (Below.refl E13.heap.size E13) (.cells #[.int .i64 200, .int .i64 249] 3)
            have nb : Blk (E13.alloc (.cells #[.int .i64 200, .int .i64 249] 3)) E13.heap.size 3 #[.int .i64 200, .int .i64 249] := Blk.new _ _ _
            have B_E28 := ex_trans B_E13 N_E28
            have X_E28 := ex_trans X_E13 N_E28
            clear N_E28
            generalize E13.alloc (.cells #[.int .i64 200, .int .i64 249] 3) = E28 at *
            obtain ⟨pnb, hpnb⟩ : ∃ p, E13.heap.size = p := ⟨_, rfl⟩
            rw [hpnb] at nb ⊢
            clear hpnb
            go_wp2_with fail
            refine ⟨inEx X_E28, ?_⟩
            repeat (refine tw_quiet rfl ?_; go_big_quiet_step (fail); refine wpQuiet_nil ?_)
            refine tw_fork rfl rfl ?_ ?_
            · go_wp2_with fail
              refine (three_law [] none 0 E28 (by simp) (fun h => absurd h (by simp)) (fun x hx => by cases hx)).mono ?_
              rintro e E29 ⟨⟨vz, rfl, hvz⟩, hE29⟩
              replace nb := nb.below hE29 nb.lt
              have B_E29 := ex_trans B_E28 hE29
              have X_E29 := ex_trans X_E28 hE29
              obtain ⟨Aoz, Abz, coz, cbz, rAz, rcz, rfl, hsz⟩ := hvz.se
              clear hvz
              rw [show ([] : List Xb).map (·.1) = [] from rfl] at hsz ⊢
              go_wp2_with fail
              refine ⟨inEx X_E29, ?_⟩
              repeat (refine tw_quiet rfl ?_; go_big_quiet_step (fail); refine wpQuiet_nil ?_)
              refine tw_loud rfl ?_
              go_wp2_with fail
              have N_E30 := ex_alloc (Below.refl E29.heap.size E29) (.cells #[.int .i64 0, .int .i64 3, .int .i64 1] 3)
              have na : Blk (E29.alloc (.cells #[.int .i64 0, .int .i64 3, .int .i64 1] 3)) E29.heap.size 3 #[.int .i64 0, .int .i64 3, .int .i64 1] := Blk.new _ _ _
              replace nb := nb.below N_E30 nb.lt
              replace hsz := hsz.go N_E30
              have B_E30 := ex_trans B_E29 N_E30
              have X_E30 := ex_trans X_E29 N_E30
              clear N_E30
              generalize E29.alloc (.cells #[.int .i64 0, .int .i64 3, .int .i64 1] 3) = E30 at *
              obtain ⟨pna, hpna⟩ : ∃ p, E29.heap.size = p := ⟨_, rfl⟩
              rw [hpna] at na ⊢
              clear hpna
              go_wp2_with fail
              refine ⟨inEx X_E30, ?_⟩
              repeat (refine tw_quiet rfl ?_; go_big_quiet_step (fail); refine wpQuiet_nil ?_)
              refine tw_loud rfl ?_
              go_wp2_with fail
              refine (proveTruth_any (thrS []) Aoz Abz coz cbz rAz rcz E30 hsz (by decide) (by decide) thr_reads (some ⟨pna, 0, none⟩) (some ⟨pnb, 0, none⟩) 3 2 [0, 3, 1] [200, 249] (tri_sl na) (pair_sl nb)).mono ?_
              rintro e E31 ⟨rfl, hE31⟩
              replace nb := nb.below hE31 nb.lt
              replace hsz := hsz.go hE31
              replace na := na.below hE31 na.lt
              have B_E31 := ex_trans B_E30 hE31
              have X_E31 := ex_trans X_E30 hE31
              rw [thr_yes]
              clear hsz na nb
              go_wp2_with fail
              refine ⟨inEx X_E31, ?_⟩
              repeat (refine tw_quiet rfl ?_; go_big_quiet_step (fail); refine wpQuiet_nil ?_)
              refine tw_done ?_
              refine hshare _ _ ⟨⟨X_E31, exFrame (by kernel_rfl)⟩⟩
            · go_wp2_with fail
              have N_E32 := ex_alloc (Below.refl E28.heap.size E28) (.cells #[.int .i64 0, .int .i64 3, .int .i64 1] 3)
              have na : Blk (E28.alloc (.cells #[.int .i64 0, .int .i64 3, .int .i64 1] 3)) E28.heap.size 3 #[.int .i64 0, .int .i64 3, .int .i64 1] := Blk.new _ _ _
              replace nb := nb.below N_E32 nb.lt
              have B_E32 := ex_trans B_E28 N_E32
              have X_E32 := ex_trans X_E28 N_E32
              clear N_E32
              generalize E28.alloc (.cells #[.int .i64 0, .int .i64 3, .int .i64 1] 3) = E32 at *
              obtain ⟨pna, hpna⟩ : ∃ p, E28.heap.size = p := ⟨_, rfl⟩
              rw [hpna] at na ⊢
              clear hpna
              go_wp2_with fail
              refine ⟨inEx X_E32, ?_⟩
              repeat (refine tw_quiet rfl ?_; go_big_quiet_step (fail); refine wpQuiet_nil ?_)
              refine tw_loud rfl ?_
              go_wp2_with fail
              refine (three_law [] none 0 E32 (by simp) (fun h => absurd h (by simp)) (fun x hx => by cases hx)).mono ?_
              rintro e E33 ⟨⟨vz, rfl, hvz⟩, hE33⟩
              replace nb := nb.below hE33 nb.lt
              replace na := na.below hE33 na.lt
              have B_E33 := ex_trans B_E32 hE33
              have X_E33 := ex_trans X_E32 hE33
              obtain ⟨Aoz, Abz, coz, cbz, rAz, rcz, rfl, hsz⟩ := hvz.se
              clear hvz
              rw [show ([] : List Xb).map (·.1) = [] from rfl] at hsz ⊢
              go_wp2_with fail
              refine ⟨inEx X_E33, ?_⟩
              repeat (refine tw_quiet rfl ?_; go_big_quiet_step (fail); refine wpQuiet_nil ?_)
              refine tw_loud rfl ?_
              go_wp2_with fail
              refine (proveTruth_any (thrS []) Aoz Abz coz cbz rAz rcz E33 hsz (by decide) (by decide) thr_reads (some ⟨pna, 0, none⟩) (some ⟨pnb, 0, none⟩) 3 2 [0, 3, 1] [200, 249] (tri_sl na) (pair_sl nb)).mono ?_
              rintro e E34 ⟨rfl, hE34⟩
              replace nb := nb.below hE34 nb.lt
              replace na := na.below hE34 na.lt
              replace hsz := hsz.go hE34
              have B_E34 := ex_trans B_E33 hE34
              have X_E34 := ex_trans X_E33 hE34
              rw [thr_yes]
              clear hsz na nb
              go_wp2_with fail
              refine ⟨inEx X_E34, ?_⟩
              repeat (refine tw_quiet rfl ?_; go_big_quiet_step (fail); refine wpQuiet_nil ?_)
              refine tw_done ?_
              refine hshare _ _ ⟨⟨X_E34, exFrame (by kernel_rfl)⟩⟩
      rintro a' S0 ⟨⟨X_S0, u, rfl⟩⟩
      have B_S0 := ex_trans B_V8 X_S0
      refine tq_fork3 rfl rfl rfl ?_ ?_ ?_
      · as_aux_lemma =>
          go_wp2_with fail
          refine (three_law [] none 0 S0 (by simp) (fun h => absurd h (by simp)) (fun x hx => by cases hx)).mono ?_
          rintro e E35 ⟨⟨vz, rfl, hvz⟩, hE35⟩
          have B_E35 := ex_trans B_S0 hE35
          have X_E35 := ex_trans X_S0 hE35
          obtain ⟨Aoz, Abz, coz, cbz, rAz, rcz, rfl, hsz⟩ := hvz.se
          clear hvz
          rw [show ([] : List Xb).map (·.1) = [] from rfl] at hsz ⊢
          go_wp2_with fail
          refine ⟨inEx X_E35, ?_⟩
          repeat (refine tq_quiet rfl ?_; go_big_quiet_step (fail); refine wpQuiet_nil ?_)
          refine tq_fork rfl rfl ?_ ?_
          · go_wp2_with fail
            have N_E36 := ex_alloc (Below.refl E35.heap.size E35) (.cells #[.int .i64 0, .int .i64 3, .int .i64 3] 3)
            have na : Blk (E35.alloc (.cells #[.int .i64 0, .int .i64 3, .int .i64 3] 3)) E35.heap.size 3 #[.int .i64 0, .int .i64 3, .int .i64 3] := Blk.new _ _ _
            replace hsz := hsz.go N_E36
            have B_E36 := ex_trans B_E35 N_E36
            have X_E36 := ex_trans X_E35 N_E36
            clear N_E36
            generalize E35.alloc (.cells #[.int .i64 0, .int .i64 3, .int .i64 3] 3) = E36 at *
            obtain ⟨pna, hpna⟩ : ∃ p, E35.heap.size = p := ⟨_, rfl⟩
            rw [hpna] at na ⊢
            clear hpna
            go_wp2_with fail
            refine ⟨inEx X_E36, ?_⟩
            repeat (refine tq_quiet rfl ?_; go_big_quiet_step (fail); refine wpQuiet_nil ?_)
            refine tq_loud rfl ?_
            go_wp2_with fail
            have N_E37 := ex_alloc (Below.refl E36.heap.size E36) (.cells #[.int .i64 200, .int .i64 250] 3)
            have nb : Blk (E36.alloc (.cells #[.int .i64 200, .int .i64 250] 3)) E36.heap.size 3 #[.int .i64 200, .int .i64 250] := Blk.new _ _ _
            replace hsz := hsz.go N_E37
            replace na := na.below N_E37 na.lt
            have B_E37 := ex_trans B_E36 N_E37
            have X_E37 := ex_trans X_E36 N_E37
            clear N_E37
            generalize E36.alloc (.cells #[.int .i64 200, .int .i64 250] 3) = E37 at *
            obtain ⟨pnb, hpnb⟩ : ∃ p, E36.heap.size = p := ⟨_, rfl⟩
            rw [hpnb] at nb ⊢
            clear hpnb
            go_wp2_with fail
            refine ⟨inEx X_E37, ?_⟩
            repeat (refine tq_quiet rfl ?_; go_big_quiet_step (fail); refine wpQuiet_nil ?_)
            refine tq_loud rfl ?_
            go_wp2_with fail
            refine (proveTruth_any (thrS []) Aoz Abz coz cbz rAz rcz E37 hsz (by decide) (by decide) thr_reads (some ⟨pna, 0, none⟩) (some ⟨pnb, 0, none⟩) 3 2 [0, 3, 3] [200, 250] (tri_sl na) (pair_sl nb)).mono ?_
            rintro e E38 ⟨rfl, hE38⟩
            replace hsz := hsz.go hE38
            replace na := na.below hE38 na.lt
            replace nb := nb.below hE38 nb.lt
            have B_E38 := ex_trans B_E37 hE38
            have X_E38 := ex_trans X_E37 hE38
            rw [thr_no]
            clear hsz na nb
            go_wp2_with fail
            refine ⟨inEx X_E38, ?_⟩
            repeat (refine tq_quiet rfl ?_; go_big_quiet_step (fail); refine wpQuiet_nil ?_)
            refine tq_done (r := [_]) rfl ?_
            go_wp2_with fail
            refine Met.intro (hJ _ _ ⟨⟨X_E38, exFrame (by kernel_rfl)⟩⟩)
          · go_wp2_with fail
            have N_E39 := ex_alloc (Below.refl E35.heap.size E35) (.cells #[.int .i64 200, .int .i64 250] 3)
            have nb : Blk (E35.alloc (.cells #[.int .i64 200, .int .i64 250] 3)) E35.heap.size 3 #[.int .i64 200, .int .i64 250] := Blk.new _ _ _
            replace hsz := hsz.go N_E39
            have B_E39 := ex_trans B_E35 N_E39
            have X_E39 := ex_trans X_E35 N_E39
            clear N_E39
            generalize E35.alloc (.cells #[.int .i64 200, .int .i64 250] 3) = E39 at *
            obtain ⟨pnb, hpnb⟩ : ∃ p, E35.heap.size = p := ⟨_, rfl⟩
            rw [hpnb] at nb ⊢
            clear hpnb
            go_wp2_with fail
            refine ⟨inEx X_E39, ?_⟩
            repeat (refine tq_quiet rfl ?_; go_big_quiet_step (fail); refine wpQuiet_nil ?_)
            refine tq_loud rfl ?_
            go_wp2_with fail
            have N_E40 := ex_alloc (Below.refl E39.heap.size E39) (.cells #[.int .i64 0, .int .i64 3, .int .i64 3] 3)
            have na : Blk (E39.alloc (.cells #[.int .i64 0, .int .i64 3, .int .i64 3] 3)) E39.heap.size 3 #[.int .i64 0, .int .i64 3, .int .i64 3] := Blk.new _ _ _
            replace hsz := hsz.go N_E40
            replace nb := nb.below N_E40 nb.lt
            have B_E40 := ex_trans B_E39 N_E40
            have X_E40 := ex_trans X_E39 N_E40
            clear N_E40
            generalize E39.alloc (.cells #[.int .i64 0, .int .i64 3, .int .i64 3] 3) = E40 at *
            obtain ⟨pna, hpna⟩ : ∃ p, E39.heap.size = p := ⟨_, rfl⟩
            rw [hpna] at na ⊢
            clear hpna
            go_wp2_with fail
            refine ⟨inEx X_E40, ?_⟩
            repeat (refine tq_quiet rfl ?_; go_big_quiet_step (fail); refine wpQuiet_nil ?_)
            refine tq_loud rfl ?_
            go_wp2_with fail
            refine (proveTruth_any (thrS []) Aoz Abz coz cbz rAz rcz E40 hsz (by decide) (by decide) thr_reads (some ⟨pna, 0, none⟩) (some ⟨pnb, 0, none⟩) 3 2 [0, 3, 3] [200, 250] (tri_sl na) (pair_sl nb)).mono ?_
            rintro e E41 ⟨rfl, hE41⟩
            replace hsz := hsz.go hE41
            replace nb := nb.below hE41 nb.lt
            replace na := na.below hE41 na.lt
            have B_E41 := ex_trans B_E40 hE41
            have X_E41 := ex_trans X_E40 hE41
            rw [thr_no]
            clear hsz na nb
            go_wp2_with fail
            refine ⟨inEx X_E41, ?_⟩
            repeat (refine tq_quiet rfl ?_; go_big_quiet_step (fail); refine wpQuiet_nil ?_)
            refine tq_done (r := [_]) rfl ?_
            go_wp2_with fail
            refine Met.intro (hJ _ _ ⟨⟨X_E41, exFrame (by kernel_rfl)⟩⟩)
      · as_aux_lemma =>
          go_wp2_with fail
          have N_E42 := ex_alloc (Below.refl S0.heap.size S0) (.cells #[.int .i64 0, .int .i64 3, .int .i64 3] 3)
          have na : Blk (S0.alloc (.cells #[.int .i64 0, .int .i64 3, .int .i64 3] 3)) S0.heap.size 3 #[.int .i64 0, .int .i64 3, .int .i64 3] := Blk.new _ _ _
          have B_E42 := ex_trans B_S0 N_E42
          have X_E42 := ex_trans X_S0 N_E42
          clear N_E42
          generalize S0.alloc (.cells #[.int .i64 0, .int .i64 3, .int .i64 3] 3) = E42 at *
          obtain ⟨pna, hpna⟩ : ∃ p, S0.heap.size = p := ⟨_, rfl⟩
          rw [hpna] at na ⊢
          clear hpna
          go_wp2_with fail
          refine ⟨inEx X_E42, ?_⟩
          repeat (refine tq_quiet rfl ?_; go_big_quiet_step (fail); refine wpQuiet_nil ?_)
          refine tq_fork rfl rfl ?_ ?_
          · go_wp2_with fail
            refine (three_law [] none 0 E42 (by simp) (fun h => absurd h (by simp)) (fun x hx => by cases hx)).mono ?_
            rintro e E43 ⟨⟨vz, rfl, hvz⟩, hE43⟩
            replace na := na.below hE43 na.lt
            have B_E43 := ex_trans B_E42 hE43
            have X_E43 := ex_trans X_E42 hE43
            obtain ⟨Aoz, Abz, coz, cbz, rAz, rcz, rfl, hsz⟩ := hvz.se
            clear hvz
            rw [show ([] : List Xb).map (·.1) = [] from rfl] at hsz ⊢
            go_wp2_with fail
            refine ⟨inEx X_E43, ?_⟩
            repeat (refine tq_quiet rfl ?_; go_big_quiet_step (fail); refine wpQuiet_nil ?_)
            refine tq_loud rfl ?_
            go_wp2_with fail
            have N_E44 := ex_alloc (Below.refl E43.heap.size E43) (.cells #[.int .i64 200, .int .i64 250] 3)
            have nb : Blk (E43.alloc (.cells #[.int .i64 200, .int .i64 250] 3)) E43.heap.size 3 #[.int .i64 200, .int .i64 250] := Blk.new _ _ _
            replace na := na.below N_E44 na.lt
            replace hsz := hsz.go N_E44
            have B_E44 := ex_trans B_E43 N_E44
            have X_E44 := ex_trans X_E43 N_E44
            clear N_E44
            generalize E43.alloc (.cells #[.int .i64 200, .int .i64 250] 3) = E44 at *
            obtain ⟨pnb, hpnb⟩ : ∃ p, E43.heap.size = p := ⟨_, rfl⟩
            rw [hpnb] at nb ⊢
            clear hpnb
            go_wp2_with fail
            refine ⟨inEx X_E44, ?_⟩
            repeat (refine tq_quiet rfl ?_; go_big_quiet_step (fail); refine wpQuiet_nil ?_)
            refine tq_loud rfl ?_
            go_wp2_with fail
            refine (proveTruth_any (thrS []) Aoz Abz coz cbz rAz rcz E44 hsz (by decide) (by decide) thr_reads (some ⟨pna, 0, none⟩) (some ⟨pnb, 0, none⟩) 3 2 [0, 3, 3] [200, 250] (tri_sl na) (pair_sl nb)).mono ?_
            rintro e E45 ⟨rfl, hE45⟩
            replace na := na.below hE45 na.lt
            replace hsz := hsz.go hE45
            replace nb := nb.below hE45 nb.lt
            have B_E45 := ex_trans B_E44 hE45
            have X_E45 := ex_trans X_E44 hE45
            rw [thr_no]
            clear hsz na nb
            go_wp2_with fail
            refine ⟨inEx X_E45, ?_⟩
            repeat (refine tq_quiet rfl ?_; go_big_quiet_step (fail); refine wpQuiet_nil ?_)
            refine tq_done (r := [_]) rfl ?_
            go_wp2_with fail
            refine Met.intro (hJ _ _ ⟨⟨X_E45, exFrame (by kernel_rfl)⟩⟩)
          · go_wp2_with fail
            have N_E46 := ex_alloc (Below.refl E42.heap.size E42) (.cells #[.int .i64 200, .int .i64 250] 3)
            have nb : Blk (E42.alloc (.cells #[.int .i64 200, .int .i64 250] 3)) E42.heap.size 3 #[.int .i64 200, .int .i64 250] := Blk.new _ _ _
            replace na := na.below N_E46 na.lt
            have B_E46 := ex_trans B_E42 N_E46
            have X_E46 := ex_trans X_E42 N_E46
            clear N_E46
            generalize E42.alloc (.cells #[.int .i64 200, .int .i64 250] 3) = E46 at *
            obtain ⟨pnb, hpnb⟩ : ∃ p, E42.heap.size = p := ⟨_, rfl⟩
            rw [hpnb] at nb ⊢
            clear hpnb
            go_wp2_with fail
            refine ⟨inEx X_E46, ?_⟩
            repeat (refine tq_quiet rfl ?_; go_big_quiet_step (fail); refine wpQuiet_nil ?_)
            refine tq_loud rfl ?_
            go_wp2_with fail
            refine (three_law [] none 0 E46 (by simp) (fun h => absurd h (by simp)) (fun x hx => by cases hx)).mono ?_
            rintro e E47 ⟨⟨vz, rfl, hvz⟩, hE47⟩
            replace na := na.below hE47 na.lt
            replace nb := nb.below hE47 nb.lt
            have B_E47 := ex_trans B_E46 hE47
            have X_E47 := ex_trans X_E46 hE47
            obtain ⟨Aoz, Abz, coz, cbz, rAz, rcz, rfl, hsz⟩ := hvz.se
            clear hvz
            rw [show ([] : List Xb).map (·.1) = [] from rfl] at hsz ⊢
            go_wp2_with fail
            refine ⟨inEx X_E47, ?_⟩
            repeat (refine tq_quiet rfl ?_; go_big_quiet_step (fail); refine wpQuiet_nil ?_)
            refine tq_loud rfl ?_
            go_wp2_with fail
            refine (proveTruth_any (thrS []) Aoz Abz coz cbz rAz rcz E47 hsz (by decide) (by decide) thr_reads (some ⟨pna, 0, none⟩) (some ⟨pnb, 0, none⟩) 3 2 [0, 3, 3] [200, 250] (tri_sl na) (pair_sl nb)).mono ?_
            rintro e E48 ⟨rfl, hE48⟩
            replace na := na.below hE48 na.lt
            replace nb := nb.below hE48 nb.lt
            replace hsz := hsz.go hE48
            have B_E48 := ex_trans B_E47 hE48
            have X_E48 := ex_trans X_E47 hE48
            rw [thr_no]
            clear hsz na nb
            go_wp2_with fail
            refine ⟨inEx X_E48, ?_⟩
            repeat (refine tq_quiet rfl ?_; go_big_quiet_step (fail); refine wpQuiet_nil ?_)
            refine tq_done (r := [_]) rfl ?_
            go_wp2_with fail
            refine Met.intro (hJ _ _ ⟨⟨X_E48, exFrame (by kernel_rfl)⟩⟩)
      · as_aux_lemma =>
          go_wp2_with fail
          have N_E49 := ex_alloc (Below.refl S0.heap.size S0) (.cells #[.int .i64 200, .int .i64 250] 3)
          have nb : Blk (S0.alloc (.cells #[.int .i64 200, .int .i64 250] 3)) S0.heap.size 3 #[.int .i64 200, .int .i64 250] := Blk.new _ _ _
          have B_E49 := ex_trans B_S0 N_E49
          have X_E49 := ex_trans X_S0 N_E49
          clear N_E49
          generalize S0.alloc (.cells #[.int .i64 200, .int .i64 250] 3) = E49 at *
          obtain ⟨pnb, hpnb⟩ : ∃ p, S0.heap.size = p := ⟨_, rfl⟩
          rw [hpnb] at nb ⊢
          clear hpnb
          go_wp2_with fail
          refine ⟨inEx X_E49, ?_⟩
          repeat (refine tq_quiet rfl ?_; go_big_quiet_step (fail); refine wpQuiet_nil ?_)
          refine tq_fork rfl rfl ?_ ?_
          · go_wp2_with fail
            refine (three_law [] none 0 E49 (by simp) (fun h => absurd h (by simp)) (fun x hx => by cases hx)).mono ?_
            rintro e E50 ⟨⟨vz, rfl, hvz⟩, hE50⟩
            replace nb := nb.below hE50 nb.lt
            have B_E50 := ex_trans B_E49 hE50
            have X_E50 := ex_trans X_E49 hE50
            obtain ⟨Aoz, Abz, coz, cbz, rAz, rcz, rfl, hsz⟩ := hvz.se
            clear hvz
            rw [show ([] : List Xb).map (·.1) = [] from rfl] at hsz ⊢
            go_wp2_with fail
            refine ⟨inEx X_E50, ?_⟩
            repeat (refine tq_quiet rfl ?_; go_big_quiet_step (fail); refine wpQuiet_nil ?_)
            refine tq_loud rfl ?_
            go_wp2_with fail
            have N_E51 := ex_alloc (Below.refl E50.heap.size E50) (.cells #[.int .i64 0, .int .i64 3, .int .i64 3] 3)
            have na : Blk (E50.alloc (.cells #[.int .i64 0, .int .i64 3, .int .i64 3] 3)) E50.heap.size 3 #[.int .i64 0, .int .i64 3, .int .i64 3] := Blk.new _ _ _
            replace nb := nb.below N_E51 nb.lt
            replace hsz := hsz.go N_E51
            have B_E51 := ex_trans B_E50 N_E51
            have X_E51 := ex_trans X_E50 N_E51
            clear N_E51
            generalize E50.alloc (.cells #[.int .i64 0, .int .i64 3, .int .i64 3] 3) = E51 at *
            obtain ⟨pna, hpna⟩ : ∃ p, E50.heap.size = p := ⟨_, rfl⟩
            rw [hpna] at na ⊢
            clear hpna
            go_wp2_with fail
            refine ⟨inEx X_E51, ?_⟩
            repeat (refine tq_quiet rfl ?_; go_big_quiet_step (fail); refine wpQuiet_nil ?_)
            refine tq_loud rfl ?_
            go_wp2_with fail
            refine (proveTruth_any (thrS []) Aoz Abz coz cbz rAz rcz E51 hsz (by decide) (by decide) thr_reads (some ⟨pna, 0, none⟩) (some ⟨pnb, 0, none⟩) 3 2 [0, 3, 3] [200, 250] (tri_sl na) (pair_sl nb)).mono ?_
            rintro e E52 ⟨rfl, hE52⟩
            replace nb := nb.below hE52 nb.lt
            replace hsz := hsz.go hE52
            replace na := na.below hE52 na.lt
            have B_E52 := ex_trans B_E51 hE52
            have X_E52 := ex_trans X_E51 hE52
            rw [thr_no]
            clear hsz na nb
            go_wp2_with fail
            refine ⟨inEx X_E52, ?_⟩
            repeat (refine tq_quiet rfl ?_; go_big_quiet_step (fail); refine wpQuiet_nil ?_)
            refine tq_done (r := [_]) rfl ?_
            go_wp2_with fail
            refine Met.intro (hJ _ _ ⟨⟨X_E52, exFrame (by kernel_rfl)⟩⟩)
          · go_wp2_with fail
            have N_E53 := ex_alloc (Below.refl E49.heap.size E49) (.cells #[.int .i64 0, .int .i64 3, .int .i64 3] 3)
            have na : Blk (E49.alloc (.cells #[.int .i64 0, .int .i64 3, .int .i64 3] 3)) E49.heap.size 3 #[.int .i64 0, .int .i64 3, .int .i64 3] := Blk.new _ _ _
            replace nb := nb.below N_E53 nb.lt
            have B_E53 := ex_trans B_E49 N_E53
            have X_E53 := ex_trans X_E49 N_E53
            clear N_E53
            generalize E49.alloc (.cells #[.int .i64 0, .int .i64 3, .int .i64 3] 3) = E53 at *
            obtain ⟨pna, hpna⟩ : ∃ p, E49.heap.size = p := ⟨_, rfl⟩
            rw [hpna] at na ⊢
            clear hpna
            go_wp2_with fail
            refine ⟨inEx X_E53, ?_⟩
            repeat (refine tq_quiet rfl ?_; go_big_quiet_step (fail); refine wpQuiet_nil ?_)
            refine tq_loud rfl ?_
            go_wp2_with fail
            refine (three_law [] none 0 E53 (by simp) (fun h => absurd h (by simp)) (fun x hx => by cases hx)).mono ?_
            rintro e E54 ⟨⟨vz, rfl, hvz⟩, hE54⟩
            replace nb := nb.below hE54 nb.lt
            replace na := na.below hE54 na.lt
            have B_E54 := ex_trans B_E53 hE54
            have X_E54 := ex_trans X_E53 hE54
            obtain ⟨Aoz, Abz, coz, cbz, rAz, rcz, rfl, hsz⟩ := hvz.se
            clear hvz
            rw [show ([] : List Xb).map (·.1) = [] from rfl] at hsz ⊢
            go_wp2_with fail
            refine ⟨inEx X_E54, ?_⟩
            repeat (refine tq_quiet rfl ?_; go_big_quiet_step (fail); refine wpQuiet_nil ?_)
            refine tq_loud rfl ?_
            go_wp2_with fail
            refine (proveTruth_any (thrS []) Aoz Abz coz cbz rAz rcz E54 hsz (by decide) (by decide) thr_reads (some ⟨pna, 0, none⟩) (some ⟨pnb, 0, none⟩) 3 2 [0, 3, 3] [200, 250] (tri_sl na) (pair_sl nb)).mono ?_
            rintro e E55 ⟨rfl, hE55⟩
            replace nb := nb.below hE55 nb.lt
            replace na := na.below hE55 na.lt
            replace hsz := hsz.go hE55
            have B_E55 := ex_trans B_E54 hE55
            have X_E55 := ex_trans X_E54 hE55
            rw [thr_no]
            clear hsz na nb
            go_wp2_with fail
            refine ⟨inEx X_E55, ?_⟩
            repeat (refine tq_quiet rfl ?_; go_big_quiet_step (fail); refine wpQuiet_nil ?_)
            refine tq_done (r := [_]) rfl ?_
            go_wp2_with fail
            refine Met.intro (hJ _ _ ⟨⟨X_E55, exFrame (by kernel_rfl)⟩⟩)
  as_aux_lemma =>
    rintro a2 R0 ⟨⟨X_R0, u, rfl⟩⟩
    have B_R0 := ex_trans B_V8 X_R0
    clear qd hpl g0 g1 g2 gd sk sn HRP lpn2 lpn3 HPN
    go_wp2_with fail
    refine (wrong_law R0).mono ?_
    rintro e R1 ⟨⟨v9, rfl, hv9⟩, hR1⟩
    have B_R1 := ex_trans B_R0 hR1
    obtain ⟨Ao9, Ab9, co9, cb9, rA9, rc9, rfl, hs9⟩ := hv9.se
    clear hv9
    go_wp2_with fail
    refine (Offsets_any (thrS [b3]) Ao9 Ab9 co9 cb9 rA9 rc9 R1 hs9 wrg_sm).mono ?_
    rintro e R2 ⟨⟨Aol, col, ol, evo, rfl, hol, _⟩, hR2⟩
    have B_R2 := ex_trans B_R1 hR2
    obtain rfl := wrg_offs hol.out
    clear hol hs9
    go_wp2_with fail
    refine (wrong_law R2).mono ?_
    rintro e R3 ⟨⟨v8, rfl, hv8⟩, hR3⟩
    have B_R3 := ex_trans B_R2 hR3
    obtain ⟨Ao8, Ab8, co8, cb8, rA8, rc8, rfl, hs8⟩ := hv8.se
    clear hv8
    go_wp2_with fail
    refine (Diff_any (thrS [b3]) Ao8 Ab8 co8 cb8 rA8 rc8 R3 hs8 wrg_sm 0 3).mono ?_
    rintro e R4 ⟨⟨wlo, whi, evw, rfl, hdw⟩, hR4⟩
    have B_R4 := ex_trans B_R3 hR4
    obtain rfl := wrg_diff hdw.out
    clear hdw hs8
    go_wp2_with fail
    refine (yard_law 2 R4).mono ?_
    rintro e RY1 ⟨⟨vy21, rfl, Ay21, cy21, rfl, hy21⟩, hRY1⟩
    have B_RY1 := ex_trans B_R4 hRY1
    replace hy21 := hy21.sl
    go_wp2_with fail
    have N_RL1 := ex_alloc (ex_alloc (Below.refl RY1.heap.size RY1) (.cells #[.int .i64 1, .int .i64 0] 3)) (.cells #[.int .i64 100, .slice (some ⟨RY1.heap.size, 0, none⟩) 2 2] 112)
    have gi : Blk ((RY1.alloc (.cells #[.int .i64 1, .int .i64 0] 3)).alloc (.cells #[.int .i64 100, .slice (some ⟨RY1.heap.size, 0, none⟩) 2 2] 112)) RY1.heap.size 3 #[.int .i64 1, .int .i64 0] := (Blk.new _ _ _).alloc _
    have gp : Blk ((RY1.alloc (.cells #[.int .i64 1, .int .i64 0] 3)).alloc (.cells #[.int .i64 100, .slice (some ⟨RY1.heap.size, 0, none⟩) 2 2] 112)) (RY1.heap.size + 1) 112 #[.int .i64 100, .slice (some ⟨RY1.heap.size, 0, none⟩) 2 2] := Blk.new' _ _ _ (by simp)
    generalize (RY1.alloc (.cells #[.int .i64 1, .int .i64 0] 3)).alloc (.cells #[.int .i64 100, .slice (some ⟨RY1.heap.size, 0, none⟩) 2 2] 112) = RL1 at *
    obtain ⟨pa1, hpi⟩ : ∃ p, RY1.heap.size = p := ⟨_, rfl⟩
    rw [hpi] at gi gp ⊢
    clear hpi
    obtain ⟨pb1, hpj⟩ : ∃ p, pa1 + 1 = p := ⟨_, rfl⟩
    rw [hpj] at gp ⊢
    clear hpj
    replace hy21 := (hy21.below N_RL1).up N_RL1.size
    have B_RL1 := ex_trans B_RY1 N_RL1
    refine (Known_any (yardW 2) Ay21 cy21 [⟨100, [1, 0]⟩] (some ⟨pb1, 0, none⟩) 1 (fun _ => some ⟨pa1, 0, none⟩) (fun _ => 2) RL1 hy21 (by decide) (one_pl gi gp) one_sm).mono ?_
    rintro e RK1 ⟨⟨Ak1, kl1, ck1, ek1, rfl, hkv, _, _⟩, hRK1⟩
    replace hy21 := (hy21.below hRK1).up hRK1.size
    have B_RK1 := ex_trans B_RL1 hRK1
    obtain rfl := bad_tells bad1 hkv.out
    clear hkv hy21 gi gp
    go_wp2_with fail
    refine (yard_law 2 RK1).mono ?_
    rintro e RY2 ⟨⟨vy22, rfl, Ay22, cy22, rfl, hy22⟩, hRY2⟩
    have B_RY2 := ex_trans B_RK1 hRY2
    replace hy22 := hy22.sl
    go_wp2_with fail
    have N_RL2 := ex_alloc (ex_alloc (Below.refl RY2.heap.size RY2) (.cells #[.int .i64 0, .int .i64 1] 3)) (.cells #[.int .i64 120, .slice (some ⟨RY2.heap.size, 0, none⟩) 2 2] 112)
    have gi : Blk ((RY2.alloc (.cells #[.int .i64 0, .int .i64 1] 3)).alloc (.cells #[.int .i64 120, .slice (some ⟨RY2.heap.size, 0, none⟩) 2 2] 112)) RY2.heap.size 3 #[.int .i64 0, .int .i64 1] := (Blk.new _ _ _).alloc _
    have gp : Blk ((RY2.alloc (.cells #[.int .i64 0, .int .i64 1] 3)).alloc (.cells #[.int .i64 120, .slice (some ⟨RY2.heap.size, 0, none⟩) 2 2] 112)) (RY2.heap.size + 1) 112 #[.int .i64 120, .slice (some ⟨RY2.heap.size, 0, none⟩) 2 2] := Blk.new' _ _ _ (by simp)
    generalize (RY2.alloc (.cells #[.int .i64 0, .int .i64 1] 3)).alloc (.cells #[.int .i64 120, .slice (some ⟨RY2.heap.size, 0, none⟩) 2 2] 112) = RL2 at *
    obtain ⟨pa2, hpi⟩ : ∃ p, RY2.heap.size = p := ⟨_, rfl⟩
    rw [hpi] at gi gp ⊢
    clear hpi
    obtain ⟨pb2, hpj⟩ : ∃ p, pa2 + 1 = p := ⟨_, rfl⟩
    rw [hpj] at gp ⊢
    clear hpj
    replace hy22 := (hy22.below N_RL2).up N_RL2.size
    have B_RL2 := ex_trans B_RY2 N_RL2
    refine (Known_any (yardW 2) Ay22 cy22 [⟨120, [0, 1]⟩] (some ⟨pb2, 0, none⟩) 1 (fun _ => some ⟨pa2, 0, none⟩) (fun _ => 2) RL2 hy22 (by decide) (one_pl gi gp) one_sm).mono ?_
    rintro e RK2 ⟨⟨Ak2, kl2, ck2, ek2, rfl, hkv, _, _⟩, hRK2⟩
    replace hy22 := (hy22.below hRK2).up hRK2.size
    have B_RK2 := ex_trans B_RL2 hRK2
    obtain rfl := bad_tells bad2 hkv.out
    clear hkv hy22 gi gp
    go_wp2_with fail
    refine (yard_blk 3 RK2).mono ?_
    rintro e RB ⟨⟨gf, rfl, hgf, qf⟩, hRB⟩
    have B_RB := ex_trans B_RK2 hRB
    have hgp : gf < RB.heap.size := qf.lt
    have hgw : w.heap.size ≤ gf := by have := B_RK2.size; omega
    have hbw : w.heap.size ≤ RB.heap.size := B_RB.size
    go_upto_region 14 with fail
    have N_RC := ex_alloc (Below.refl RB.heap.size RB) (.cells #[.slice (some ⟨gf, 0, none⟩) 4 4, .int .i64 3, .int .i64 2] 65)
    have qw : Blk (RB.alloc (.cells #[.slice (some ⟨gf, 0, none⟩) 4 4, .int .i64 3, .int .i64 2] 65)) RB.heap.size 65 #[.slice (some ⟨gf, 0, none⟩) 4 4, .int .i64 3, .int .i64 2] := Blk.new _ _ _
    replace qf := qf.below N_RC qf.lt
    have B_RC := ex_trans B_RB N_RC
    clear N_RC
    generalize RB.alloc (.cells #[.slice (some ⟨gf, 0, none⟩) 4 4, .int .i64 3, .int .i64 2] 65) = RC at *
    obtain ⟨pw, hpw⟩ : ∃ p, RB.heap.size = p := ⟨_, rfl⟩
    rw [hpw] at qw hgp hbw ⊢
    have w0c : RC.cell? ⟨pw, 0, none⟩ = some (.slice (some ⟨gf, 0, none⟩) 4 4) := qw.cell 0
    have lw := qw.lt
    have lf := qf.lt
    refine wp_region_ext_mix 4 [(false, 0), (false, 1), (false, 3), (true, 2)] (by kernel_rfl) (by kernel_rfl) (by intro d _ _ _ _ h; cases d <;> exact h) ?_
    have D_RC := (Below.refl RC.heap.size RC).drew
    obtain ⟨RD, hRD⟩ : ∃ Wd, RC.drew = Wd := ⟨_, rfl⟩
    rw [hRD] at D_RC ⊢
    clear hRD
    replace qf := qf.below D_RC qf.lt
    replace qw := qw.below D_RC qw.lt
    have B_RD := ex_trans B_RC D_RC
    repeat (refine mix_quiet rfl ?_; go_big_quiet_step (fail); refine wpQuiet_nil ?_)
    refine mix_loud rfl ?_
    go_wp2_with fail
    refine (between_law 400 500 RD).mono ?_
    rintro e RE ⟨rfl, hRE⟩
    replace qf := qf.below hRE qf.lt
    replace qw := qw.below hRE qw.lt
    have B_RE := ex_trans B_RD hRE
    have X_RE := ex_trans D_RC hRE
    go_wp2_with fail
    refine ⟨inEx X_RE, ?_⟩
    clear w0c lw lf
    have lw := qw.lt
    have lf := qf.lt
    have fw := qw.frozen0
    have ff := qf.frozen0
    have w2c : RE.cell? ⟨pw, 2, none⟩ = some (.int .i64 2) := qw.cell 2
    have f4c : RE.cell? ⟨gf, 4, none⟩ = some (.int .i64 150) := qf.cell 4
    have f5c : RE.cell? ⟨gf, 5, none⟩ = some (.int .i64 300) := qf.cell 5
    refine mix_nil (r := [_, _, _]) rfl ?_
    go_upto_region 15 with fail
    have gw : Blk (((RE.setCell ⟨pw, 2, none⟩ (.int .i64 1)).setCell ⟨gf, 4, none⟩ (.int .i64 400)).setCell ⟨gf, 5, none⟩ (.int .i64 500)) pw 65 #[.slice (some ⟨gf, 0, none⟩) 4 4, .int .i64 3, .int .i64 1] := by
      have z := ((qw.set_ 2 (.int .i64 1)).far (p := ⟨gf, 4, none⟩) (by show pw ≠ gf; omega) (.int .i64 400)).far (p := ⟨gf, 5, none⟩) (by show pw ≠ gf; omega) (.int .i64 500)
      simpa only [List.setIfInBounds_toArray, List.set_cons_zero, List.set_cons_succ] using z
    have gr : Blk (((RE.setCell ⟨pw, 2, none⟩ (.int .i64 1)).setCell ⟨gf, 4, none⟩ (.int .i64 400)).setCell ⟨gf, 5, none⟩ (.int .i64 500)) gf 41 #[.int .i64 0, .int .i64 100, .int .i64 50, .int .i64 200, .int .i64 400, .int .i64 500, .int .i64 90, .int .i64 160] := by
      have z := ((qf.far (p := ⟨pw, 2, none⟩) (by show gf ≠ pw; omega) (.int .i64 1)).set_ 4 (.int .i64 400)).set_ 5 (.int .i64 500)
      simpa only [List.setIfInBounds_toArray, List.set_cons_zero, List.set_cons_succ] using z
    have B_RF : Below w.heap.size w (((RE.setCell ⟨pw, 2, none⟩ (.int .i64 1)).setCell ⟨gf, 4, none⟩ (.int .i64 400)).setCell ⟨gf, 5, none⟩ (.int .i64 500)) := ex_set (p := ⟨gf, 5, none⟩) (ex_set (p := ⟨gf, 4, none⟩) (ex_set (p := ⟨pw, 2, none⟩) B_RE hbw _) hgw _) hgw _
    clear qw qf w2c f4c f5c lw lf fw ff
    generalize ((RE.setCell ⟨pw, 2, none⟩ (.int .i64 1)).setCell ⟨gf, 4, none⟩ (.int .i64 400)).setCell ⟨gf, 5, none⟩ (.int .i64 500) = RF at *
    have c0 : RF.cell? ⟨pw, 0, none⟩ = some (.slice (some ⟨gf, 0, none⟩) 4 4) := gw.cell 0
    have c1 : RF.cell? ⟨pw, 1, none⟩ = some (.int .i64 3) := gw.cell 1
    have c2 : RF.cell? ⟨pw, 2, none⟩ = some (.int .i64 1) := gw.cell 2
    have lw := gw.lt
    have hfs : SlAt RF RF.heap.size 2 (some ⟨gf, 0, none⟩) 4 (fR farW.rng) := fun _ => ⟨gf, 0, rfl, gr.lt, fun k j hk hj => by
      rw [gr.cell]
      match k, hk, j, hj with
      | 0, _, 0, _ => rfl
      | 0, _, 1, _ => rfl
      | 1, _, 0, _ => rfl
      | 1, _, 1, _ => rfl
      | 2, _, 0, _ => rfl
      | 2, _, 1, _ => rfl
      | 3, _, 0, _ => rfl
      | 3, _, 1, _ => rfl⟩
    go_wp2_with fail
    refine (Plan_any farW (some ⟨gf, 0, none⟩) 4 RF hfs (by decide)).mono ?_
    rintro e RG ⟨⟨Afp, fp, cfp, rAf, rcf, evf, rfl, hfv, _, _⟩, hRG⟩
    have B_RG := ex_trans B_RF hRG
    obtain rfl := farW_plan hfv.out
    clear hfv hfs gw gr c0 c1 c2 lw
    go_wp2_with fail
    have N_RH := ex_alloc (Below.refl RG.heap.size RG) (.cells #[.int .i64 0, .int .i64 1, .int .i64 0, .int .i64 2] 118)
    have qr : Blk (RG.alloc (.cells #[.int .i64 0, .int .i64 1, .int .i64 0, .int .i64 2] 118)) RG.heap.size 118 #[.int .i64 0, .int .i64 1, .int .i64 0, .int .i64 2] := Blk.new _ _ _
    have B_RH := ex_trans B_RG N_RH
    clear N_RH
    generalize RG.alloc (.cells #[.int .i64 0, .int .i64 1, .int .i64 0, .int .i64 2] 118) = RH at *
    obtain ⟨pr, hpr⟩ : ∃ p, RG.heap.size = p := ⟨_, rfl⟩
    rw [hpr] at qr ⊢
    clear hpr
    refine (dipped_law (some ⟨pr, 0, none⟩) 2 2 RH).mono ?_
    rintro e RI ⟨rfl, hRI⟩
    replace qr := qr.below hRI qr.lt
    have B_RI := ex_trans B_RH hRI
    go_wp2_with fail
    have N_RJ := ex_alloc (Below.refl RI.heap.size RI) (.cells #[.int .i64 100, .int .i64 300, .slice (some ⟨pr, 0, none⟩) 2 2] 116)
    have qt : Blk (RI.alloc (.cells #[.int .i64 100, .int .i64 300, .slice (some ⟨pr, 0, none⟩) 2 2] 116)) RI.heap.size 116 #[.int .i64 100, .int .i64 300, .slice (some ⟨pr, 0, none⟩) 2 2] := Blk.new _ _ _
    replace qr := qr.below N_RJ qr.lt
    have B_RJ := ex_trans B_RI N_RJ
    clear N_RJ
    generalize RI.alloc (.cells #[.int .i64 100, .int .i64 300, .slice (some ⟨pr, 0, none⟩) 2 2] 116) = RJ at *
    obtain ⟨pt, hpt⟩ : ∃ p, RI.heap.size = p := ⟨_, rfl⟩
    rw [hpt] at qt ⊢
    clear hpt
    refine (three_law [(b4, some ⟨pr, 0, none⟩, 2)] (some ⟨pt, 0, none⟩) 1 RJ (by simp) (fun _ => ⟨pt, 0, rfl, qt.lt, fun k j hk hj => ?_⟩) (fun x hx => ?_)).mono ?_
    · have hk : k < 1 := hk
      rw [qt.cell]
      match k, hk, j, hj with
      | 0, _, 0, _ => rfl
      | 0, _, 1, _ => rfl
      | 0, _, 2, _ => rfl
    · rw [List.mem_singleton.1 hx]
      exact .inr ⟨pr, _, rfl, Nat.zero_le _, qr, fun k j hk hj => by
          match k, hk, j, hj with
          | 0, _, 0, _ => rfl
          | 0, _, 1, _ => rfl
          | 1, _, 0, _ => rfl
          | 1, _, 1, _ => rfl⟩
    rintro e RK ⟨⟨vk, rfl, hvk⟩, hRK⟩
    have B_RK := ex_trans B_RJ hRK
    obtain ⟨Aok, Abk, cok, cbk, rAk, rck, rfl, hsk⟩ := hvk.se
    clear hvk
    rw [show [((b4, some ⟨pr, 0, none⟩, 2) : Xb)].map (·.1) = [b4] from rfl] at hsk ⊢
    go_wp2_with fail
    refine (Blame_any (thrS [b4]) Aok Abk cok cbk rAk rck RK hsk two_sm).mono ?_
    rintro e RM ⟨⟨Apl2, pl2, cpl2, Aal2, al2, cal2, evb2, rfl, hbl2, _, _, _, _⟩, hRM⟩
    have B_RM := ex_trans B_RK hRM
    obtain rfl := two_blame hbl2.out
    clear hbl2 hsk qr qt
    go_wp2_with fail
    refine (three_law [] none 0 RM (by simp) (fun h => absurd h (by simp)) (fun x hx => by cases hx)).mono ?_
    rintro e RN ⟨⟨vm, rfl, hvm⟩, hRN⟩
    have B_RN := ex_trans B_RM hRN
    obtain ⟨Aom, Abm, com, cbm, rAm, rcm, rfl, hsm⟩ := hvm.se
    clear hvm
    rw [show ([] : List Xb).map (·.1) = [] from rfl] at hsm ⊢
    go_wp2_with fail
    refine (three_law [] none 0 RN (by simp) (fun h => absurd h (by simp)) (fun x hx => by cases hx)).mono ?_
    rintro e RO ⟨⟨vh, rfl, hvh⟩, hRO⟩
    replace hsm := hsm.go hRO
    have B_RO := ex_trans B_RN hRO
    obtain ⟨Aoh, Abh, coh, cbh, rAh, rch, rfl, hsh⟩ := hvh.se
    clear hvh
    rw [show ([] : List Xb).map (·.1) = [] from rfl] at hsh ⊢
    go_wp2_with fail
    refine (yard_law 1 RO).mono ?_
    rintro e RP ⟨⟨vyn, rfl, Ayn, cyn, rfl, hyn⟩, hRP⟩
    replace hsm := hsm.go hRP
    replace hsh := hsh.go hRP
    have B_RP := ex_trans B_RO hRP
    replace hyn := hyn.sl
    go_upto_region 18 with fail
    show Code.wp _ _ _ _ (((RP.alloc (.cells #[.slice Aom 3 com, .int .i64 1, .slice Abm 2 cbm] 34)).alloc (.cells #[.slice Aoh 3 coh, .int .i64 1, .slice Abh 2 cbh] 34)).alloc (.cells #[.slice Ayn 4 cyn, .int .i64 1, .int .i64 2] 65))
    have N_RQ := ex_alloc (ex_alloc (ex_alloc (Below.refl RP.heap.size RP) (.cells #[.slice Aom 3 com, .int .i64 1, .slice Abm 2 cbm] 34)) (.cells #[.slice Aoh 3 coh, .int .i64 1, .slice Abh 2 cbh] 34)) (.cells #[.slice Ayn 4 cyn, .int .i64 1, .int .i64 2] 65)
    have qm : Blk (((RP.alloc (.cells #[.slice Aom 3 com, .int .i64 1, .slice Abm 2 cbm] 34)).alloc (.cells #[.slice Aoh 3 coh, .int .i64 1, .slice Abh 2 cbh] 34)).alloc (.cells #[.slice Ayn 4 cyn, .int .i64 1, .int .i64 2] 65)) RP.heap.size 34 #[.slice Aom 3 com, .int .i64 1, .slice Abm 2 cbm] := ((Blk.new _ _ _).alloc _).alloc _
    have qh : Blk (((RP.alloc (.cells #[.slice Aom 3 com, .int .i64 1, .slice Abm 2 cbm] 34)).alloc (.cells #[.slice Aoh 3 coh, .int .i64 1, .slice Abh 2 cbh] 34)).alloc (.cells #[.slice Ayn 4 cyn, .int .i64 1, .int .i64 2] 65)) (RP.heap.size + 1) 34 #[.slice Aoh 3 coh, .int .i64 1, .slice Abh 2 cbh] := (Blk.new' _ _ _ (by simp)).alloc _
    have qn : Blk (((RP.alloc (.cells #[.slice Aom 3 com, .int .i64 1, .slice Abm 2 cbm] 34)).alloc (.cells #[.slice Aoh 3 coh, .int .i64 1, .slice Abh 2 cbh] 34)).alloc (.cells #[.slice Ayn 4 cyn, .int .i64 1, .int .i64 2] 65)) (RP.heap.size + 1 + 1) 65 #[.slice Ayn 4 cyn, .int .i64 1, .int .i64 2] := Blk.new' _ _ _ (by simp)
    generalize ((RP.alloc (.cells #[.slice Aom 3 com, .int .i64 1, .slice Abm 2 cbm] 34)).alloc (.cells #[.slice Aoh 3 coh, .int .i64 1, .slice Abh 2 cbh] 34)).alloc (.cells #[.slice Ayn 4 cyn, .int .i64 1, .int .i64 2] 65) = RQ at *
    obtain ⟨pm, hpm⟩ : ∃ p, RP.heap.size = p := ⟨_, rfl⟩
    rw [hpm] at qm qh qn ⊢
    have hpm2 : RP.heap.size ≤ pm := by omega
    have hgm : w.heap.size ≤ pm := by have := B_RP.size; omega
    clear hpm
    obtain ⟨ph, hph⟩ : ∃ p, pm + 1 = p := ⟨_, rfl⟩
    obtain ⟨pn, hpn⟩ : ∃ p, pm + 1 + 1 = p := ⟨_, rfl⟩
    rw [hpn] at qn ⊢
    rw [hph] at qh ⊢
    obtain ⟨oc, hoc, hmk⟩ := run_make7
    have lm := qm.lt
    have lh := qh.lt
    have fm := qm.frozen0
    have fh := qh.frozen0
    have m0 : RQ.cell? ⟨pm, 0, none⟩ = some (.slice Aom 3 com) := qm.cell 0
    have h1c : RQ.cell? ⟨ph, 1, none⟩ = some (.int .i64 1) := qh.cell 1
    go_upto_region 20 with fail
    have gm : Blk (((RQ.setCell ⟨pm, 0, none⟩ (.slice (some ⟨RQ.heap.size, 0, none⟩) 7 7)).setCell ⟨ph, 1, none⟩ (.int .i64 21)).alloc (.cells oc 41)) pm 34 #[.slice (some ⟨RQ.heap.size, 0, none⟩) 7 7, .int .i64 1, .slice Abm 2 cbm] := by
      have z := ((qm.set_ 0 (.slice (some ⟨RQ.heap.size, 0, none⟩) 7 7)).far (p := ⟨ph, 1, none⟩) (by show pm ≠ ph; omega) (.int .i64 21)).alloc (.cells oc 41)
      simpa only [List.setIfInBounds_toArray, List.set_cons_zero, List.set_cons_succ] using z
    have gh : Blk (((RQ.setCell ⟨pm, 0, none⟩ (.slice (some ⟨RQ.heap.size, 0, none⟩) 7 7)).setCell ⟨ph, 1, none⟩ (.int .i64 21)).alloc (.cells oc 41)) ph 34 #[.slice Aoh 3 coh, .int .i64 21, .slice Abh 2 cbh] := by
      have z := ((qh.far (p := ⟨pm, 0, none⟩) (by show ph ≠ pm; omega) (.slice (some ⟨RQ.heap.size, 0, none⟩) 7 7)).set_ 1 (.int .i64 21)).alloc (.cells oc 41)
      simpa only [List.setIfInBounds_toArray, List.set_cons_zero, List.set_cons_succ] using z
    have gn : Blk (((RQ.setCell ⟨pm, 0, none⟩ (.slice (some ⟨RQ.heap.size, 0, none⟩) 7 7)).setCell ⟨ph, 1, none⟩ (.int .i64 21)).alloc (.cells oc 41)) pn 65 #[.slice Ayn 4 cyn, .int .i64 1, .int .i64 2] := ((qn.far (p := ⟨pm, 0, none⟩) (by show pn ≠ pm; omega) _).far (p := ⟨ph, 1, none⟩) (by show pn ≠ ph; omega) _).alloc _
    have gz : Blk (((RQ.setCell ⟨pm, 0, none⟩ (.slice (some ⟨RQ.heap.size, 0, none⟩) 7 7)).setCell ⟨ph, 1, none⟩ (.int .i64 21)).alloc (.cells oc 41)) RQ.heap.size 41 oc := Blk.new' _ _ _ (by simp)
    have N_FW : Below RP.heap.size RP (((RQ.setCell ⟨pm, 0, none⟩ (.slice (some ⟨RQ.heap.size, 0, none⟩) 7 7)).setCell ⟨ph, 1, none⟩ (.int .i64 21)).alloc (.cells oc 41)) := ex_alloc (ex_set (p := ⟨ph, 1, none⟩) (ex_set (p := ⟨pm, 0, none⟩) N_RQ hpm2 _) (by show RP.heap.size ≤ ph; omega) _) _
    clear qm qh qn m0 h1c lm lh fm fh N_RQ
    generalize ((RQ.setCell ⟨pm, 0, none⟩ (.slice (some ⟨RQ.heap.size, 0, none⟩) 7 7)).setCell ⟨ph, 1, none⟩ (.int .i64 21)).alloc (.cells oc 41) = FW at *
    obtain ⟨pz, hpz⟩ : ∃ p, RQ.heap.size = p := ⟨_, rfl⟩
    rw [hpz] at gm gz ⊢
    clear hpz
    replace hsm := hsm.go N_FW
    replace hsh := hsh.go N_FW
    replace hyn := (hyn.below N_FW).up N_FW.size
    have B_FW := ex_trans B_RP N_FW
    have gmc0 : FW.cell? ⟨pm, 0, none⟩ = some (.slice (some ⟨pz, 0, none⟩) 7 7) := gm.cell 0
    have gmc1 : FW.cell? ⟨pm, 1, none⟩ = some (.int .i64 1) := gm.cell 1
    have gmc2 : FW.cell? ⟨pm, 2, none⟩ = some (.slice Abm 2 cbm) := gm.cell 2
    have gml := gm.lt
    go_wp2_with fail
    refine (check_any ⟨z7, 1, (thrS []).baths⟩ (some ⟨pz, 0, none⟩) Abm 7 cbm rAm rcm FW ⟨zer7 hoc gz, hsm.baths, hsm.reads⟩ thr_reads (by decide) (by decide)).mono ?_
    rintro e Y1 ⟨rfl, hY1⟩
    replace hsm := hsm.go hY1
    replace hsh := hsh.go hY1
    replace hyn := (hyn.below hY1).up hY1.size
    replace gm := gm.below hY1 gm.lt
    replace gh := gh.below hY1 gh.lt
    replace gn := gn.below hY1 gn.lt
    replace gz := gz.below hY1 gz.lt
    have B_Y1 := ex_trans B_FW hY1
    rw [many_ck]
    clear hsm gz
    clear gmc0 gmc1 gmc2 gml gm
    have ghc0 : Y1.cell? ⟨ph, 0, none⟩ = some (.slice Aoh 3 coh) := gh.cell 0
    have ghc1 : Y1.cell? ⟨ph, 1, none⟩ = some (.int .i64 21) := gh.cell 1
    have ghc2 : Y1.cell? ⟨ph, 2, none⟩ = some (.slice Abh 2 cbh) := gh.cell 2
    have ghl := gh.lt
    go_wp2_with fail
    refine (check_any ⟨(thrS []).offs, 21, (thrS []).baths⟩ Aoh Abh coh cbh rAh rch Y1 ⟨hsh.offs, hsh.baths, hsh.reads⟩ thr_reads (by decide) (by decide)).mono ?_
    rintro e Y2 ⟨rfl, hY2⟩
    replace hsh := hsh.go hY2
    replace hyn := (hyn.below hY2).up hY2.size
    replace gh := gh.below hY2 gh.lt
    replace gn := gn.below hY2 gn.lt
    have B_Y2 := ex_trans B_Y1 hY2
    rw [hot_ck]
    clear hsh
    clear ghc0 ghc1 ghc2 ghl gh
    go_wp2_with fail
    refine (check_any ⟨[], 0, []⟩ none none 0 0 (fun _ => none) (fun _ => 0) Y2 ⟨fun h => absurd h (by simp), fun h => absurd h (by simp), fun b hb => absurd hb (by simp)⟩ (fun k hk => absurd hk (by simp)) (by simp) (by simp)).mono ?_
    rintro e Y3 ⟨rfl, hY3⟩
    replace hyn := (hyn.below hY3).up hY3.size
    replace gn := gn.below hY3 gn.lt
    have B_Y3 := ex_trans B_Y2 hY3
    rw [none_ck]
    have gnc0 : Y3.cell? ⟨pn, 0, none⟩ = some (.slice Ayn 4 cyn) := gn.cell 0
    have gnc1 : Y3.cell? ⟨pn, 1, none⟩ = some (.int .i64 1) := gn.cell 1
    have gnc2 : Y3.cell? ⟨pn, 2, none⟩ = some (.int .i64 2) := gn.cell 2
    have gnl := gn.lt
    go_wp2_with fail
    refine (ckWorks_any (yardW 1) Ayn cyn Y3 hyn (by decide)).mono ?_
    rintro e Y4 ⟨rfl, hY4⟩
    replace hyn := (hyn.below hY4).up hY4.size
    replace gn := gn.below hY4 gn.lt
    have B_Y4 := ex_trans B_Y3 hY4
    rw [yard1_ck]
    clear hyn
    clear gnc0 gnc1 gnc2 gnl gn
    go_wp2_with fail
    have N_Y5 := ex_alloc (Below.refl Y4.heap.size Y4) (.cells oc 41)
    have gy : Blk (Y4.alloc (.cells oc 41)) Y4.heap.size 41 oc := Blk.new _ _ _
    have B_Y5 := ex_trans B_Y4 N_Y5
    clear N_Y5
    generalize Y4.alloc (.cells oc 41) = Y5 at *
    obtain ⟨py, hpy⟩ : ∃ p, Y4.heap.size = p := ⟨_, rfl⟩
    rw [hpy] at gy ⊢
    clear hpy
    refine (ckWorks_any ⟨z7, 0, 0⟩ (some ⟨py, 0, none⟩) 7 Y5 (zer7 hoc gy) (by decide)).mono ?_
    rintro e Y6 ⟨rfl, hY6⟩
    replace gy := gy.below hY6 gy.lt
    have B_Y6 := ex_trans B_Y5 hY6
    rw [z7_ck]
    go_wp2_with fail
    refine (wakes_any Y6).mono ?_
    rintro e Y7 ⟨rfl, hY7⟩
    replace gy := gy.below hY7 gy.lt
    have B_Y7 := ex_trans B_Y6 hY7
    go_wp2
    go_ret
    exact ⟨rfl, B_Y7⟩
end Go.Proofs.Ytnplefhigbkbbaa
end
